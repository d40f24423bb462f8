/-
  The arguments' readings: the prices' other fields; a place in a list; a verdict.
-/
import Derived.Test.YtnehidbpliknaaaPr
import Derived.Test.YtnehidbpliknaaaPy
namespace Go.Proofs.Pen
open Go Go.RowKit Go.Proofs.E Go.ChangeShapes Go.WideShapes Go.ChangeAt

section
variable {H : Type} {enc : TypeId × Value → H} {W : World} {sp : Nat → Bool} {held : Bool} {base : Nat} {v : Value} {d : DataW H} {ps : List MemPlace}
theorem rd_sl {fuel : Nat} {t e : TypeId} {k : Nat} {cs : List Value} {x : DataW H × List MemPlace} (ht : Try.prog.underlying t = some (.slice e)) (hC : Try.prog.cellsOf e = k) (hk : 0 < k) (h : DataW.trod enc Try.prog W 0 sp held fuel t cs = some x) : ∃ p, cs = [sl p] := by
  obtain ⟨A, n, c, xs, rfl, _⟩ := rd_rows ht hC hk h
  exact ⟨(A, n, c), rfl⟩
theorem open_prices2 (hv : Value.okWide Try.prog W .any base 26 v) (h : DataW.Trod enc Try.prog W 0 sp held 26 v d ps) :
    ∃ p0 p1 p2 p3 p4 fA fn fc fines days, v = .agg #[sl p0, sl p1, sl p2, sl p3, .int .i64 p4, .slice fA fn fc, .int .i64 days] ∧ IntsAt W fA fn fines := by
  obtain ⟨cs, rfl, hsz⟩ := okWide_struct Try.underlying26 hv
  rw [cells26] at hsz
  obtain ⟨l⟩ := cs
  match l, hsz with
  | [c0, c1, c2, c3, c4, c5, c6], _ =>
    obtain ⟨_, hf⟩ := h
    obtain ⟨_, _, h0⟩ := rd_field Try.underlying26 hf 0 rfl (show Try.prog.cellsOf 22 = 1 by kernel_rfl)
    obtain ⟨_, _, h1⟩ := rd_field Try.underlying26 hf 1 rfl (show Try.prog.cellsOf 23 = 1 by kernel_rfl)
    obtain ⟨_, _, h2⟩ := rd_field Try.underlying26 hf 2 rfl cells24
    obtain ⟨_, _, h3⟩ := rd_field Try.underlying26 hf 3 rfl cells24
    obtain ⟨_, _, h4⟩ := rd_field Try.underlying26 hf 4 rfl cells3
    obtain ⟨_, _, h5⟩ := rd_field Try.underlying26 hf 5 rfl cells24
    obtain ⟨_, _, h6⟩ := rd_field Try.underlying26 hf 6 rfl cells3
    obtain ⟨p0, e0⟩ := rd_sl Try.underlying22 rfl (by decide +kernel) h0
    obtain ⟨p1, e1⟩ := rd_sl Try.underlying23 rfl (by decide +kernel) h1
    obtain ⟨p2, e2⟩ := rd_sl Try.underlying24 cells3 (by decide) h2
    obtain ⟨p3, e3⟩ := rd_sl Try.underlying24 cells3 (by decide) h3
    obtain ⟨p4, e4, _⟩ := rd_int Try.underlying3 h4
    obtain ⟨A, n, c', xs, e5, hx⟩ := rd_ints h5
    obtain ⟨m6, e6, _⟩ := rd_int Try.underlying3 h6
    simp [Value.cells] at e0 e1 e2 e3 e4 e5 e6
    subst e0 e1 e2 e3 e4 e5 e6
    exact ⟨p0, p1, p2, p3, p4, _, _, _, xs, m6, rfl, hx⟩
theorem open_place (hv : Value.okWide Try.prog W .any base 40 v) (h : DataW.Trod enc Try.prog W 0 sp held 40 v d ps) :
    ∃ A n c vs i, v = .agg #[.slice A n c, .int .i64 i] ∧ VsAt W A n vs := by
  obtain ⟨cs, rfl, hsz⟩ := okWide_struct Try.underlying40 hv
  rw [show Try.prog.cellsOf 40 = 2 by kernel_rfl] at hsz
  obtain ⟨l⟩ := cs
  match l, hsz with
  | [c0, c1], _ =>
    obtain ⟨_, hf⟩ := h
    obtain ⟨_, _, h0⟩ := rd_field Try.underlying40 hf 0 rfl cells27
    obtain ⟨_, _, h1⟩ := rd_field Try.underlying40 hf 1 rfl cells3
    obtain ⟨A, n, c', xs, e0, hx⟩ := rd_verds h0
    obtain ⟨i, e1, _⟩ := rd_int Try.underlying3 h1
    simp [Value.cells] at e0 e1
    subst e0 e1
    exact ⟨_, _, _, xs, i, rfl, hx⟩
theorem open_verd (hv : Value.okWide Try.prog W .any base 37 v) (h : DataW.Trod enc Try.prog W 0 sp held 37 v d ps) : ∃ m : V, v = .agg m.cells.toArray := by
  obtain ⟨cs, rfl, hsz⟩ := okWide_struct Try.underlying37 hv
  rw [cells37] at hsz
  obtain ⟨_, hf⟩ := h
  obtain ⟨m, hm⟩ := rd_verd (by simpa [Value.cells] using hsz) hf
  refine ⟨m, ?_⟩
  rw [hm]
  simp [Value.cells]
end
def zPlace : Value := .agg #[.slice none 0 0, .int .i64 0]
def zVerd : Value := .agg #[.int .i64 0, .int .i64 0, .int .i64 0, .int .i64 0]

end Go.Proofs.Pen
