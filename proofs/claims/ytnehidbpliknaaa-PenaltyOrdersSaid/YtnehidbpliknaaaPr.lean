/-
  The arguments' readings.
-/
import Derived.Test.YtnehidbpliknaaaPf
import Derived.Test.YtnehidbpliknaaaEl
namespace Go.Proofs.Pen
open Go Go.RowKit Go.Proofs.E Go.ChangeShapes Go.WideShapes Go.ChangeAt

theorem own : ownKnob Try.prog.godebug = none := by kernel_rfl
theorem laidOut : laidOutB Try.prog = true := by kernel_rfl
theorem cells3 : Try.prog.cellsOf 3 = 1 := by kernel_rfl
theorem cells24 : Try.prog.cellsOf 24 = 1 := by kernel_rfl
theorem cells37 : Try.prog.cellsOf 37 = 4 := by kernel_rfl
theorem cells26 : Try.prog.cellsOf 26 = 7 := by kernel_rfl
theorem cells27 : Try.prog.cellsOf 27 = 1 := by kernel_rfl
section
variable {H : Type} {enc : TypeId × Value → H} {W : World} {sp : Nat → Bool} {held : Bool} {base : Nat} {v : Value} {d : DataW H} {ps : List MemPlace}
theorem rd_ints {fuel : Nat} {cs : List Value} {x : DataW H × List MemPlace} (h : DataW.trod enc Try.prog W 0 sp held fuel 24 cs = some x) : ∃ A n c xs, cs = [.slice A n c] ∧ IntsAt W A n xs := by
  obtain ⟨A, n, c, xs, rfl, hs, _, _, hx⟩ := rd_rows Try.underlying24 cells3 (by decide) h
  obtain ⟨ys, hy, _⟩ := hs.recode (enc := encInt) (Q := fun _ => True) fun x hx' => by
    obtain ⟨_, f, y, ht⟩ := hx x hx'
    obtain ⟨m, rfl, _⟩ := rd_int Try.underlying3 ht
    exact ⟨m, rfl, trivial⟩
  exact ⟨A, n, c, ys, rfl, hy⟩
theorem rd_verd {fuel : Nat} {cs : List Value} {x : DataW H × List MemPlace} (hl : cs.length = 4) (h : DataW.trod enc Try.prog W 0 sp held fuel 37 cs = some x) : ∃ v : V, v.cells = cs := by
  match cs, hl with
  | [c0, c1, c2, c3], _ =>
    obtain ⟨_, _, h0⟩ := rd_field Try.underlying37 h 0 rfl cells3
    obtain ⟨_, _, h1⟩ := rd_field Try.underlying37 h 1 rfl cells3
    obtain ⟨_, _, h2⟩ := rd_field Try.underlying37 h 2 rfl cells3
    obtain ⟨_, _, h3⟩ := rd_field Try.underlying37 h 3 rfl cells3
    obtain ⟨m0, e0, _⟩ := rd_int Try.underlying3 h0
    obtain ⟨m1, e1, _⟩ := rd_int Try.underlying3 h1
    obtain ⟨m2, e2, _⟩ := rd_int Try.underlying3 h2
    obtain ⟨m3, e3, _⟩ := rd_int Try.underlying3 h3
    simp at e0 e1 e2 e3
    subst e0 e1 e2 e3
    exact ⟨⟨m0, m1, m2, m3⟩, rfl⟩
theorem rd_verds {fuel : Nat} {cs : List Value} {x : DataW H × List MemPlace} (h : DataW.trod enc Try.prog W 0 sp held fuel 27 cs = some x) : ∃ A n c xs, cs = [.slice A n c] ∧ VsAt W A n xs := by
  obtain ⟨A, n, c, xs, rfl, hs, _, _, hx⟩ := rd_rows Try.underlying27 cells37 (by decide) h
  obtain ⟨ys, hy, _⟩ := hs.recode (enc := V.cells) (Q := fun _ => True) fun x hx' => by
    obtain ⟨hl, f, y, ht⟩ := hx x hx'
    obtain ⟨v, hv⟩ := rd_verd hl ht
    exact ⟨v, hv, trivial⟩
  exact ⟨A, n, c, ys, rfl, hy⟩
theorem open_verds (hv : Value.okWide Try.prog W .any base 27 v) (h : DataW.Trod enc Try.prog W 0 sp held 27 v d ps) : ∃ A n c xs, v = .slice A n c ∧ VsAt W A n xs := by
  obtain ⟨a, l, c, rfl⟩ := okWide_slice Try.underlying27 hv
  obtain ⟨_, hf⟩ := h
  obtain ⟨A, n, c', xs, e, hx⟩ := rd_verds hf
  simp [Value.cells] at e
  obtain ⟨rfl, rfl, rfl⟩ := e
  exact ⟨_, _, _, xs, rfl, hx⟩
theorem open_prices (hv : Value.okWide Try.prog W .any base 26 v) (h : DataW.Trod enc Try.prog W 0 sp held 26 v d ps) :
    ∃ a0 a1 a2 a3 a4 fA fn fc fines days, v = .agg #[a0, a1, a2, a3, a4, .slice fA fn fc, .int .i64 days] ∧ IntsAt W fA fn fines := by
  obtain ⟨cs, rfl, hsz⟩ := okWide_struct Try.underlying26 hv
  rw [cells26] at hsz
  obtain ⟨l⟩ := cs
  match l, hsz with
  | [c0, c1, c2, c3, c4, c5, c6], _ =>
    obtain ⟨_, hf⟩ := h
    obtain ⟨_, _, h5⟩ := rd_field Try.underlying26 hf 5 rfl cells24
    obtain ⟨_, _, h6⟩ := rd_field Try.underlying26 hf 6 rfl cells3
    obtain ⟨A, n, c', xs, e5, hx⟩ := rd_ints h5
    obtain ⟨m6, e6, _⟩ := rd_int Try.underlying3 h6
    simp [Value.cells] at e5 e6
    subst e5 e6
    exact ⟨_, _, _, _, _, _, _, _, xs, m6, rfl, hx⟩
end

def zPrices : Value := .agg #[.slice none 0 0, .slice none 0 0, .slice none 0 0, .slice none 0 0, .int .i64 0, .slice none 0 0, .int .i64 0]

end Go.Proofs.Pen
