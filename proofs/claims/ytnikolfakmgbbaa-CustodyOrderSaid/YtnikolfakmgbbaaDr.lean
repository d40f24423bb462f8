/-
  The arguments' readings.
-/
import Derived.Test.YtnikolfakmgbbaaDc
import Derived.Test.YtnikolfakmgbbaaEl
import Derived.OpenShut
namespace Go.Proofs.Cus
open Go Go.RowKit Go.Proofs.E Go.ChangeShapes Go.WideShapes Go.ChangeAt

theorem own : ownKnob Try.prog.godebug = none := by kernel_rfl
theorem laidOut : laidOutB Try.prog = true := by kernel_rfl
theorem cellsInt : Try.prog.cellsOf 3 = 1 := by kernel_rfl
theorem cellsInts : Try.prog.cellsOf 22 = 1 := by kernel_rfl
theorem cellsEv : Try.prog.cellsOf 67 = 9 := by kernel_rfl
theorem cellsFl : Try.prog.cellsOf 24 = 5 := by kernel_rfl
section
variable {H : Type} {enc : TypeId × Value → H} {W : World} {sp : Nat → Bool} {held : Bool} {base : Nat} {v : Value} {d : DataW H} {ps : List MemPlace}
set_option maxRecDepth 100000 in
theorem rd_ints {fuel : Nat} {cs : List Value} {x : DataW H × List MemPlace} (h : DataW.trod enc Try.prog W 0 sp held fuel 22 cs = some x) : ∃ A n c xs, cs = [.slice A n c] ∧ IntsAt W A n xs := by
  obtain ⟨A, n, c, xs, rfl, hs, _, _, hx⟩ := rd_rows Try.underlying22 cellsInt (by decide) h
  obtain ⟨ys, hy, _⟩ := hs.recode (enc := encInt) (Q := fun _ => True) fun x hx' => by
    obtain ⟨_, f, y, ht⟩ := hx x hx'
    obtain ⟨m, rfl, _⟩ := rd_int Try.underlying3 ht
    exact ⟨m, rfl, trivial⟩
  exact ⟨A, n, c, ys, rfl, hy⟩
set_option maxRecDepth 100000 in
theorem rd_ev {fuel : Nat} {cs : List Value} {x : DataW H × List MemPlace} (hl : cs.length = 9) (h : DataW.trod enc Try.prog W 0 sp held fuel 67 cs = some x) : ∃ e : Ev, e.cells = cs ∧ (-9223372036854775808 ≤ e.place ∧ e.place ≤ 9223372036854775807) := by
  match cs, hl with
  | [c0, c1, c2, c3, c4, c5, c6, c7, c8], _ =>
    obtain ⟨_, _, h0⟩ := rd_field Try.underlying67 h 0 rfl cellsInt
    obtain ⟨_, _, h1⟩ := rd_field Try.underlying67 h 1 rfl cellsInt
    obtain ⟨_, _, h2⟩ := rd_field Try.underlying67 h 2 rfl cellsInt
    obtain ⟨_, _, h3⟩ := rd_field Try.underlying67 h 3 rfl cellsInt
    obtain ⟨_, _, h4⟩ := rd_field Try.underlying67 h 4 rfl cellsInt
    obtain ⟨_, _, h5⟩ := rd_field Try.underlying67 h 5 rfl cellsInt
    obtain ⟨_, _, h6⟩ := rd_field Try.underlying67 h 6 rfl cellsInt
    obtain ⟨_, _, h7⟩ := rd_field Try.underlying67 h 7 rfl cellsInt
    obtain ⟨_, _, h8⟩ := rd_field Try.underlying67 h 8 rfl cellsInt
    obtain ⟨m0, e0, _⟩ := rd_int Try.underlying3 h0
    obtain ⟨m1, e1, _⟩ := rd_int Try.underlying3 h1
    obtain ⟨m2, e2, _⟩ := rd_int Try.underlying3 h2
    obtain ⟨m3, e3, _⟩ := rd_int Try.underlying3 h3
    obtain ⟨m4, e4, _⟩ := rd_int Try.underlying3 h4
    obtain ⟨m5, e5, _⟩ := rd_int Try.underlying3 h5
    obtain ⟨m6, e6, w6⟩ := rd_int Try.underlying3 h6
    obtain ⟨m7, e7, _⟩ := rd_int Try.underlying3 h7
    obtain ⟨m8, e8, _⟩ := rd_int Try.underlying3 h8
    simp at e0 e1 e2 e3 e4 e5 e6 e7 e8
    subst e0 e1 e2 e3 e4 e5 e6 e7 e8
    exact ⟨⟨m0, m1, m2, m3, m4, m5, m6, m7, m8⟩, rfl, wf64 w6⟩
set_option maxRecDepth 100000 in
theorem open_evs (hv : Value.okWide Try.prog W .any base 25 v) (h : DataW.Trod enc Try.prog W 0 sp held 25 v d ps) : ∃ A n c xs, v = .slice A n c ∧ EvsAt W A n xs ∧ PlOk xs := by
  obtain ⟨a, l, c, rfl⟩ := okWide_slice Try.underlying25 hv
  obtain ⟨_, hf⟩ := h
  obtain ⟨A, n, c', xs, e, hs, _, _, hx⟩ := rd_rows Try.underlying25 cellsEv (by decide) hf
  obtain ⟨ys, hy, hq⟩ := hs.recode (enc := Ev.cells) (Q := fun e => -9223372036854775808 ≤ e.place ∧ e.place ≤ 9223372036854775807) fun x hx' => by
    obtain ⟨hl, f, y, ht⟩ := hx x hx'
    exact rd_ev hl ht
  simp [Value.cells] at e
  obtain ⟨rfl, rfl, rfl⟩ := e
  exact ⟨_, _, _, ys, rfl, hy, hq⟩
set_option maxRecDepth 100000 in
theorem open_fleet (hv : Value.okWide Try.prog W .any base 24 v) (h : DataW.Trod enc Try.prog W 0 sp held 24 v d ps) : ∃ (f : Fl) (a : FA), v = .agg (f.cells a).toArray ∧ FlAt W f a := by
  obtain ⟨cs, rfl, hsz⟩ := okWide_struct Try.underlying24 hv
  rw [cellsFl] at hsz
  obtain ⟨l⟩ := cs
  match l, hsz with
  | [c0, c1, c2, c3, c4], _ =>
    obtain ⟨_, hf⟩ := h
    obtain ⟨_, _, h0⟩ := rd_field Try.underlying24 hf 0 rfl cellsInt
    obtain ⟨_, _, h1⟩ := rd_field Try.underlying24 hf 1 rfl cellsInt
    obtain ⟨_, _, h2⟩ := rd_field Try.underlying24 hf 2 rfl cellsInt
    obtain ⟨_, _, h3⟩ := rd_field Try.underlying24 hf 3 rfl cellsInts
    obtain ⟨_, _, h4⟩ := rd_field Try.underlying24 hf 4 rfl cellsInts
    obtain ⟨m0, e0, _⟩ := rd_int Try.underlying3 h0
    obtain ⟨m1, e1, _⟩ := rd_int Try.underlying3 h1
    obtain ⟨m2, e2, _⟩ := rd_int Try.underlying3 h2
    obtain ⟨A3, n3, c3', x3, e3, hx3⟩ := rd_ints h3
    obtain ⟨A4, n4, c4', x4, e4, hx4⟩ := rd_ints h4
    simp [Value.cells] at e0 e1 e2 e3 e4
    subst e0 e1 e2 e3 e4
    exact ⟨⟨m0, m1, m2, x3, x4⟩, ⟨A3, n3, c3', A4, n4, c4'⟩, rfl, hx3, hx4⟩
set_option maxRecDepth 100000 in
theorem open_int (hv : Value.okWide Try.prog W .any base 3 v) (h : DataW.Trod enc Try.prog W 0 sp held 3 v d ps) : ∃ m, v = .int .i64 m ∧ -9223372036854775808 ≤ m ∧ m ≤ 9223372036854775807 := by
  obtain ⟨n, rfl⟩ := okWide_int Try.underlying3 hv
  obtain ⟨_, hf⟩ := h
  obtain ⟨m, e, hw⟩ := rd_int Try.underlying3 hf
  simp [Value.cells] at e
  subst e
  exact ⟨n, rfl, wf64 hw⟩
set_option maxRecDepth 100000 in
theorem open_u8 (hv : Value.okWide Try.prog W .any base 5 v) (h : DataW.Trod enc Try.prog W 0 sp held 5 v d ps) : ∃ m, v = .int .u8 m ∧ 0 ≤ m ∧ m ≤ 255 := by
  obtain ⟨n, rfl⟩ := okWide_int Try.underlying5 hv
  obtain ⟨_, hf⟩ := h
  obtain ⟨m, e, hw⟩ := rd_int Try.underlying5 hf
  simp [Value.cells] at e
  subst e
  simp [Lit.wf, IntKind.min, IntKind.max, IntKind.signed, IntKind.bits] at hw
  exact ⟨n, rfl, by omega, by omega⟩
end
def zFleet : Value := .agg #[.int .i64 0, .int .i64 0, .int .i64 0, .slice none 0 0, .slice none 0 0]

end Go.Proofs.Cus
