import Derived.Test.YtlihpbblpmpcfaaCusB
import Derived.Test.YtlihpbblpmpcfaaCusS
import Derived.Test.YtlihpbblpmpcfaaEng2
set_option linter.unusedVariables false
set_option linter.unusedSimpArgs false
/-
  The walks: the reference's state, read.
-/
namespace Go.Proofs.Cus
open Go Go.RowKit Go.Proofs.E


def RT.cells (t : RT) : List Value := [.int .i64 t.id, .int .i64 t.rider, .int .i64 t.bike, .bool t.open_]
abbrev TripsAt (w : World) (A : Option Addr) (n : Nat) (xs : List RT) : Prop := SlAt w 4 RT.cells A n xs
abbrev rsV (A : Option Addr) (n c : Nat) (B : Option Addr) (m d : Nat) : List Value := [.slice A n c, .slice B m d]


end Go.Proofs.Cus

/-
  The walks: the reference's error of an event.
-/
namespace Go.Proofs.Cus
open Go Go.RowKit Go.Proofs.E


end Go.Proofs.Cus

/-
  The walks: the reference's state, made and turned.
-/
namespace Go.Proofs.Cus
open Go Go.RowKit Go.Proofs.E

/-- where a state of the reference lies -/
structure RX where
  A : Option Addr
  c : Nat
  B : Option Addr
  d : Nat
def RX.val (x : RX) (r : RS) : List Value := rsV x.A r.spots.length x.c x.B r.trips.length x.d
def RX0 : RX := ⟨none, 0, none, 0⟩



end Go.Proofs.Cus

/-
  The walks: the reference's state after an event.
-/
namespace Go.Proofs.Cus
open Go Go.RowKit Go.Proofs.E


end Go.Proofs.Cus

/-
  The walks: the reference's state after an event.
-/
namespace Go.Proofs.Cus
open Go Go.RowKit Go.Proofs.E

theorem ap1 {r : RS} {e : Ev} (h : e.kind = 1) : applyR r e = putR r e.bike.toNat ⟨1, e.place, 0, false⟩ := by unfold applyR; simp only; rw [if_pos h]
theorem ap2 {r : RS} {e : Ev} (h : e.kind = 2) : applyR r e = putR r e.bike.toNat ⟨2, e.place, 0, false⟩ := by unfold applyR; simp only; rw [if_neg (by omega), if_pos h]
theorem ap7 {r : RS} {e : Ev} (h : e.kind = 7) : applyR r e = putR r e.bike.toNat ⟨4, e.place, 0, false⟩ := by unfold applyR; simp only; rw [if_neg (by omega), if_neg (by omega), if_pos h]
theorem ap8 {r : RS} {e : Ev} (h : e.kind = 8) : applyR r e = putR r e.bike.toNat ⟨5, 0, 0, false⟩ := by unfold applyR; simp only; rw [if_neg (by omega), if_neg (by omega), if_neg (by omega), if_pos h]
theorem ap9 {r : RS} {e : Ev} (h : e.kind = 9) : applyR r e = putR r e.bike.toNat ⟨6, 0, 0, false⟩ := by unfold applyR; simp only; rw [if_neg (by omega), if_neg (by omega), if_neg (by omega), if_neg (by omega), if_pos h]
theorem ap3 {r : RS} {e : Ev} (h : e.kind = 3) : applyR r e = { spots := r.spots.set e.bike.toNat ⟨3, 0, e.ride, false⟩, trips := r.trips ++ [⟨e.ride, e.rider, e.bike, true⟩] } := by unfold applyR; simp only; rw [if_neg (by omega), if_neg (by omega), if_neg (by omega), if_neg (by omega), if_neg (by omega), if_pos h]
theorem ap4 {r : RS} {e : Ev} (h : e.kind = 4) {i : Nat} {t : RT} (hi : findT r.trips e.ride = some i) (ht : r.trips[i]? = some t) : applyR r e = { spots := (r.spots.set t.bike.toNat (r.spots.getD e.bike.toNat default)).set e.bike.toNat ⟨3, 0, e.ride, false⟩, trips := r.trips.set i { t with bike := e.bike } } := by
  unfold applyR; simp only; rw [if_neg (by omega), if_neg (by omega), if_neg (by omega), if_neg (by omega), if_neg (by omega), if_neg (by omega), if_pos h, hi, Option.getD_some]
  have : r.trips.getD i default = t := by rw [List.getD_eq_getElem?_getD, ht]; rfl
  rw [this]
theorem ap5 {r : RS} {e : Ev} (h : e.kind = 5) : applyR r e = { r with spots := r.spots.set e.bike.toNat { (r.spots.getD e.bike.toNat default) with paused := true } } := by unfold applyR; simp only; rw [if_neg (by omega), if_neg (by omega), if_neg (by omega), if_neg (by omega), if_neg (by omega), if_neg (by omega), if_neg (by omega), if_pos h]
theorem ap6 {r : RS} {e : Ev} (h : e.kind = 6) : applyR r e = { r with spots := r.spots.set e.bike.toNat { (r.spots.getD e.bike.toNat default) with paused := false } } := by unfold applyR; simp only; rw [if_neg (by omega), if_neg (by omega), if_neg (by omega), if_neg (by omega), if_neg (by omega), if_neg (by omega), if_neg (by omega), if_neg (by omega), if_pos h]

attribute [local irreducible] putR

end Go.Proofs.Cus

/-
  The walks: the reference's run, and what it tells.
-/
namespace Go.Proofs.Cus
open Go Go.RowKit Go.Proofs.E

theorem step_err {f : Fl} {s : PS} {e : Ev} (h : errR f s e ≠ 0) : stepR f s e = (s, some (errR f s e)) := by
  by_cases h0 : evErr f e = 0
  · by_cases h1 : e.kind = 10
    · exact absurd (by unfold errR; rw [if_neg (fun h => h h0), if_pos h1]) h
    · have he : errR f s e = checkP f.trucks s e := by unfold errR; rw [if_neg (fun h => h h0), if_neg h1]
      rw [he] at h ⊢
      unfold stepR
      rw [if_neg (fun ⟨_, h⟩ => h1 h)]
      simp only
      rw [if_pos h0, if_neg h]
  · have he : errR f s e = evErr f e := by unfold errR; rw [if_pos h0]
    rw [he]
    unfold stepR
    rw [if_neg (fun ⟨h, _⟩ => h0 h)]
    simp only
    rw [if_neg h0, if_neg h0]
theorem step_do {f : Fl} {s : PS} {e : Ev} (h : errR f s e = 0) (hk : e.kind ≠ 10) : stepR f s e = (doP s e, some 0) ∧ evErr f e = 0 ∧ checkP f.trucks s e = 0 := by
  unfold errR at h
  by_cases h0 : evErr f e = 0
  · rw [if_neg (by rw [h0]; decide), if_neg hk] at h
    refine ⟨?_, h0, h⟩
    unfold stepR
    rw [if_neg (fun ⟨_, h⟩ => hk h)]
    simp only
    rw [if_pos h0, h, if_pos rfl]
  · rw [if_pos h0] at h; exact absurd h h0
theorem step_beat {f : Fl} {s : PS} {e : Ev} (h : errR f s e = 0) (hk : e.kind = 10) : stepR f s e = (s, none) := by
  unfold errR at h
  by_cases h0 : evErr f e = 0
  · unfold stepR; rw [if_pos ⟨h0, hk⟩]
  · rw [if_pos h0] at h; exact absurd h h0
theorem runR_fst {σ τ : Type} {f : Fl} {cb : σ → PS → Ev → Int → σ} {cb2 : τ → PS → Ev → Int → τ} : ∀ (l : List Ev) (s : PS) (z : σ) (y : τ), (runR f cb l (s, z)).1 = (runR f cb2 l (s, y)).1
  | [], _, _, _ => rfl
  | e :: l, s, z, y => by
    show (runR f cb l (tellR cb z e (stepR f s e))).1 = (runR f cb2 l (tellR cb2 y e (stepR f s e))).1
    have h1 : ∀ p : PS × σ, p = (p.1, p.2) := fun _ => rfl
    have h2 : ∀ p : PS × τ, p = (p.1, p.2) := fun _ => rfl
    rw [h1 (tellR cb z e (stepR f s e)), h2 (tellR cb2 y e (stepR f s e)), tellR_fst, tellR_fst]
    exact runR_fst l _ _ _

/-- the run, step by step: the states, what is accepted, what is rejected -/
structure Steps (f : Fl) (ys : List Ev) (S : Nat → PS) (Ac : Nat → List Ev) (Rj_ : Nat → List Rj) : Prop where
  s0 : S 0 = beginP (nbOf f)
  a0 : Ac 0 = []
  r0 : Rj_ 0 = []
  st : ∀ k e, ys[k]? = some e → S (k + 1) = (stepR f (S k) e).1 ∧ Ac (k + 1) = (match (stepR f (S k) e).2 with | some er => if er = 0 then Ac k ++ [e] else Ac k | none => Ac k) ∧ Rj_ (k + 1) = (match (stepR f (S k) e).2 with | some er => if er ≠ 0 then Rj_ k ++ [⟨e.device, e.seq, er⟩] else Rj_ k | none => Rj_ k)
theorem steps_of (f : Fl) (ys : List Ev) : ∃ S Ac Rj_, Steps f ys S Ac Rj_ ∧ (∀ k, S k = (runR f nobCb (ys.take k) (beginP (nbOf f), ())).1) ∧ Ac ys.length = (runR f accCb ys (beginP (nbOf f), [])).2 ∧ Rj_ ys.length = (runR f rejCb ys (beginP (nbOf f), [])).2 := by
  refine ⟨fun k => (runR f nobCb (ys.take k) (beginP (nbOf f), ())).1, fun k => (runR f accCb (ys.take k) (beginP (nbOf f), [])).2, fun k => (runR f rejCb (ys.take k) (beginP (nbOf f), [])).2, ⟨rfl, rfl, rfl, fun k e he => ?_⟩, fun _ => rfl, by simp only [List.take_length], by simp only [List.take_length]⟩
  rw [runR_snoc ys _ k e he, runR_snoc ys _ k e he, runR_snoc ys _ k e he]
  rw [runR_fst (cb2 := nobCb) (y := ()) (ys.take k) (beginP (nbOf f)) ([] : List Ev), runR_fst (cb2 := nobCb) (y := ()) (ys.take k) (beginP (nbOf f)) ([] : List Rj)]
  generalize stepR f (runR f nobCb (ys.take k) (beginP (nbOf f), ())).1 e = q
  obtain ⟨q1, q2⟩ := q
  cases q2 with
  | none => exact ⟨rfl, rfl, rfl⟩
  | some er => exact ⟨rfl, rfl, rfl⟩
theorem Steps.len {f : Fl} {ys : List Ev} {S : Nat → PS} {Ac : Nat → List Ev} {Rj_ : Nat → List Rj} (h : Steps f ys S Ac Rj_) : ∀ k, k ≤ ys.length → (Ac k).length ≤ k ∧ (Rj_ k).length ≤ k
  | 0, _ => by rw [h.a0, h.r0]; simp
  | k + 1, hk => by
    obtain ⟨e, he⟩ : ∃ e, ys[k]? = some e := ⟨_, List.getElem?_eq_getElem (by omega)⟩
    obtain ⟨h1, h2⟩ := h.len k (by omega)
    obtain ⟨_, h3, h4⟩ := h.st k e he
    rw [h3, h4]
    constructor
    · split
      · split
        · simp; omega
        · omega
      · omega
    · split
      · split
        · simp; omega
        · omega
      · omega

structure RunX where
  x : RX
  r : RS
  aA : Option Addr
  ac : Nat
  rA : Option Addr
  rc : Nat

end Go.Proofs.Cus
