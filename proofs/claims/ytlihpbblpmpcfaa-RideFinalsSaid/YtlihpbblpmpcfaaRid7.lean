import Derived.Test.YtlihpbblpmpcfaaRid2
import Derived.Test.YtlihpbblpmpcfaaCusS
import Derived.Test.YtlihpbblpmpcfaaRid6
set_option linter.unusedVariables false
set_option linter.unusedSimpArgs false
/-
  Plain facts: what an event does to the rides of the story: nothing, a new ride, or a change of one open ride.
-/
namespace Go.Proofs.Rid
open Go.Proofs.Cus

/-- the change of an open ride; p is whether it pauses -/
inductive RdStep (e : Ev) (p : Bool) (r : Rd) : Bool → Rd → Prop
  | swap : e.kind = 4 → p = false → RdStep e p r p (swapR e.bike (spanE e) r)
  | pause : e.kind = 5 → p = false → RdStep e p r true (pauseR (spanE e) r)
  | resume : e.kind = 6 → RdStep e p r false (resumeR p (spanE e) r)
  | finish (to : Sp) : e.kind ≠ 3 → (to.where_ = 1 ∨ to.where_ = 2 ∨ to.where_ = 6) → RdStep e p r false (finishR to (spanE e) (resumeR p (spanE e) r))
inductive StForm (e : Ev) (y : SY) : SY → Prop
  | same (z : SY) : e.kind ≠ 3 → z.rides = y.rides → z.paused = y.paused → StForm e y z
  | new (z : SY) (from_ : Sp) : e.kind = 3 → z.rides = y.rides ++ [newR e from_ (spanE e)] → z.paused = y.paused ++ [false] → StForm e y z
  | one (z : SY) (k : Nat) (r q : Rd) (p p' : Bool) : e.kind ≠ 3 → y.rides[k]? = some r → r.open_ = true → y.paused[k]? = some p → RdStep e p r p' q → z.rides = y.rides.set k q → z.paused = y.paused.set k p' → StForm e y z
section
variable {n N : Nat} {s : PS} {y : SY}
theorem set_same {α : Type} {l : List α} {k : Nat} {x : α} (h : l[k]? = some x) : l.set k x = l := by
  obtain ⟨h1, h2⟩ := List.getElem?_eq_some_iff.1 h
  rw [← h2, List.set_getElem_self]
theorem form_leave (h : JI n s y) (hI : PInv n s) {e : Ev} {b : Nat} {x : Sp} (hx : s.spots[b]? = some x) (to : Sp) (h3 : e.kind ≠ 3) (hto : to.where_ = 1 ∨ to.where_ = 2 ∨ to.where_ = 6) : StForm e y (leaveY y b to (spanE e)) := by
  by_cases hx3 : x.where_ = 3
  · obtain ⟨t, ht, htb⟩ := hI.spot b x hx hx3
    obtain ⟨k, r, a1, a2, a3, a4, a5, a6, a7⟩ := h.open_ _ _ ht
    rw [htb, Int.toNat_natCast] at a7
    have hvg : y.riding.getD b 0 = (k : Int) := by rw [List.getD_eq_getElem?_getD, a7]; rfl
    have hkl := (List.getElem?_eq_some_iff.1 a1).1
    have hrg : y.rides.getD k default = r := by rw [List.getD_eq_getElem?_getD, a1]; rfl
    have hpg : y.paused.getD k false = t.paused := by rw [List.getD_eq_getElem?_getD, a6]; rfl
    have hleave : leaveY y b to (spanE e) = { rides := y.rides.set k (finishR to (spanE e) (resumeR t.paused (spanE e) r)), byID := y.byID, riding := y.riding.set b (-1), paused := y.paused.set k false, spots := y.spots.set b to } := by
      unfold leaveY
      rw [hvg, if_neg (by omega)]
      simp only [Int.toNat_natCast]
      unfold resumeY
      simp only
      rw [hrg, hpg, List.set_set]
      congr 1
      rw [List.getD_eq_getElem?_getD, List.getElem?_set, if_pos rfl, if_pos hkl]
      rfl
    rw [hleave]
    exact .one _ k r _ t.paused false h3 a1 a3 a6 (.finish to h3 hto) rfl rfl
  · rw [leaveY_free (h.free b x hx hx3)]
    exact .same _ h3 rfl rfl
theorem tell_form (h : JI n s y) (hI : PInv n s) {e : Ev} {tr : List Int} (hb : 0 ≤ e.bike ∧ e.bike < n) (hc : checkP tr s e = 0) : StForm e y (tellY y e) := by
  obtain ⟨b, hbk⟩ : ∃ b : Nat, e.bike = b := ⟨e.bike.toNat, by omega⟩
  have hbn : b < n := by omega
  obtain ⟨x, hx⟩ : ∃ x, s.spots[b]? = some x := ⟨_, List.getElem?_eq_getElem (by rw [hI.len]; exact hbn)⟩
  have hg : s.spots.getD b default = x := by rw [List.getD_eq_getElem?_getD, hx]; rfl
  by_cases h3 : e.kind = 3
  · have ht : tellY y e = beginY y e (spanE e) := by unfold tellY; simp only; rw [if_pos h3]
    rw [ht]
    exact .new _ _ h3 rfl rfl
  by_cases h4 : e.kind = 4
  · have ht : tellY y e = changeY y e (spanE e) := by unfold tellY; simp only; rw [if_neg h3, if_pos h4]
    rw [ht]
    obtain ⟨t, htl, hpz⟩ : ∃ t, lookP s.open_ e.ride = some t ∧ t.paused = false := by
      unfold checkP at hc
      simp only at hc
      rw [if_neg (by omega), if_neg (by omega), if_neg (by omega), if_pos h4, hbk, Int.toNat_natCast, hg] at hc
      cases hl : lookP s.open_ e.ride with
      | none => rw [hl] at hc; cases hc
      | some t =>
        rw [hl] at hc
        simp only at hc
        split at hc
        · cases hc
        · exact ⟨t, rfl, refuse_ok (by decide) hc⟩
    obtain ⟨k, r, c1, c2, c3, c4, c5, c6, c7⟩ := h.open_ _ _ (lookP_some htl)
    have hrg : y.rides.getD k default = r := by rw [List.getD_eq_getElem?_getD, c1]; rfl
    have hby := h.byid k r c1
    rw [c2] at hby
    have hr : (changeY y e (spanE e)).rides = y.rides.set k (swapR e.bike (spanE e) r) ∧ (changeY y e (spanE e)).paused = y.paused := by
      unfold changeY
      rw [hby]
      simp only [Int.toNat_natCast]
      rw [hrg]
      exact ⟨rfl, trivial⟩
    exact .one _ k r _ t.paused t.paused h3 c1 c3 c6 (.swap h4 hpz) hr.1 (by rw [hr.2, set_same c6])
  by_cases h56 : e.kind = 5 ∨ e.kind = 6
  · obtain ⟨hx3, hxp⟩ : x.where_ = 3 ∧ (x.paused == decide (e.kind = 5)) = false := by
      unfold checkP at hc
      simp only at hc
      rw [if_neg (by omega), if_neg (by omega), if_neg (by omega), if_neg (by omega), if_pos h56, hbk, Int.toNat_natCast, hg] at hc
      split at hc
      · cases hc
      · rename_i h1; exact ⟨Decidable.of_not_not h1, refuse_ok (by decide) hc⟩
    obtain ⟨t, ht, htb⟩ := hI.spot b x hx hx3
    obtain ⟨z, hz, _, _, hzp⟩ := h.at_ hI ht htb
    have hzx : z = x := by rw [hx] at hz; cases hz; rfl
    subst hzx
    obtain ⟨k, r, a1, a2, a3, a4, a5, a6, a7⟩ := h.open_ _ _ ht
    rw [htb, Int.toNat_natCast] at a7
    have hvg : y.riding.getD b 0 = (k : Int) := by rw [List.getD_eq_getElem?_getD, a7]; rfl
    have hrg : y.rides.getD k default = r := by rw [List.getD_eq_getElem?_getD, a1]; rfl
    have hpg : y.paused.getD k false = t.paused := by rw [List.getD_eq_getElem?_getD, a6]; rfl
    by_cases h5 : e.kind = 5
    · have hp0 : t.paused = false := by rw [← hzp]; simpa [h5] using hxp
      have ht5 : tellY y e = { y with rides := y.rides.set k (pauseR (spanE e) r), paused := y.paused.set k true } := by
        unfold tellY
        simp only
        rw [if_neg h3, if_neg h4, if_pos h5, hbk, Int.toNat_natCast, hvg, if_pos (by omega), Int.toNat_natCast, hrg]
      rw [ht5]
      exact .one _ k r _ t.paused true h3 a1 a3 a6 (.pause h5 hp0) rfl rfl
    · have h6 : e.kind = 6 := by omega
      have ht6 : tellY y e = { y with rides := y.rides.set k (resumeR t.paused (spanE e) r), paused := y.paused.set k false } := by
        unfold tellY
        simp only
        rw [if_neg h3, if_neg h4, if_neg h5, if_pos h6, hbk, Int.toNat_natCast, hvg, if_pos (by omega), Int.toNat_natCast]
        unfold resumeY
        rw [hrg, hpg]
      rw [ht6]
      exact .one _ k r _ t.paused false h3 a1 a3 a6 (.resume h6) rfl rfl
  have h5 : ¬ e.kind = 5 := fun h => h56 (.inl h)
  have h6 : ¬ e.kind = 6 := fun h => h56 (.inr h)
  by_cases h1 : e.kind = 1
  · have ht : tellY y e = leaveY y b ⟨1, e.place, 0, false⟩ (spanE e) := by unfold tellY; simp only; rw [if_neg h3, if_neg h4, if_neg h5, if_neg h6, if_pos h1, hbk, Int.toNat_natCast]
    rw [ht]; exact form_leave h hI hx _ h3 (.inl rfl)
  by_cases h2 : e.kind = 2
  · have ht : tellY y e = leaveY y b ⟨2, e.place, 0, false⟩ (spanE e) := by unfold tellY; simp only; rw [if_neg h3, if_neg h4, if_neg h5, if_neg h6, if_neg h1, if_pos h2, hbk, Int.toNat_natCast]
    rw [ht]; exact form_leave h hI hx _ h3 (.inr (.inl rfl))
  by_cases h9 : e.kind = 9
  · have ht : tellY y e = leaveY y b ⟨6, 0, 0, false⟩ (spanE e) := by unfold tellY; simp only; rw [if_neg h3, if_neg h4, if_neg h5, if_neg h6, if_neg h1, if_neg h2, if_pos h9, hbk, Int.toNat_natCast]
    rw [ht]; exact form_leave h hI hx _ h3 (.inr (.inr rfl))
  have ht : tellY y e = y := by unfold tellY; simp only; rw [if_neg h3, if_neg h4, if_neg h5, if_neg h6, if_neg h1, if_neg h2, if_neg h9]
  rw [ht]
  exact .same _ h3 rfl rfl
end

end Go.Proofs.Rid

/-
  Plain facts: every ride of the story is right.
-/
namespace Go.Proofs.Rid
open Go.Proofs.Cus

/-- the end of pauses that have all ended -/
def pzEnd : Int → List Pz → Option Int
  | last, [] => some last
  | last, p :: l => if last ≤ p.from_.lo ∧ p.from_.lo ≤ p.to_.lo then pzEnd p.to_.lo l else none
theorem pzEnd_snoc : ∀ (l : List Pz) (last m : Int) (p : Pz), pzEnd last l = some m → m ≤ p.from_.lo → p.from_.lo ≤ p.to_.lo → pzEnd last (l ++ [p]) = some p.to_.lo
  | [], last, m, p, h, h1, h2 => by
    unfold pzEnd at h
    cases h
    simp [pzEnd, h1, h2]
  | q :: l, last, m, p, h, h1, h2 => by
    unfold pzEnd at h
    split at h
    · rename_i hc
      show (if last ≤ q.from_.lo ∧ q.from_.lo ≤ q.to_.lo then pzEnd q.to_.lo (l ++ [p]) else none) = _
      rw [if_pos hc]
      exact pzEnd_snoc l q.to_.lo m p h h1 h2
    · cases h
theorem ord_open (n : Nat) (e : Int) : ∀ (l : List Pz) (last m : Int), pzEnd last l = some m → pzOrd true n e last l = true
  | [], last, m, h => by simp [pzOrd]
  | q :: l, last, m, h => by
    unfold pzEnd at h
    split at h
    · rename_i hc
      unfold pzOrd
      rw [if_neg (by omega)]
      split
      · rfl
      · rw [if_neg (by omega)]; exact ord_open n e l q.to_.lo m h
    · cases h
theorem ord_goes (n : Nat) (e : Int) (w : Spn) : ∀ (l : List Pz) (last m : Int), pzEnd last l = some m → m ≤ w.lo → pzOrd true n e last (l ++ [⟨w, zSpn⟩]) = true
  | [], last, m, h, hm => by
    unfold pzEnd at h
    cases h
    unfold zSpn pzOrd
    simp
    omega
  | q :: l, last, m, h, hm => by
    unfold pzEnd at h
    split at h
    · rename_i hc
      show pzOrd true n e last (q :: (l ++ [⟨w, zSpn⟩])) = true
      unfold pzOrd
      rw [if_neg (by omega)]
      split
      · rfl
      · rw [if_neg (by omega)]; exact ord_goes n e w l q.to_.lo m h hm
    · cases h
theorem ord_shut (n : Nat) (e : Int) : ∀ (l : List Pz) (last m : Int), pzEnd last l = some m → m ≤ e → pzOrd false n e last l = true
  | [], last, m, h, hm => by
    unfold pzEnd at h
    cases h
    simp [pzOrd, hm]
  | q :: l, last, m, h, hm => by
    unfold pzEnd at h
    split at h
    · rename_i hc
      unfold pzOrd
      rw [if_neg (by omega)]
      split
      · rfl
      · rw [if_neg (by omega)]; exact ord_shut n e l q.to_.lo m h hm
    · cases h
/-- what holds of a ride of the story; T is the last moment, p whether it pauses -/
structure RV (T : Int) (p : Bool) (r : Rd) : Prop where
  id : 1 ≤ r.id ∧ r.id ≤ 1000000
  rider : 0 ≤ r.rider ∧ r.rider < 128
  start : spOk r.start = true
  end_ : spOk r.end_ = true
  legs : r.legs.all lgOk = true
  pauses : r.pauses.all pzOk = true
  wh : r.open_ = decide (r.wh = 3)
  zero : r.open_ = true → r.end_ = zSpn
  chain : chainP r.start r.legs r.end_ = true
  lord : legsOrd r.open_ r.legs = true
  last : r.open_ = true → ∃ l g, r.legs = l ++ [g] ∧ g.to_ = zSpn ∧ g.from_.lo ≤ T
  shut : r.open_ = false → ∃ m, pzEnd r.start.lo r.pauses = some m ∧ m ≤ r.end_.lo
  ended : r.open_ = true → p = false → ∃ m, pzEnd r.start.lo r.pauses = some m ∧ m ≤ T
  goes : r.open_ = true → p = true → ∃ l w m, r.pauses = l ++ [⟨w, zSpn⟩] ∧ pzEnd r.start.lo l = some m ∧ m ≤ w.lo ∧ w.lo ≤ T
theorem RV.check {T : Int} {p : Bool} {r : Rd} (h : RV T p r) (hl : 0 < r.legs.length ∧ r.legs.length ≤ 512 ∧ r.pauses.length ≤ 512) : checkR r = 0 := by
  have hh : headBad r = false := by
    unfold headBad
    rw [h.start, h.end_]
    have := h.id
    have := h.rider
    simp
    omega
  have hr : rangedP r = true := by unfold rangedP; rw [hh, h.legs, h.pauses]; rfl
  have hn : numBad r = false := by unfold numBad; simp; omega
  have hj : joinedP r = true := by unfold joinedP; rw [hn, h.chain]; rfl
  have hp : pzOrd r.open_ r.pauses.length r.end_.lo r.start.lo r.pauses = true := by
    cases ho : r.open_ with
    | false =>
      obtain ⟨m, h1, h2⟩ := h.shut ho
      exact ord_shut _ _ _ _ m h1 h2
    | true =>
      cases p with
      | false => obtain ⟨m, h1, _⟩ := h.ended ho rfl; exact ord_open _ _ _ _ m h1
      | true =>
        obtain ⟨l, w, m, h1, h2, h3, _⟩ := h.goes ho rfl
        rw [h1]; exact ord_goes _ _ w l _ m h2 h3
  have ho : orderedP r = true := by unfold orderedP; rw [h.lord, hp]; rfl
  unfold checkR
  rw [hr, hj, ho, if_neg (by decide), if_neg (by decide), if_neg (by decide)]
  have h1 : (r.open_ && !decide (r.end_ = zSpn)) = false := by
    cases hoo : r.open_ with
    | false => rfl
    | true => rw [h.zero hoo]; rfl
  rw [h1, if_neg (by decide), ← h.wh]
  simp
theorem RV.late {T T' : Int} {p : Bool} {r : Rd} (h : RV T p r) (ht : T ≤ T') : RV T' p r := by
  refine ⟨h.id, h.rider, h.start, h.end_, h.legs, h.pauses, h.wh, h.zero, h.chain, h.lord, fun ho => ?_, h.shut, fun ho hp => ?_, fun ho hp => ?_⟩
  · obtain ⟨l, g, h1, h2, h3⟩ := h.last ho; exact ⟨l, g, h1, h2, by omega⟩
  · obtain ⟨m, h1, h2⟩ := h.ended ho hp; exact ⟨m, h1, by omega⟩
  · obtain ⟨l, w, m, h1, h2, h3, h4⟩ := h.goes ho hp; exact ⟨l, w, m, h1, h2, h3, by omega⟩
/-- of a ride that has ended, the pausing does not matter -/
theorem RV.any {T : Int} {p p' : Bool} {r : Rd} (h : RV T p r) (ho : r.open_ = false) : RV T p' r :=
  ⟨h.id, h.rider, h.start, h.end_, h.legs, h.pauses, h.wh, h.zero, h.chain, h.lord, h.last, h.shut, fun h1 => (by rw [ho] at h1; cases h1), fun h1 => (by rw [ho] at h1; cases h1)⟩
theorem chain_snoc : ∀ (l : List Lg) (a e : Spn) (g : Lg), chainP a (l ++ [g]) e = (chainP a l g.from_ && decide (g.to_ = e))
  | [], a, e, g => by
    simp only [List.nil_append, chainP]
    congr 1
    rw [Bool.eq_iff_iff]; simp only [decide_eq_true_eq]; exact eq_comm
  | h :: l, a, e, g => by
    show (decide (h.from_ = a) && chainP h.to_ (l ++ [g]) e) = ((decide (h.from_ = a) && chainP h.to_ l g.from_) && decide (g.to_ = e))
    rw [chain_snoc l, Bool.and_assoc]
def lgOrd (g : Lg) : Bool := !decide (g.to_.lo < g.from_.lo)
theorem lord_open : ∀ (l : List Lg) (g : Lg), legsOrd true (l ++ [g]) = l.all lgOrd
  | [], g => by simp [legsOrd]
  | h :: l, g => by
    show (!(decide (h.to_.lo < h.from_.lo) && !(true && (l ++ [g]).isEmpty)) && legsOrd true (l ++ [g])) = _
    rw [lord_open l g, show (l ++ [g]).isEmpty = false by cases l <;> rfl, List.all_cons]
    unfold lgOrd
    simp
theorem lord_shut : ∀ l : List Lg, legsOrd false l = l.all lgOrd
  | [] => rfl
  | h :: l => by
    show (!(decide (h.to_.lo < h.from_.lo) && !(false && l.isEmpty)) && legsOrd false l) = _
    rw [lord_shut l, List.all_cons]
    unfold lgOrd
    simp
theorem endLeg_snoc (w : Spn) (l : List Lg) (g : Lg) : endLeg w (l ++ [g]) = l ++ [{ g with to_ := w }] := by
  unfold endLeg
  rw [show (l ++ [g]).length - 1 = l.length by simp, List.getD_eq_getElem?_getD, List.getElem?_append_right (Nat.le_refl _), Nat.sub_self, List.set_append_right _ _ (Nat.le_refl _), Nat.sub_self]
  rfl
theorem endPz_snoc (w : Spn) (l : List Pz) (g : Pz) : endPz w (l ++ [g]) = l ++ [{ g with to_ := w }] := by
  unfold endPz
  rw [show (l ++ [g]).length - 1 = l.length by simp, List.getD_eq_getElem?_getD, List.getElem?_append_right (Nat.le_refl _), Nat.sub_self, List.set_append_right _ _ (Nat.le_refl _), Nat.sub_self]
  rfl
theorem zOk : spOk zSpn = true := by decide
theorem RV.resume {T : Int} {p : Bool} {r : Rd} {w : Spn} (h : RV T p r) (ho : r.open_ = true) (hw : spOk w = true) (hT : T ≤ w.lo) : RV w.lo false (resumeR p w r) ∧ (resumeR p w r).open_ = true ∧ (resumeR p w r).legs = r.legs ∧ (resumeR p w r).id = r.id ∧ (resumeR p w r).rider = r.rider ∧ (resumeR p w r).start = r.start := by
  cases p with
  | false =>
    have : resumeR false w r = r := by unfold resumeR; rw [if_neg (by simp)]
    rw [this]; exact ⟨h.late hT, ho, rfl, rfl, rfl, rfl⟩
  | true =>
    obtain ⟨l, w0, m, h1, h2, h3, h4⟩ := h.goes ho rfl
    have hq : resumeR true w r = { r with pauses := l ++ [⟨w0, w⟩] } := by
      unfold resumeR
      rw [if_pos ⟨rfl, by rw [h1]; simp⟩, h1, endPz_snoc]
    rw [hq]
    have hpz : l.all pzOk = true ∧ spOk w0 = true := by
      have := h.pauses
      rw [h1, List.all_append] at this
      simp [pzOk] at this
      exact ⟨by simpa [pzOk] using this.1, this.2.1⟩
    have hl := h.late hT
    refine ⟨⟨h.id, h.rider, h.start, h.end_, h.legs, ?_, h.wh, h.zero, h.chain, h.lord, hl.last, fun h0 => ?_, fun _ _ => ?_, fun _ h0 => (by cases h0)⟩, ho, rfl, rfl, rfl, rfl⟩
    · show (l ++ [(⟨w0, w⟩ : Pz)]).all pzOk = true
      rw [List.all_append, hpz.1]
      simp [pzOk, hpz.2, hw]
    · rw [show r.open_ = false from h0] at ho; cases ho
    · exact ⟨w.lo, pzEnd_snoc l _ m ⟨w0, w⟩ h2 h3 (by show w0.lo ≤ w.lo; omega), Int.le_refl _⟩
theorem RV.step {T : Int} {p p' : Bool} {r q : Rd} {e : Ev} (h : RV T p r) (ho : r.open_ = true) (hs : RdStep e p r p' q) (hw : spOk (spanE e) = true) (hT : T ≤ e.at_) : RV e.at_ p' q := by
  have hl := h.late hT
  obtain ⟨l, g, hlg, hgz, hgT⟩ := h.last ho
  have hgo : l.all lgOk = true ∧ spOk g.from_ = true := by
    have := h.legs
    rw [hlg, List.all_append] at this
    simp [lgOk] at this
    exact ⟨by simpa [lgOk] using this.1, this.2.1⟩
  have hlo : l.all lgOrd = true := by have := h.lord; rw [ho, hlg, lord_open] at this; exact this
  have hch : chainP r.start l g.from_ = true := by
    have := h.chain
    rw [hlg, chain_snoc] at this
    simp at this
    exact this.1
  have hgl : lgOrd { g with to_ := spanE e } = true := by
    unfold lgOrd
    have : ¬ (spanE e).lo < g.from_.lo := by show ¬ e.at_ < g.from_.lo; omega
    simp [this]
  have hle : l.all lgOk = true → (l ++ [({ g with to_ := spanE e } : Lg)]).all lgOk = true := fun h1 => by
    rw [List.all_append, h1]
    simp [lgOk, hgo.2, hw]
  cases hs with
  | swap h4 hp =>
    refine ⟨h.id, h.rider, h.start, h.end_, ?_, h.pauses, h.wh, h.zero, ?_, ?_, fun _ => ?_, fun h0 => ?_, fun _ _ => ?_, fun _ h0 => ?_⟩
    · show (endLeg (spanE e) r.legs ++ [(⟨e.bike, spanE e, zSpn⟩ : Lg)]).all lgOk = true
      rw [hlg, endLeg_snoc, List.all_append, hle hgo.1]
      simp [lgOk, hw, zOk]
    · show chainP r.start (endLeg (spanE e) r.legs ++ [(⟨e.bike, spanE e, zSpn⟩ : Lg)]) r.end_ = true
      rw [hlg, endLeg_snoc, chain_snoc, chain_snoc, h.zero ho]
      simp [hch]
    · show legsOrd r.open_ (endLeg (spanE e) r.legs ++ [(⟨e.bike, spanE e, zSpn⟩ : Lg)]) = true
      rw [ho, lord_open, hlg, endLeg_snoc, List.all_append, hlo]
      simp [hgl]
    · exact ⟨_, _, rfl, rfl, Int.le_refl _⟩
    · rw [show r.open_ = false from h0] at ho; cases ho
    · exact hl.ended ho hp
    · rw [hp] at h0; cases h0
  | pause h5 hp =>
    refine ⟨h.id, h.rider, h.start, h.end_, h.legs, ?_, h.wh, h.zero, h.chain, h.lord, hl.last, fun h0 => ?_, fun _ h0 => (by cases h0), fun _ _ => ?_⟩
    · show (r.pauses ++ [(⟨spanE e, zSpn⟩ : Pz)]).all pzOk = true
      rw [List.all_append, h.pauses]
      simp [pzOk, hw, zOk]
    · rw [show r.open_ = false from h0] at ho; cases ho
    · obtain ⟨m, h1, h2⟩ := h.ended ho hp
      exact ⟨r.pauses, spanE e, m, rfl, h1, by show m ≤ e.at_; omega, Int.le_refl _⟩
  | resume h6 => exact (h.resume ho hw hT).1
  | finish to h3 hto =>
    obtain ⟨h1, h2, h3', h4, h5, h6⟩ := h.resume (w := spanE e) ho hw hT
    obtain ⟨m, hm1, hm2⟩ := h1.ended h2 rfl
    refine ⟨h1.id, h1.rider, h1.start, hw, ?_, h1.pauses, ?_, fun h0 => (by cases h0), ?_, ?_, fun h0 => (by cases h0), fun _ => ⟨m, hm1, hm2⟩, fun h0 => (by cases h0), fun h0 => (by cases h0)⟩
    · show (endLeg (spanE e) (resumeR p (spanE e) r).legs).all lgOk = true
      rw [h3', hlg, endLeg_snoc]; exact hle hgo.1
    · show false = decide (to.where_ = 3)
      rcases hto with h0 | h0 | h0 <;> rw [h0] <;> rfl
    · show chainP (resumeR p (spanE e) r).start (endLeg (spanE e) (resumeR p (spanE e) r).legs) (spanE e) = true
      rw [h6, h3', hlg, endLeg_snoc, chain_snoc]
      simp [hch]
    · show legsOrd false (endLeg (spanE e) (resumeR p (spanE e) r).legs) = true
      rw [lord_shut, h3', hlg, endLeg_snoc, List.all_append, hlo]
      simp [hgl]

end Go.Proofs.Rid

/-
  Plain facts: all rides of the events are right, and there is one for each start.
-/
namespace Go.Proofs.Rid
open Go.Proofs.Cus

theorem ev_span {f : Fl} {e : Ev} (h : evErr f e = 0) : spOk (spanE e) = true ∧ (e.kind = 3 → (1 ≤ e.ride ∧ e.ride ≤ 1000000) ∧ 0 ≤ e.rider ∧ e.rider < 128) := by
  have hfl := (evErr_ok h).1
  have hrd : f.riders ≤ 128 := by
    unfold flErr at hfl
    split at hfl
    · cases hfl
    · rename_i h1
      simp [within] at h1
      omega
  unfold evErr at h
  rw [if_neg (fun h0 => h0 hfl)] at h
  split at h
  · cases h
  · rename_i h1
    split at h
    · cases h
    · split at h
      · cases h
      · split at h
        · cases h
        · split at h
          · cases h
          · rename_i h5
            simp at h1
            refine ⟨?_, fun h3 => ?_⟩
            · unfold spOk spanE
              simp
              omega
            · unfold named at h5
              simp [h3, within] at h5
              omega
theorem acc_sub {f : Fl} : ∀ (l : List Ev) (s : PS) (za : List Ev), ∃ t, (runR f accCb l (s, za)).2 = za ++ t ∧ t.Sublist l
  | [], s, za => ⟨[], by simp [runR], List.Sublist.slnil⟩
  | e :: l, s, za => by
    show ∃ t, (runR f accCb l (tellR accCb za e (stepR f s e))).2 = za ++ t ∧ _
    by_cases h0 : errR f s e = 0
    · by_cases hk : e.kind = 10
      · rw [step_beat h0 hk]
        obtain ⟨t, a1, a2⟩ := acc_sub l s za
        exact ⟨t, a1, a2.cons e⟩
      · obtain ⟨h1, _, _⟩ := step_do h0 hk
        rw [h1]
        obtain ⟨t, a1, a2⟩ := acc_sub l (doP s e) (za ++ [e])
        refine ⟨e :: t, ?_, a2.cons_cons e⟩
        show (runR f accCb l (doP s e, accCb za (doP s e) e 0)).2 = _
        rw [show accCb za (doP s e) e 0 = za ++ [e] from rfl, a1]; simp
    · rw [step_err h0]
      show ∃ t, (runR f accCb l (s, accCb za s e (errR f s e))).2 = za ++ t ∧ _
      rw [show accCb za s e (errR f s e) = za by unfold accCb; rw [if_neg h0]]
      obtain ⟨t, a1, a2⟩ := acc_sub l s za
      exact ⟨t, a1, a2.cons e⟩

def VI (T : Int) (y : SY) : Prop := ∀ (k : Nat) r p, y.rides[k]? = some r → y.paused[k]? = some p → RV T p r
theorem VI.step {n N : Nat} {T : Int} {y z : SY} {e : Ev} (h : VI T y) (hW : WF n N y) (hf : StForm e y z) (hw : spOk (spanE e) = true) (hid : e.kind = 3 → (1 ≤ e.ride ∧ e.ride ≤ 1000000) ∧ 0 ≤ e.rider ∧ e.rider < 128) (hT : T ≤ e.at_) : VI e.at_ z := by
  cases hf with
  | same h3 h1 h2 => intro k r p hr hp; rw [h1] at hr; rw [h2] at hp; exact (h k r p hr hp).late hT
  | new from_ h3 h1 h2 =>
    intro k r p hr hp
    rw [h1] at hr
    rw [h2] at hp
    rw [List.getElem?_append] at hr hp
    split at hr
    · rename_i hk
      rw [if_pos (by rw [hW.paused]; exact hk)] at hp
      exact (h k r p hr hp).late hT
    · rename_i hk
      rw [if_neg (by rw [hW.paused]; exact hk)] at hp
      have hk0 : k - y.rides.length = 0 := by
        rcases Nat.eq_zero_or_pos (k - y.rides.length) with h0 | h0
        · exact h0
        · rw [List.getElem?_eq_none (by simp; omega)] at hr; cases hr
      rw [hk0] at hr
      rw [hW.paused, hk0] at hp
      simp at hr hp
      subst hr hp
      obtain ⟨hi1, hi2⟩ := hid h3
      refine ⟨hi1, hi2, hw, zOk, ?_, rfl, rfl, fun _ => rfl, ?_, ?_, fun _ => ⟨[], _, rfl, rfl, Int.le_refl _⟩, fun h0 => (by cases h0), fun _ _ => ⟨e.at_, rfl, Int.le_refl _⟩, fun _ h0 => (by cases h0)⟩
      · show [(⟨e.bike, spanE e, zSpn⟩ : Lg)].all lgOk = true
        simp [lgOk, hw, zOk]
      · show (decide (spanE e = spanE e) && decide (zSpn = zSpn)) = true
        simp
      · show legsOrd true ([] ++ [(⟨e.bike, spanE e, zSpn⟩ : Lg)]) = true
        rw [lord_open]; rfl
  | one j r q p p' h3 hr ho hp hs h1 h2 =>
    have hq := (h j r p hr hp).step ho hs hw hT
    intro k u v hu hv
    rw [h1, set_get' q hr] at hu
    rw [h2, set_get' p' hp] at hv
    split at hu
    · rename_i e1
      rw [if_pos e1] at hv
      cases hu; cases hv
      exact hq
    · rename_i e1
      rw [if_neg e1] at hv
      exact (h k u v hu hv).late hT
theorem VI.run {f : Fl} {n : Nat} (hn : f.bikes = n) : ∀ (l : List Ev) {N : Nat} {T : Int} {s : PS} {y : SY}, VI T y → Joint n N s y → Replay f s l → (∀ e ∈ l, T ≤ e.at_) → l.Pairwise (fun a b => a.at_ ≤ b.at_) → ∃ T', VI T' (l.foldl tellY y)
  | [], N, T, s, y, h, _, _, _, _ => ⟨T, h⟩
  | e :: l, N, T, s, y, h, hJ, ⟨h1, h2, h3, h4⟩, hT, hs => by
    have hb := (evErr_ok h1).2.1
    rw [hn] at hb
    obtain ⟨hw, hid⟩ := ev_span h1
    have hJ2 : Joint n (N + 1) (doP s e) (tellY y e) := ⟨hJ.ji.step hJ.inv hJ.wf hb h3, hJ.inv.step hb h3, hJ.wf.tell hb⟩
    obtain ⟨hs1, hs2⟩ := List.pairwise_cons.1 hs
    exact VI.run hn l (h.step hJ.wf (tell_form hJ.ji hJ.inv hb h3) hw hid (hT e (by simp))) hJ2 h4 (fun a ha => hs1 a ha) hs2
theorem acc_sorted {f : Fl} (hok : flErr f = 0) (xs : List Ev) : (accOf f xs).Pairwise fun a b => a.at_ ≤ b.at_ := by
  obtain ⟨t, h1, h2⟩ := acc_sub (f := f) (setOf xs) (beginP (nbOf f)) []
  have ha : accOf f xs = t := by unfold accOf; rw [if_pos hok, h1]; simp
  rw [ha]
  exact ((set_isSet xs).sorted.sublist h2).imp fun h => at_of_less h
theorem valid_of {f : Fl} {xs : List Ev} (hn : xs.length ≤ 512) {r : Rd} (hr : r ∈ allOf f xs) : checkR r = 0 := by
  unfold allOf at hr
  split at hr
  · rename_i hok
    have hm := (byId_perm _).mem_iff.1 hr
    obtain ⟨hrp, _⟩ := replay_of hok xs (fun _ => ())
    obtain ⟨T, hV⟩ := VI.run (nb_eq hok) (accOf f xs) (N := 0) (T := 0) (s := beginP (nbOf f)) (y := beginSY (nbOf f)) (fun k r p h => by simp [beginSY] at h) (joint_begin _) hrp (fun e he => by
      obtain ⟨k, hk⟩ := List.mem_iff_getElem?.1 he
      have := (evErr_ok (hrp.at_ (g := fun _ => ()) hk).1).2.2.2.2.1
      exact this) (acc_sorted hok xs)
    have hJ := joint_of hok xs
    obtain ⟨k, hk⟩ := List.mem_iff_getElem?.1 hm
    obtain ⟨p, hp⟩ : ∃ p, (storyOf f xs).paused[k]? = some p := ⟨_, List.getElem?_eq_getElem (by rw [hJ.wf.paused]; exact (List.getElem?_eq_some_iff.1 hk).1)⟩
    have hl := hJ.wf.legs r hm
    have hal := accOf_len f xs
    exact (hV k r p hk hp).check ⟨hl.1, by omega, by omega⟩
  · cases hr

/-! starts and rides -/
def headR (r : Rd) : Int × Int × Spn × Int := (r.id, r.rider, r.start, (r.legs.getD 0 default).bike)
def headE (e : Ev) : Int × Int × Spn × Int := (e.ride, e.rider, spanE e, e.bike)
def isStart (e : Ev) : Bool := decide (e.kind = 3)
theorem first_endLeg (w : Spn) (l : List Lg) : ((endLeg w l).getD 0 default).bike = (l.getD 0 default).bike := by
  unfold endLeg
  cases l with
  | nil => rfl
  | cons g l =>
    cases l with
    | nil => rfl
    | cons h l => simp
theorem first_snoc {l : List Lg} (h : 0 < l.length) (g : Lg) : (l ++ [g]).getD 0 default = l.getD 0 default := by
  cases l with
  | nil => exact absurd h (by decide)
  | cons a l => rfl
theorem step_head {e : Ev} {p p' : Bool} {r q : Rd} (hl : 0 < r.legs.length) (h : RdStep e p r p' q) : headR q = headR r := by
  have hres : ∀ p, headR (resumeR p (spanE e) r) = headR r := fun p => by unfold resumeR; split <;> rfl
  have hrl : ∀ p, (resumeR p (spanE e) r).legs = r.legs := fun p => by unfold resumeR; split <;> rfl
  cases h with
  | swap h4 hp =>
    show (r.id, r.rider, r.start, ((endLeg (spanE e) r.legs ++ [(⟨e.bike, spanE e, zSpn⟩ : Lg)]).getD 0 default).bike) = _
    rw [first_snoc (by rw [endLeg_len]; exact hl), first_endLeg]; rfl
  | pause h5 hp => rfl
  | resume h6 => exact hres p
  | finish to h3 hto =>
    rw [← hres p]
    show (_, _, _, ((endLeg (spanE e) (resumeR p (spanE e) r).legs).getD 0 default).bike) = _
    rw [first_endLeg]; rfl
theorem form_head {n N : Nat} {y z : SY} {e : Ev} (hW : WF n N y) (h : StForm e y z) : z.rides.map headR = y.rides.map headR ++ if isStart e = true then [headE e] else [] := by
  cases h with
  | same h3 h1 h2 => rw [h1, if_neg (by unfold isStart; simpa using h3), List.append_nil]
  | new from_ h3 h1 h2 => rw [h1, if_pos (by unfold isStart; simpa using h3), List.map_append]; rfl
  | one j r q p p' h3 hr ho hp hs h1 h2 =>
    rw [h1, if_neg (by unfold isStart; simpa using h3), List.append_nil, List.map_set, step_head (hW.legs r (List.mem_of_getElem? hr)).1 hs]
    exact set_same (by rw [List.getElem?_map, hr]; rfl)
theorem heads_run {f : Fl} {n : Nat} (hn : f.bikes = n) : ∀ (l : List Ev) {N : Nat} {s : PS} {y : SY}, Joint n N s y → Replay f s l → (l.foldl tellY y).rides.map headR = y.rides.map headR ++ (l.filter isStart).map headE
  | [], N, s, y, _, _ => by simp
  | e :: l, N, s, y, hJ, ⟨h1, h2, h3, h4⟩ => by
    have hb := (evErr_ok h1).2.1
    rw [hn] at hb
    have hJ2 : Joint n (N + 1) (doP s e) (tellY y e) := ⟨hJ.ji.step hJ.inv hJ.wf hb h3, hJ.inv.step hb h3, hJ.wf.tell hb⟩
    rw [List.foldl_cons, heads_run hn l hJ2 h4, form_head hJ.wf (tell_form hJ.ji hJ.inv hb h3), List.filter_cons, List.append_assoc]
    congr 1
    split <;> rfl
theorem heads_of {f : Fl} (hok : flErr f = 0) (xs : List Ev) : (storyOf f xs).rides.map headR = ((accOf f xs).filter isStart).map headE := by
  obtain ⟨hrp, _⟩ := replay_of hok xs (fun _ => ())
  exact heads_run (nb_eq hok) (accOf f xs) (joint_begin _) hrp
theorem starts_len (f : Fl) (xs : List Ev) : (allOf f xs).length = ((accOf f xs).filter isStart).length := by
  by_cases hok : flErr f = 0
  · have := congrArg List.length (heads_of hok xs)
    simp only [List.length_map] at this
    unfold allOf
    rw [if_pos hok, (byId_perm _).length_eq, this]
  · unfold allOf accOf
    rw [if_neg hok, if_neg hok]; rfl
theorem start_ride {f : Fl} {xs : List Ev} {e : Ev} (he : e ∈ accOf f xs) (h3 : e.kind = 3) : ∃ r, r ∈ allOf f xs ∧ headR r = headE e ∧ (allOf f xs).find? (fun r => decide (r.id = e.ride)) = some r := by
  have hok : flErr f = 0 := by
    refine Decidable.byContradiction fun hok => ?_
    unfold accOf at he
    rw [if_neg hok] at he
    cases he
  have hm : headE e ∈ (storyOf f xs).rides.map headR := by
    rw [heads_of hok]
    exact List.mem_map_of_mem (List.mem_filter.2 ⟨he, by unfold isStart; simpa using h3⟩)
  obtain ⟨r, hr, hh⟩ := List.mem_map.1 hm
  have hra : r ∈ allOf f xs := by unfold allOf; rw [if_pos hok]; exact (byId_perm _).mem_iff.2 hr
  have hid : r.id = e.ride := congrArg Prod.fst hh
  refine ⟨r, hra, hh, ?_⟩
  cases hf : (allOf f xs).find? (fun r => decide (r.id = e.ride)) with
  | none => exact absurd (List.find?_eq_none.1 hf r hra) (by simp [hid])
  | some q =>
    have hq := List.mem_of_find?_eq_some hf
    have hqi : q.id = e.ride := by simpa using List.find?_some hf
    have hqs : q ∈ (storyOf f xs).rides := by unfold allOf at hq; rw [if_pos hok] at hq; exact (byId_perm _).mem_iff.1 hq
    obtain ⟨i, hi⟩ := List.mem_iff_getElem?.1 hr
    obtain ⟨j, hj⟩ := List.mem_iff_getElem?.1 hqs
    have := id_uniq (joint_of hok xs).ji.ids hi hj (by rw [hid, hqi])
    subst this
    rw [hi] at hj
    exact hj.symm

end Go.Proofs.Rid

/-
  The walks of the laws: every ride is right, one for each start.
-/
namespace Go.Proofs.Rid
open Go Go.RowKit Go.Proofs.E Go.Proofs.Cus

theorem findT_w {A : Option Addr} {n c : Nat} {xs : List RX} {id : Int} {r : Rd} {w : World} (hf : (xs.map (·.r)).find? (fun r => decide (r.id = id)) = some r) (hx : RdsAt w A n xs) (hs : Short xs) : Calls Try.prog 14 #[.slice A n c, .int .i64 id] w fun e w' => ∃ y : RPl, e = .returned (.tuple #[.agg (RX.cells ⟨r, y⟩).toArray, .bool true]) ∧ Mem w (rdParts ⟨r, y⟩) w' :=
  (find_w A n c xs id w hx hs).mono fun e w' h => by
    unfold findR at h
    rw [hf] at h
    exact h
theorem checkT_w {x : RX} {w : World} (hx : RdAt w x) (hl : x.r.legs.length ≤ 100000 ∧ x.r.pauses.length ≤ 100000) (h0 : checkR x.r = 0) : Calls Try.prog 11 #[.agg x.cells.toArray] w fun e w' => e = .returned (.int .i64 0) ∧ Bel w w' :=
  (rcheck_w x w hx (by omega) (by omega)).mono fun e w' h => by rw [h0] at h; exact h
theorem all_strict (f : Fl) (xs : List Ev) : (allOf f xs).Pairwise fun x y => x.id < y.id := by
  unfold allOf
  split
  · rename_i hok
    exact byId_strict (joint_of hok xs).ji.ids
  · exact List.Pairwise.nil
attribute [local irreducible] allOf flErr storyOf accOf checkR
set_option maxHeartbeats 1000000 in
set_option maxRecDepth 20000 in
theorem validLaw_w (f : Fl) (a : FA) (A : Option Addr) (n c : Nat) (xs : List Ev) (w : World) (hf : FlAt w f a) (hx : EvsAt w A n xs) (hpl : PlOk xs) :
    Calls Try.prog 5 #[.agg (f.cells a).toArray, .slice A n c] w fun r w' => r = .returned (.bool true) ∧ Bel w w' := by
  have hl := hx.1
  refine H_enter Try.func5 rfl Try.ntmps5 rfl ?_
  refine H_seq ?_
  refine R0 ?_
  refine X_box (v := .agg _) rfl rfl fun b2 => ?_
  refine xV (e_as (v := .bool _) (q0 rfl)) rfl rfl ?_
  refine XN ?_
  refine thenJ_normal ?_
  refine H_seq ?_
  refine H_seq ?_
  refine R0 ?_
  refine xV (eS Try.isAgg42 Try.sizeOf42 (q0 rfl)) rfl rfl ?_
  refine xV (e_mv (v := .slice _ _ _) (q0 rfl)) rfl rfl ?_
  refine xC (en Try.call22 (ha2 (q0 rfl) (q0 rfl))) (fun _ w _ => few_w f a A n c w) rfl rfl ?_
  refine xV (e_not (q0 rfl)) rfl rfl ?_
  refine XN ?_
  refine thenJ_normal ?_
  refine H_cond rfl (fun h0 => ?_) (fun h0 => ?_)
  · refine H_seq ?_
    refine R0 ?_
    refine xC (en Try.call10 (ha0)) (fun _ w _ => awake_w w) rfl rfl ?_
    refine xV (e_as (v := .bool _) (q0 rfl)) rfl rfl ?_
    refine XN ?_
    refine thenJ_normal ?_
    refine H_ret ?_
    refine thenJ_ret ?_
    exact ret1 (v := .bool _) rfl rfl rfl fun w' hw => ⟨rfl, hw.1⟩
  · have hn := few_n h0
    subst hl
    have hr := story20 f hn
    have hl40 := all_len (f := f) xs
    have hal := accOf_len f xs
    have hsh : ∀ r ∈ allOf f xs, r.legs.length ≤ 100000 ∧ r.pauses.length ≤ 100000 := fun r hr => by have := short_of f hn r hr; omega
    refine H_skip ?_
    refine thenJ_normal ?_
    refine H_seq ?_
    refine R0 ?_
    refine xV (eS Try.isAgg42 Try.sizeOf42 (q0 rfl)) rfl rfl ?_
    refine xV (e_mv (v := .slice _ _ _) (q0 rfl)) rfl rfl ?_
    refine xCX (en Try.call23 (ha2 (q0 rfl) (q0 rfl))) (fun w hw => all_w f a A _ c xs w (hf.mem hw) (hx.mem hw) (by omega) hpl hr) rfl (fun _ => rfl) fun x => ?_
    refine xV (e_mv (q0 rfl)) rfl rfl ?_
    refine xV (e_ext (q0 rfl) rfl) rfl rfl ?_
    refine xV (e_ext (q0 rfl) rfl) rfl rfl ?_
    refine xV (e_as (v := .slice _ _ _) (q0 rfl)) rfl rfl ?_
    refine xV (e_as (v := .int _ _) (q0 rfl)) rfl rfl ?_
    refine XN ?_
    refine thenJ_normal ?_
    refine H_seq ?_
    refine R0 ?_
    refine xV (eS Try.isAgg42 Try.sizeOf42 (q0 rfl)) rfl rfl ?_
    refine xV (e_mv (v := .slice _ _ _) (q0 rfl)) rfl rfl ?_
    refine xCX (en Try.call24 (ha2 (q0 rfl) (q0 rfl))) (fun w hw => accepted_w f a A _ c xs w (hf.mem hw) (hx.mem hw) (by omega) hpl) rfl (fun _ => rfl) fun ac => ?_
    refine xV (e_mv (q0 rfl)) rfl rfl ?_
    refine xV (e_ext (q0 rfl) rfl) rfl rfl ?_
    refine xV (e_ext (q0 rfl) rfl) rfl rfl ?_
    refine xV (e_as (v := .slice _ _ _) (q0 rfl)) rfl rfl ?_
    refine xV (e_as (v := .int _ _) (q0 rfl)) rfl rfl ?_
    refine XN ?_
    refine thenJ_normal ?_
    refine H_seq ?_
    refine H_seq ?_
    refine R0 ?_
    refine xV (e_mv (v := .int _ _) (q0 rfl)) rfl rfl ?_
    refine xV (e_mv (v := .int _ _) (q0 rfl)) rfl rfl ?_
    refine xV (e_ne (q0 rfl) (q0 rfl)) rfl rfl ?_
    refine XN ?_
    refine thenJ_normal ?_
    refine H_cond rfl (fun h1 => ?_) (fun h1 => ?_)
    · exfalso
      simp at h1
    · refine H_rebase rfl fun w1 hw1 => ?_
      have hB : Bel w w1 := hw1.1
      have hrd := rds_out x hw1 1 2 rfl rfl (by omega) hsh
      have hac : EvsAt w1 ac.1 (accOf f xs).length (accOf f xs) := slAt_row hw1 (j := 0) rfl (fun _ => rfl) (by omega)
      clear hw1
      obtain ⟨⟨A1, c1, ys⟩, hys⟩ := x
      obtain ⟨aA, ac⟩ := ac
      simp only at hrd hac hys
      have hyl := congrArg List.length hys
      rw [List.length_map] at hyl
      have hyn : ys.length ≤ 40 := by omega
      have hyo : ∀ y ∈ ys, y.r ∈ allOf f xs := fun y hy => by rw [← hys]; exact List.mem_map_of_mem hy
      have hyc : ∀ y ∈ ys, checkR y.r = 0 := fun y hy => valid_of (by omega) (hyo y hy)
      have hys' : Short ys := fun y hy => hsh _ (hyo y hy)
      have hst0 : ∀ e ∈ accOf f xs, e.kind = 3 → ∃ r, r ∈ allOf f xs ∧ headR r = headE e ∧ (ys.map (·.r)).find? (fun r => decide (r.id = e.ride)) = some r := fun e he h3 => by rw [hys]; exact start_ride he h3
      have hlp : ∀ r ∈ allOf f xs, 0 < r.legs.length := fun r hr => legs_pos hr
      have hsl := starts_len f xs
      have hasc : ∀ (j : Nat) (p q : RX), ys[j]? = some p → ys[j + 1]? = some q → p.r.id < q.r.id := fun j p q hp hq => by
        have h := all_strict f xs
        rw [← hys, List.pairwise_map] at h
        obtain ⟨h1, h2⟩ := List.getElem?_eq_some_iff.1 hp
        obtain ⟨h3, h4⟩ := List.getElem?_eq_some_iff.1 hq
        have := List.pairwise_iff_getElem.1 h j (j + 1) h1 h3 (by omega)
        rw [h2, h4] at this; exact this
      rw [← hyl] at hsl
      generalize accOf f xs = acc at *
      refine H_skip ?_
      refine thenJ_normal ?_
      refine H_seq ?_
      refine R0 ?_
      refine xV (e_as (v := .int _ _) (q0 rfl)) rfl rfl ?_
      refine XN ?_
      refine thenJ_normal ?_
      refine H_seq ?_
      refine H_seq ?_
      refine R0 ?_
      refine xV (e_as (v := .int _ _) (q0 rfl)) rfl rfl ?_
      refine XN ?_
      refine thenJ_normal ?_
      refine H_block ?_
      refine H_loop [4, 9, 10, 11, 12, 13, 35, 36, 37, 38, 39, 40, 41, 42, 43, 44, 45, 46, 47, 48, 49, 50, 51, 52, 53, 54, 55, 56, 57, 58, 59, 60, 61, 62, 63, 64, 65, 66, 67, 68, 69, 70, 71, 72, 73, 74, 75, 76, 77, 78, 79, 80, 81, 82, 83, 84, 85, 86, 87, 88, 89, 90, 91] (fun k : Nat => [(10, .int .i64 k), (9, .int .i64 ((((acc.take k).filter isStart).length : Nat) : Int))]) (fun _ => []) (fun k => k ≤ acc.length) (fun k => acc.length - k) 0 ⟨rfl, rfl, trivial⟩ (fun w hw => hw) rfl (Nat.zero_le _) ?_
      rintro k g hk
      have hcl : ((acc.take k).filter isStart).length ≤ 40 := Nat.le_trans (List.length_filter_le _ _) (by rw [List.length_take]; omega)
      refine H_seq ?_
      refine H_seq ?_
      refine R0 ?_
      refine xV (e_mv (v := .int _ _) (q0 rfl)) rfl rfl ?_
      refine xV (e_mv (v := .slice _ _ _) (q0 rfl)) rfl rfl ?_
      refine xV (e_len Try.underlying43 (q0 rfl)) rfl rfl ?_
      refine xV (e_lt (q0 rfl) (q0 rfl)) rfl rfl ?_
      refine XN ?_
      refine thenJ_normal ?_
      refine H_cond rfl (fun hlt => ?_) (fun hlt => ?_)
      · have hlt' : k < acc.length := by simpa using hlt
        obtain ⟨b, off, e, rfl, hbl, he, hre⟩ := hac.at_ hlt'
        have hem := List.mem_of_getElem? he
        have hst : (acc.take (k + 1)).filter isStart = (acc.take k).filter isStart ++ if isStart e = true then [e] else [] := by
          rw [take_snoc _ _ _ he, List.filter_append, List.filter_cons, List.filter_nil]
        refine H_skip ?_
        refine thenJ_normal ?_
        refine H_seq ?_
        refine H_block ?_
        refine H_seq ?_
        refine R0 ?_
        refine xV (e_mv (v := .slice _ _ _) (q0 rfl)) rfl rfl ?_
        refine xV (e_mv (v := .int _ _) (q0 rfl)) rfl rfl ?_
        refine xV (e_idx _ Try.underlying43 Try.sizeOf50 (q0 rfl) (q0 rfl) (fun _ => ⟨rfl, by omega⟩)) rfl rfl ?_
        refine xV (eS Try.isAgg50 Try.sizeOf50 (q0 rfl)) rfl rfl ?_
        refine X_alloc Try.zeroValue50 rfl fun b11 => ?_
        refine X_st (v := .agg _) rfl rfl Try.sizeOf50 ?_
        refine XN ?_
        refine thenJ_normal ?_
        refine H_seq ?_
        refine H_seq ?_
        refine R0 ?_
        refine xV (e_fld Try.underlying50 rfl Try.sizeOf3 rfl (q0 rfl)) rfl rfl ?_
        refine xV (eL Try.isAgg3 (q0 rfl)) rfl rfl ?_
        refine xV (e_ne (q0 rfl) (q0 rfl)) rfl rfl ?_
        refine XN ?_
        refine thenJ_normal ?_
        refine H_cond rfl (fun hk3 => ?_) (fun hk3 => ?_)
        · have hk3' : isStart e = false := by unfold isStart; simpa using hk3
          rw [hk3', if_neg (by decide), List.append_nil] at hst
          refine H_exit ?_
          refine thenJ_exit ?_
          refine blockJ_hit ?_
          refine thenJ_normal ?_
          refine R0 ?_
          refine xV (e_mv (v := .int _ _) (q0 rfl)) rfl rfl ?_
          refine xV (e_add (q0 rfl) (q0 rfl) (fun _ => ⟨rfl, by omega, by omega⟩)) rfl rfl ?_
          refine xV (e_as (v := .int _ _) (q0 rfl)) rfl rfl ?_
          refine XN ?_
          exact loopJ_normal (k + 1) (by repeat (first | exact agree_self | exact agree_over | refine agree_upd rfl ?_ | refine agree_updL rfl ?_ | refine agree_over2 rfl ?_)) ⟨rfl, by rw [hst]; rfl, trivial⟩ (fun w hw => mem_nil.2 hw.1) rfl (by show k + 1 ≤ _; omega) (by show acc.length - (k + 1) < acc.length - k; omega)
        · have hk3' : e.kind = 3 := by simpa using hk3
          rw [if_pos (by unfold isStart; simpa using hk3')] at hst
          obtain ⟨r, hrm, hh, hfd⟩ := hst0 e hem hk3'
          have hrl := hsh r hrm
          have hrp := hlp r hrm
          have hh1 : r.rider = e.rider := congrArg (fun t => t.2.1) hh
          have hh2 : r.start = spanE e := congrArg (fun t => t.2.2.1) hh
          have hh3 : (r.legs.getD 0 default).bike = e.bike := congrArg (fun t => t.2.2.2) hh
          obtain ⟨g0, hg0⟩ : ∃ g0, r.legs[0]? = some g0 := ⟨_, List.getElem?_eq_getElem hrp⟩
          rw [List.getD_eq_getElem?_getD, hg0] at hh3
          have hh4 : g0.bike = e.bike := hh3
          have hl0 : decide ((r.legs.length : Int) = 0) = false := by simp; intro h; rw [h] at hrp; exact absurd hrp (by decide)
          have hG : (!((!true || decide ((r.legs.length : Int) = 0)) || !decide (r.rider = e.rider))) = true := by rw [hl0, hh1]; simp
          refine H_skip ?_
          refine thenJ_normal ?_
          refine H_seq ?_
          refine R0 ?_
          refine xV (e_mv (v := .int _ _) (q0 rfl)) rfl rfl ?_
          refine xV (e_add (q0 rfl) (q0 rfl) (fun _ => ⟨rfl, by omega, by omega⟩)) rfl rfl ?_
          refine xV (e_as (v := .int _ _) (q0 rfl)) rfl rfl ?_
          refine XN ?_
          refine thenJ_normal ?_
          refine H_seq ?_
          refine R0 ?_
          refine xV (e_mv (v := .slice _ _ _) (q0 rfl)) rfl rfl ?_
          refine xV (e_fld Try.underlying50 rfl Try.sizeOf3 rfl (q0 rfl)) rfl rfl ?_
          refine xV (eL Try.isAgg3 (q0 rfl)) rfl rfl ?_
          refine xCX (en Try.call14 (ha2 (q0 rfl) (q0 rfl))) (fun w hw => findT_w hfd (hrd.mem hw) hys') rfl (fun _ => rfl) fun y => ?_
          refine xV (e_mv (q0 rfl)) rfl rfl ?_
          refine xV (e_ext (q0 rfl) rfl) rfl rfl ?_
          refine xV (e_ext (q0 rfl) rfl) rfl rfl ?_
          refine X_alloc Try.zeroValue27 rfl fun b12 => ?_
          refine X_st (v := .agg _) rfl rfl Try.sizeOf27 ?_
          refine xV (e_as (v := .bool _) (q0 rfl)) rfl rfl ?_
          refine XN ?_
          refine thenJ_normal ?_
          refine H_seq ?_
          obtain ⟨yA, yc, yp, yq⟩ := y
          refine H_know (fun w hw => rowT_at (j := 1) hw rfl hrp) fun ⟨lb, hlb⟩ => ?_
          simp only at hlb
          subst hlb
          refine R1 rfl (by decide +kernel) ?_
          refine xV (e_mv (v := .bool _) (q0 rfl)) rfl rfl ?_
          refine xV (e_not (q0 rfl)) rfl rfl ?_
          refine xV (e_mv (v := .bool _) (q0 rfl)) rfl rfl ?_
          refine xVF (e_fld Try.underlying27 rfl Try.sizeOf24 rfl (q0 rfl)) rfl rfl rfl rfl ?_
          refine xVF (eL Try.isAgg24 (q1 rfl)) rfl rfl rfl rfl ?_
          refine xVF (e_len Try.underlying24 (q1 rfl)) rfl rfl rfl rfl ?_
          refine xVF (e_eq (q1 rfl) (q0 rfl)) rfl rfl rfl rfl ?_
          refine xV (e_or (q0 rfl) rfl (fun h => by first | rfl | (rw [h]; rfl))) rfl rfl ?_
          refine xV (e_mv (v := .bool _) (q0 rfl)) rfl rfl ?_
          refine xVF (e_fld Try.underlying27 rfl Try.sizeOf3 rfl (q0 rfl)) rfl rfl rfl rfl ?_
          refine xVF (eL Try.isAgg3 (q1 rfl)) rfl rfl rfl rfl ?_
          refine xVF (e_fld Try.underlying50 rfl Try.sizeOf3 rfl (q0 rfl)) rfl rfl rfl rfl ?_
          refine xVF (eL Try.isAgg3 (q1 rfl)) rfl rfl rfl rfl ?_
          refine xVF (e_ne (q1 rfl) (q1 rfl)) rfl rfl rfl rfl ?_
          refine xV (e_or (q0 rfl) rfl (fun h => by first | rfl | (rw [h]; rfl))) rfl rfl ?_
          refine xV (e_mv (v := .bool _) (q0 rfl)) rfl rfl ?_
          refine xVF (e_fld Try.underlying27 rfl Try.sizeOf23 rfl (q0 rfl)) rfl rfl rfl rfl ?_
          refine xVF (eP Try.isAgg23 Try.sizeOf23 (q1 rfl)) rfl rfl rfl rfl ?_
          refine xVF (e_fld Try.underlying50 rfl Try.sizeOf3 rfl (q0 rfl)) rfl rfl rfl rfl ?_
          refine xVF (eL Try.isAgg3 (q1 rfl)) rfl rfl rfl rfl ?_
          refine xVF (e_fld Try.underlying50 rfl Try.sizeOf3 rfl (q0 rfl)) rfl rfl rfl rfl ?_
          refine xVF (eL Try.isAgg3 (q1 rfl)) rfl rfl rfl rfl ?_
          refine xVF (EvG.any (e_build Try.underlying23 fl23 Try.zeroValue23 (pt (v := .int .i64 e.at_) (gv_of hG) (pt (v := .int .i64 e.late) (gv_of hG) E.p0)) rfl)) rfl rfl rfl rfl ?_
          refine xVF (e_neS (fun w => eqSpn r.start (spanE e) w) (by kernel_rfl) (q1 rfl) (q1 rfl)) rfl rfl rfl rfl ?_
          refine xV (e_or (q0 rfl) rfl (fun h => by first | rfl | (rw [h]; rfl))) rfl rfl ?_
          refine xV (e_mv (v := .bool _) (q0 rfl)) rfl rfl ?_
          refine xVF (e_fld Try.underlying27 rfl Try.sizeOf24 rfl (q0 rfl)) rfl rfl rfl rfl ?_
          refine xVF (eL Try.isAgg24 (q1 rfl)) rfl rfl rfl rfl ?_
          refine xVF (e_idx 0 Try.underlying24 Try.sizeOf52 (q1 rfl) (q0 rfl) (fun _ => ⟨rfl, hrp⟩)) rfl rfl rfl rfl ?_
          refine xVF (e_fld Try.underlying52 rfl Try.sizeOf3 rfl (q1 rfl)) rfl rfl rfl rfl ?_
          refine xVF (e_ld (v := .int .i64 g0.bike) Try.isAgg3 (q1 rfl) (by first | exact rr 1 (r := 0) rfl hg0 rfl | exact rr0 1 rfl hg0 rfl)) rfl rfl rfl rfl ?_
          refine xVF (e_fld Try.underlying50 rfl Try.sizeOf3 rfl (q0 rfl)) rfl rfl rfl rfl ?_
          refine xVF (eL Try.isAgg3 (q1 rfl)) rfl rfl rfl rfl ?_
          refine xVF (e_ne (q1 rfl) (q1 rfl)) rfl rfl rfl rfl ?_
          refine xV (e_or (q0 rfl) rfl (fun h => by first | rfl | (rw [h]; rfl))) rfl rfl ?_
          refine XN ?_
          refine thenJ_normal ?_
          refine H_cond rfl (fun hb => ?_) (fun hb => ?_)
          · exfalso
            have h2 : ((((!true || decide ((r.legs.length : Int) = 0)) || !decide (r.rider = e.rider)) || !decide (r.start = spanE e)) || !decide (g0.bike = e.bike)) = true := hb
            rw [hl0, hh1, hh2, hh4] at h2
            simp at h2
          · refine H_skip ?_
            refine blockJ_normal ?_
            refine thenJ_normal ?_
            refine R0 ?_
            refine xV (e_mv (v := .int _ _) (q0 rfl)) rfl rfl ?_
            refine xV (e_add (q0 rfl) (q0 rfl) (fun _ => ⟨rfl, by omega, by omega⟩)) rfl rfl ?_
            refine xV (e_as (v := .int _ _) (q0 rfl)) rfl rfl ?_
            refine XN ?_
            exact loopJ_normal (k + 1) (by repeat (first | exact agree_self | exact agree_over | refine agree_upd rfl ?_ | refine agree_updL rfl ?_ | refine agree_over2 rfl ?_)) ⟨rfl, by rw [hst, List.length_append]; rfl, trivial⟩ (fun w hw => mem_nil.2 hw.1) rfl (by show k + 1 ≤ _; omega) (by show acc.length - (k + 1) < acc.length - k; omega)
      · have hend : k = acc.length := by simp at hlt; omega
        subst hend
        simp only [List.take_length]
        rw [← hsl]
        refine H_exit ?_
        refine thenJ_exit ?_
        refine loopJ_exit ?_
        refine blockJ_hit ?_
        refine thenJ_normal ?_
        refine H_seq ?_
        refine H_seq ?_
        refine R0 ?_
        refine xV (e_as (v := .int _ _) (q0 rfl)) rfl rfl ?_
        refine XN ?_
        refine thenJ_normal ?_
        refine H_block ?_
        refine H_loop [4, 14, 92, 93, 94, 95, 96, 97, 98, 99, 100, 101, 102, 103, 104, 105, 106, 107, 108, 109, 110, 111, 112, 113, 114, 115, 116, 117, 118, 119, 120, 121] (fun i : Nat => [(14, .int .i64 i)]) (fun _ => []) (fun i => i ≤ ys.length) (fun i => ys.length - i) 0 ⟨rfl, trivial⟩ (fun w hw => hw) rfl (Nat.zero_le _) ?_
        rintro i g2 hi
        refine H_seq ?_
        refine H_seq ?_
        refine R0 ?_
        refine xV (e_mv (v := .int _ _) (q0 rfl)) rfl rfl ?_
        refine xV (e_mv (v := .slice _ _ _) (q0 rfl)) rfl rfl ?_
        refine xV (e_len Try.underlying32 (q0 rfl)) rfl rfl ?_
        refine xV (e_lt (q0 rfl) (q0 rfl)) rfl rfl ?_
        refine XN ?_
        refine thenJ_normal ?_
        refine H_cond rfl (fun hlt2 => ?_) (fun hlt2 => ?_)
        · have hlt2' : i < ys.length := by simpa using hlt2
          obtain ⟨b, off, y, rfl, hbl, hy, hry⟩ := hrd.1.at_ hlt2'
          have hym := List.mem_of_getElem? hy
          rcases Nat.eq_zero_or_pos i with h00 | h00
          · subst h00
            refine H_skip ?_
            refine thenJ_normal ?_
            refine H_seq ?_
            refine H_block ?_
            refine H_seq ?_
            refine R1 rfl (by decide +kernel) ?_
            refine xV (e_mv (v := .slice _ _ _) (q0 rfl)) rfl rfl ?_
            refine xV (e_mv (v := .int _ _) (q0 rfl)) rfl rfl ?_
            refine xV (e_idx _ Try.underlying32 Try.sizeOf27 (q0 rfl) (q0 rfl) (fun _ => ⟨rfl, by omega⟩)) rfl rfl ?_
            refine xV (eS Try.isAgg27 Try.sizeOf27 (q0 rfl)) rfl rfl ?_
            refine xC (en Try.call11 (ha1 (q0 rfl))) (fun _ w hw => checkT_w ((hrd.2 y hym).mem hw) (hys' y hym) (hyc y hym)) rfl rfl ?_
            refine xV (e_ne (q0 rfl) (q0 rfl)) rfl rfl ?_
            refine xV (e_mv (v := .bool _) (q0 rfl)) rfl rfl ?_
            refine xVF (e_mv (v := .int _ _) (q0 rfl)) rfl rfl rfl rfl ?_
            refine xVF (e_gt (q1 rfl) (q0 rfl)) rfl rfl rfl rfl ?_
            refine xVF (e_mv (v := .bool _) (q1 rfl)) rfl rfl rfl rfl ?_
            refine xVT2 (e_dead (v := .slice none 0 0) (by simp)) rfl rfl rfl rfl ?_
            refine xVT2 (e_dead (v := .int .i64 0) (by simp)) rfl rfl rfl rfl ?_
            refine xVT2 (e_dead (v := .int .i64 0) (by simp)) rfl rfl rfl rfl ?_
            refine xVT2 (e_dead (v := .pointer none) (by simp)) rfl rfl rfl rfl ?_
            refine xVT2 (e_dead (v := .pointer none) (by simp)) rfl rfl rfl rfl ?_
            refine xVT2 (e_dead (v := .int .i64 0) (by simp)) rfl rfl rfl rfl ?_
            refine xVT2 (e_dead (v := .slice none 0 0) (by simp)) rfl rfl rfl rfl ?_
            refine xVT2 (e_dead (v := .int .i64 0) (by simp)) rfl rfl rfl rfl ?_
            refine xVT2 (e_dead (v := .pointer none) (by simp)) rfl rfl rfl rfl ?_
            refine xVT2 (e_dead (v := .pointer none) (by simp)) rfl rfl rfl rfl ?_
            refine xVT2 (e_dead (v := .int .i64 0) (by simp)) rfl rfl rfl rfl ?_
            refine xVT2 (e_dead (v := .bool false) (by simp)) rfl rfl rfl rfl ?_
            refine xVF (e_and (q1 rfl) rfl (fun h => by first | rfl | (rw [h]; rfl))) rfl rfl rfl rfl ?_
            refine xV (e_or (q0 rfl) rfl (fun h => by first | rfl | (rw [h]; rfl))) rfl rfl ?_
            refine XN ?_
            refine thenJ_normal ?_
            refine H_cond rfl (fun hb => ?_) (fun hb => ?_)
            · exfalso
              simp at hb
            · refine H_skip ?_
              refine blockJ_normal ?_
              refine thenJ_normal ?_
              refine R0 ?_
              refine xV (e_mv (v := .int _ _) (q0 rfl)) rfl rfl ?_
              refine xV (e_add (q0 rfl) (q0 rfl) (fun _ => ⟨rfl, by omega, by omega⟩)) rfl rfl ?_
              refine xV (e_as (v := .int _ _) (q0 rfl)) rfl rfl ?_
              refine XN ?_
              exact loopJ_normal (0 + 1) (by repeat (first | exact agree_self | exact agree_over | refine agree_upd rfl ?_ | refine agree_updL rfl ?_ | refine agree_over2 rfl ?_)) ⟨rfl, trivial⟩ (fun w hw => hw) rfl (by show 0 + 1 ≤ _; omega) (by show ys.length - (0 + 1) < ys.length - 0; omega)
          · obtain ⟨j, rfl⟩ : ∃ j, i = j + 1 := ⟨i - 1, by omega⟩
            have hjl : j < ys.length := by omega
            have hji : ((j + 1 : Nat) : Int) - 1 = (j : Int) := by omega
            obtain ⟨z, hz, hrz⟩ := hrd.1.row hjl
            have hzy := hasc j z y hz hy
            refine H_skip ?_
            refine thenJ_normal ?_
            refine H_seq ?_
            refine H_block ?_
            refine H_seq ?_
            refine R1 rfl (by decide +kernel) ?_
            refine xV (e_mv (v := .slice _ _ _) (q0 rfl)) rfl rfl ?_
            refine xV (e_mv (v := .int _ _) (q0 rfl)) rfl rfl ?_
            refine xV (e_idx _ Try.underlying32 Try.sizeOf27 (q0 rfl) (q0 rfl) (fun _ => ⟨rfl, by omega⟩)) rfl rfl ?_
            refine xV (eS Try.isAgg27 Try.sizeOf27 (q0 rfl)) rfl rfl ?_
            refine xC (en Try.call11 (ha1 (q0 rfl))) (fun _ w hw => checkT_w ((hrd.2 y hym).mem hw) (hys' y hym) (hyc y hym)) rfl rfl ?_
            refine xV (e_ne (q0 rfl) (q0 rfl)) rfl rfl ?_
            refine xV (e_mv (v := .bool _) (q0 rfl)) rfl rfl ?_
            refine xVF (e_mv (v := .int _ _) (q0 rfl)) rfl rfl rfl rfl ?_
            refine xVF (e_gt (q1 rfl) (q0 rfl)) rfl rfl rfl rfl ?_
            refine xVF (e_mv (v := .bool _) (q1 rfl)) rfl rfl rfl rfl ?_
            refine xVT2 (e_mv (v := .slice _ _ _) (q0 rfl)) rfl rfl rfl rfl ?_
            refine xVT2 (e_mv (v := .int _ _) (q0 rfl)) rfl rfl rfl rfl ?_
            refine xVT2 (e_sub (r := ((j : Nat) : Int)) (q1 rfl) (q0 rfl) (fun _ => ⟨hji, by omega, by omega⟩)) rfl rfl rfl rfl ?_
            refine xVT2 (e_idx j Try.underlying32 Try.sizeOf27 (q1 rfl) (q1 rfl) (fun _ => ⟨rfl, hjl⟩)) rfl rfl rfl rfl ?_
            refine xVT2 (e_fld Try.underlying27 rfl Try.sizeOf3 rfl (q1 rfl)) rfl rfl rfl rfl ?_
            refine xVT2 (e_ld (v := .int .i64 z.r.id) Try.isAgg3 (q1 rfl) (by first | exact rc (j := 0) hrz hbl rfl | exact rc0 hrz hbl rfl)) rfl rfl rfl rfl ?_
            refine xVT2 (e_mv (v := .slice _ _ _) (q0 rfl)) rfl rfl rfl rfl ?_
            refine xVT2 (e_mv (v := .int _ _) (q0 rfl)) rfl rfl rfl rfl ?_
            refine xVT2 (e_idx (j + 1) Try.underlying32 Try.sizeOf27 (q1 rfl) (q1 rfl) (fun _ => ⟨rfl, hlt2'⟩)) rfl rfl rfl rfl ?_
            refine xVT2 (e_fld Try.underlying27 rfl Try.sizeOf3 rfl (q1 rfl)) rfl rfl rfl rfl ?_
            refine xVT2 (e_ld (v := .int .i64 y.r.id) Try.isAgg3 (q1 rfl) (by first | exact rc (j := 0) hry hbl rfl | exact rc0 hry hbl rfl)) rfl rfl rfl rfl ?_
            refine xVT2 (e_ge (q1 rfl) (q1 rfl)) rfl rfl rfl rfl ?_
            refine xVF (e_and (q1 rfl) rfl (fun h => by first | rfl | (rw [h]; rfl))) rfl rfl rfl rfl ?_
            refine xV (e_or (q0 rfl) rfl (fun h => by first | rfl | (rw [h]; rfl))) rfl rfl ?_
            refine XN ?_
            refine thenJ_normal ?_
            refine H_cond rfl (fun hb => ?_) (fun hb => ?_)
            · exfalso
              simp at hb
              omega
            · refine H_skip ?_
              refine blockJ_normal ?_
              refine thenJ_normal ?_
              refine R0 ?_
              refine xV (e_mv (v := .int _ _) (q0 rfl)) rfl rfl ?_
              refine xV (e_add (q0 rfl) (q0 rfl) (fun _ => ⟨rfl, by omega, by omega⟩)) rfl rfl ?_
              refine xV (e_as (v := .int _ _) (q0 rfl)) rfl rfl ?_
              refine XN ?_
              exact loopJ_normal (j + 1 + 1) (by repeat (first | exact agree_self | exact agree_over | refine agree_upd rfl ?_ | refine agree_updL rfl ?_ | refine agree_over2 rfl ?_)) ⟨rfl, trivial⟩ (fun w hw => hw) rfl (by show j + 1 + 1 ≤ _; omega) (by show ys.length - (j + 1 + 1) < ys.length - (j + 1); omega)
        · refine H_exit ?_
          refine thenJ_exit ?_
          refine loopJ_exit ?_
          refine blockJ_hit ?_
          refine thenJ_normal ?_
          refine H_seq ?_
          refine R0 ?_
          refine xV (e_mv (v := .int _ _) (q0 rfl)) rfl rfl ?_
          refine xV (e_mv (v := .slice _ _ _) (q0 rfl)) rfl rfl ?_
          refine xV (e_len Try.underlying32 (q0 rfl)) rfl rfl ?_
          refine xV (e_eq (q0 rfl) (q0 rfl)) rfl rfl ?_
          refine xV (e_mv (v := .bool _) (q0 rfl)) rfl rfl ?_
          refine xCT (en Try.call10 (ha0)) (fun _ w _ => awake_w w) rfl rfl rfl rfl ?_
          refine xV (e_and (q0 rfl) rfl (fun h => by first | rfl | (rw [h]; rfl))) rfl rfl ?_
          refine xV (e_as (v := .bool _) (q0 rfl)) rfl rfl ?_
          refine XN ?_
          refine thenJ_normal ?_
          refine H_ret ?_
          exact ret1 (v := .bool _) rfl rfl rfl fun w' hw => ⟨ret_bool (by simp), hB.trans hw.1⟩

end Go.Proofs.Rid
