import Derived.Test.YtlihpbblpmpcfaaGreatRid2
set_option linter.unusedVariables false
set_option linter.unusedSimpArgs false
/-
  Plain facts: the reference's story of rides, held against the program's.
-/
namespace Go.Proofs.Rid
open Go.Proofs.Cus

/-- the reference's story: the rides, and for each one how many pauses have ended -/
structure RY where
  rides : List Rd
  ended : List Int
def isOn (bike : Int) (r : Rd) : Bool := r.open_ && decide (lastBike r.legs = bike)
def openI (l : List Rd) (bike : Int) : Option Nat := l.findIdx? (isOn bike)
def foundI (l : List Rd) (id : Int) : Option Nat := l.findIdx? fun r => decide (r.id = id)
def optI : Option Nat → Int
  | none => -1
  | some k => k
def beginR (s : RY) (e : Ev) (x : Sp) : RY := ⟨s.rides ++ [newR e x (spanE e)], s.ended ++ [0]⟩
def endWh (e : Ev) : Sp := if e.kind = 2 then ⟨2, e.place, 0, false⟩ else if e.kind = 1 then ⟨1, e.place, 0, false⟩ else ⟨6, 0, 0, false⟩
def pausedR (r : Rd) (n : Int) : Bool := decide (n < (r.pauses.length : Int))
def finR (r : Rd) (n : Int) (e : Ev) : Rd := finishR (endWh e) (spanE e) (if pausedR r n = true then { r with pauses := endPz (spanE e) r.pauses } else r)
def finishY (s : RY) (i : Nat) (e : Ev) : RY := ⟨s.rides.set i (finR (s.rides.getD i default) (s.ended.getD i 0) e), s.ended⟩
def changeR (s : RY) (e : Ev) : RY :=
  if e.kind = 4 then
    match foundI s.rides e.ride with
    | none => s
    | some i => ⟨s.rides.set i (swapR e.bike (spanE e) (s.rides.getD i default)), s.ended⟩
  else
    match openI s.rides e.bike with
    | none => s
    | some i =>
      if e.kind = 5 then ⟨s.rides.set i (pauseR (spanE e) (s.rides.getD i default)), s.ended⟩
      else if e.kind = 6 then ⟨s.rides.set i { s.rides.getD i default with pauses := endPz (spanE e) (s.rides.getD i default).pauses }, s.ended.set i (s.ended.getD i 0 + 1)⟩
      else if e.kind = 1 ∨ e.kind = 2 ∨ e.kind = 9 then finishY s i e
      else s
/-- one event; x is where the bicycle was -/
def stpR (s : RY) (e : Ev) (x : Sp) : RY := if e.kind = 3 then beginR s e x else changeR s e

/-! how the two stories stand to each other -/
structure SR (y : SY) (s : RY) : Prop where
  rides : s.rides = y.rides
  len : s.ended.length = y.rides.length
  nn : ∀ n ∈ s.ended, 0 ≤ n
  ended : ∀ (k : Nat) r p n, y.rides[k]? = some r → r.open_ = true → y.paused[k]? = some p → s.ended[k]? = some n → n + (if p = true then 1 else 0) = (r.pauses.length : Int)
theorem SR.begin (n : Nat) : SR (beginSY n) ⟨[], []⟩ := ⟨rfl, rfl, fun n h => by simp at h, fun k r p n h => by simp [beginSY] at h⟩

theorem findIdx_of {α : Type} {p : α → Bool} {l : List α} {k : Nat} {x : α} (h : l[k]? = some x) (hp : p x = true) (hu : ∀ j y, l[j]? = some y → p y = true → j = k) : l.findIdx? p = some k := by
  obtain ⟨h1, h2⟩ := List.getElem?_eq_some_iff.1 h
  rw [List.findIdx?_eq_some_iff_getElem]
  refine ⟨h1, by rw [h2]; exact hp, fun j hj => ?_⟩
  intro hpj
  have := hu j l[j] (List.getElem?_eq_getElem (by omega)) hpj
  omega
section
variable {n N : Nat} {s : PS} {y : SY}
/-- the open ride on a bicycle -/
theorem openI_eq (hJ : Joint n N s y) {b : Nat} {x : Sp} (hx : s.spots[b]? = some x) : (x.where_ ≠ 3 ∧ openI y.rides b = none ∧ y.riding.getD b 0 = -1) ∨ (x.where_ = 3 ∧ ∃ (k : Nat) (r : Rd), openI y.rides b = some k ∧ y.riding.getD b 0 = (k : Int) ∧ y.rides[k]? = some r ∧ r.open_ = true ∧ y.paused[k]? = some x.paused) := by
  have hI := hJ.inv
  have hu : ∀ (j : Nat) (r : Rd), y.rides[j]? = some r → isOn (b : Int) r = true → ∃ t, (r.id, t) ∈ s.open_ ∧ t.bike = (b : Int) ∧ y.riding[b]? = some (j : Int) := by
    intro j r hj ho
    unfold isOn at ho
    simp only [Bool.and_eq_true, decide_eq_true_eq] at ho
    obtain ⟨t, ht⟩ := hJ.ji.rid j r hj ho.1
    obtain ⟨k, q, a1, a2, a3, a4, a5, a6, a7⟩ := hJ.ji.open_ _ _ ht
    have := id_uniq hJ.ji.ids a1 hj a2
    subst this
    rw [hj] at a1
    cases a1
    rw [ho.2] at a4
    refine ⟨t, ht, a4.symm, ?_⟩
    rw [← a4, Int.toNat_natCast] at a7
    exact a7
  by_cases h3 : x.where_ = 3
  · right
    refine ⟨h3, ?_⟩
    obtain ⟨t, ht, htb⟩ := hI.spot b x hx h3
    obtain ⟨k, r, a1, a2, a3, a4, a5, a6, a7⟩ := hJ.ji.open_ _ _ ht
    rw [htb, Int.toNat_natCast] at a7
    obtain ⟨z, hz, _, _, hzp⟩ := hJ.ji.at_ hI ht htb
    rw [hx] at hz
    cases hz
    refine ⟨k, r, findIdx_of a1 ?_ fun j q hj hq => ?_, by rw [List.getD_eq_getElem?_getD, a7]; rfl, a1, a3, by rw [hzp]; exact a6⟩
    · unfold isOn
      rw [a3, a4, htb]; simp
    · obtain ⟨_, _, _, hr⟩ := hu j q hj hq
      rw [a7] at hr
      cases hr; rfl
  · left
    refine ⟨h3, ?_, by rw [List.getD_eq_getElem?_getD, hJ.ji.free b x hx h3]; rfl⟩
    unfold openI
    rw [List.findIdx?_eq_none_iff]
    intro r hr
    obtain ⟨j, hj⟩ := List.mem_iff_getElem?.1 hr
    cases ho : isOn (b : Int) r with
    | false => rfl
    | true =>
      obtain ⟨t, ht, htb, _⟩ := hu j r hj ho
      obtain ⟨z, hz, hz3, _⟩ := hJ.ji.at_ hI ht htb
      rw [hx] at hz
      cases hz
      exact absurd hz3 h3
theorem foundI_eq (hJ : Joint n N s y) {id : Int} {t : PT} (ht : lookP s.open_ id = some t) : ∃ (k : Nat) (r : Rd), foundI y.rides id = some k ∧ rget y.byID id = some (k : Int) ∧ y.rides[k]? = some r ∧ r.open_ = true := by
  obtain ⟨k, r, a1, a2, a3, a4, a5, a6, a7⟩ := hJ.ji.open_ _ _ (lookP_some ht)
  refine ⟨k, r, findIdx_of a1 (by simp [a2]) fun j q hj hq => ?_, by rw [← a2]; exact hJ.ji.byid k r a1, a1, a3⟩
  have hq' : q.id = id := by simpa using hq
  exact id_uniq hJ.ji.ids hj a1 (by rw [hq', a2])
/-- a ride is changed -/
theorem SR.set {r : RY} (h : SR y r) {y' : SY} {k : Nat} {q q' : Rd} (hk : y.rides[k]? = some q) (h1 : y'.rides = y.rides.set k q') (n' : Int) (hn' : 0 ≤ n') (h2 : ∀ j, j ≠ k → y'.paused[j]? = y.paused[j]?) (h3 : q'.open_ = true → ∀ p, y'.paused[k]? = some p → n' + (if p = true then 1 else 0) = (q'.pauses.length : Int)) : SR y' ⟨y.rides.set k q', r.ended.set k n'⟩ := by
  refine ⟨h1.symm, by simp [h1, h.len], fun n hn => ?_, fun j x p n hx ho hp hn => ?_⟩
  · rcases List.mem_or_eq_of_mem_set hn with hn | rfl
    · exact h.nn n hn
    · exact hn'
  · rw [h1, set_get' q' hk] at hx
    have hkl := (List.getElem?_eq_some_iff.1 hk).1
    simp only at hn
    by_cases e : k = j
    · subst e
      rw [if_pos rfl] at hx
      cases hx
      rw [List.getElem?_set, if_pos rfl, if_pos (by rw [h.len]; exact hkl)] at hn
      cases hn
      exact h3 ho p hp
    · rw [if_neg e] at hx
      rw [List.getElem?_set, if_neg e] at hn
      rw [h2 j (fun h => e h.symm)] at hp
      exact h.ended j x p n hx ho hp hn
theorem set_same {α : Type} {l : List α} {k : Nat} {x : α} (h : l[k]? = some x) : l.set k x = l := by
  obtain ⟨h1, h2⟩ := List.getElem?_eq_some_iff.1 h
  rw [← h2]; exact List.set_getElem_self h1
theorem SR.step {r : RY} (hJ : Joint n N s y) (h : SR y r) {e : Ev} {b : Nat} (hb : e.bike = b) (hbn : b < n) {x : Sp} (hx : s.spots[b]? = some x) {tr : List Int} (hc : checkP tr s e = 0) : SR (tellY y e) (stpR r e x) := by
  have hg : s.spots.getD b default = x := by rw [List.getD_eq_getElem?_getD, hx]; rfl
  have hop := openI_eq hJ hx
  unfold checkP at hc
  unfold tellY stpR changeR
  simp only [hb, Int.toNat_natCast, hg, h.rides] at hc ⊢
  by_cases h3 : e.kind = 3
  · rw [if_pos h3] at hc
    rw [if_pos h3, if_pos h3]
    rw [if_neg (by omega), if_neg (by omega)] at hc
    have hpk : parkedS x = true := by
      split at hc
      · cases hc
      · rename_i h; simpa using h
    have hys := hJ.ji.spots b x hx hpk
    unfold beginY beginR
    refine ⟨?_, by simp [h.len], fun n hn => ?_, fun k q p n hq ho hp hn => ?_⟩
    · simp only [hb, Int.toNat_natCast, h.rides]
      rw [List.getD_eq_getElem?_getD, hys]; rfl
    · rcases List.mem_append.1 hn with hn | hn
      · exact h.nn n hn
      · simp at hn; omega
    · simp only at hq hp hn
      have hpl := hJ.wf.paused
      by_cases hk : k < y.rides.length
      · rw [List.getElem?_append_left hk] at hq
        rw [List.getElem?_append_left (by omega)] at hp
        rw [List.getElem?_append_left (by rw [h.len]; omega)] at hn
        exact h.ended k q p n hq ho hp hn
      · have hk2 := (List.getElem?_eq_some_iff.1 hq).1
        simp at hk2
        have : k = y.rides.length := by omega
        subst this
        rw [List.getElem?_append_right (Nat.le_refl _), Nat.sub_self] at hq
        rw [← hpl, List.getElem?_append_right (Nat.le_refl _), Nat.sub_self] at hp
        rw [← h.len, List.getElem?_append_right (Nat.le_refl _), Nat.sub_self] at hn
        simp at hq hp hn
        subst hq; subst hp; subst hn
        rfl
  rw [if_neg h3, if_neg h3]
  by_cases h4 : e.kind = 4
  · rw [if_pos h4, if_pos h4]
    rw [if_neg (by omega), if_neg (by omega), if_neg h3, if_pos h4] at hc
    cases hl : lookP s.open_ e.ride with
    | none => rw [hl] at hc; cases hc
    | some t =>
      obtain ⟨k, q, f1, f2, f3, f4⟩ := foundI_eq hJ hl
      rw [f1]
      unfold changeY
      rw [f2]
      simp only [Int.toNat_natCast]
      have hq : y.rides.getD k default = q := by rw [List.getD_eq_getElem?_getD, f3]; rfl
      have hkl := (List.getElem?_eq_some_iff.1 f3).1
      obtain ⟨m, hm⟩ : ∃ m, r.ended[k]? = some m := ⟨_, List.getElem?_eq_getElem (by rw [h.len]; exact hkl)⟩
      have := h.set (y' := { y with rides := y.rides.set k (swapR e.bike (spanE e) q), riding := (y.riding.set (lastBike (y.rides.getD k default).legs).toNat (-1)).set b k, spots := y.spots.set (lastBike (y.rides.getD k default).legs).toNat (y.spots.getD b default) }) (q' := swapR e.bike (spanE e) q) f3 rfl m (h.nn m (List.mem_of_getElem? hm)) (fun _ _ => rfl) (fun ho p hp => h.ended k q p m f3 f4 hp hm)
      rw [set_same hm] at this
      rw [hb, hq] at this ⊢
      exact this
  rw [if_neg h4, if_neg h4]
  rcases hop with ⟨o1, o2, o3⟩ | ⟨o1, k, q, o2, o3, o4, o5, o6⟩
  · rw [o2, o3]
    have hsame : ∀ y' : SY, y'.rides = y.rides → y'.paused = y.paused → SR y' r := fun y' e1 e2 => ⟨by rw [e1]; exact h.rides, by rw [e1]; exact h.len, h.nn, by rw [e1, e2]; exact h.ended⟩
    have hlv : ∀ to, SR (leaveY y b to (spanE e)) r := fun to => by
      unfold leaveY
      rw [o3, if_pos (by decide)]
      exact hsame _ rfl rfl
    simp only
    rw [if_neg (by decide : ¬ (0 : Int) ≤ -1), if_neg (by decide : ¬ (0 : Int) ≤ -1)]
    repeat' split
    all_goals first | exact h | exact hlv _
  · rw [o2, o3]
    have hq : y.rides.getD k default = q := by rw [List.getD_eq_getElem?_getD, o4]; rfl
    have hkl := (List.getElem?_eq_some_iff.1 o4).1
    obtain ⟨m, hm⟩ : ∃ m, r.ended[k]? = some m := ⟨_, List.getElem?_eq_getElem (by rw [h.len]; exact hkl)⟩
    have hmd : r.ended.getD k 0 = m := by rw [List.getD_eq_getElem?_getD, hm]; rfl
    have hm0 := h.nn m (List.mem_of_getElem? hm)
    have hme := h.ended k q x.paused m o4 o5 o6 hm
    have hpd : y.paused.getD k false = x.paused := by rw [List.getD_eq_getElem?_getD, o6]; rfl
    have hpk := (List.getElem?_eq_some_iff.1 o6).1
    have hset : ∀ (v : Bool), ∀ p, (y.paused.set k v)[k]? = some p → p = v := fun v p hp => by
      rw [List.getElem?_set, if_pos rfl, if_pos hpk] at hp
      cases hp; rfl
    simp only [Int.toNat_natCast, hq, hmd]
    rw [if_pos (by omega : (0 : Int) ≤ (k : Int)), if_pos (by omega : (0 : Int) ≤ (k : Int))]
    by_cases h5 : e.kind = 5
    · rw [if_pos h5, if_pos h5]
      rw [if_neg (by omega), if_neg (by omega), if_neg h3, if_neg h4, if_pos (Or.inl h5), if_neg (by simpa using o1)] at hc
      have hxp : x.paused = false := by
        simp [refuse, h5] at hc
        exact hc
      rw [hxp] at hme
      have := h.set (y' := { y with rides := y.rides.set k (pauseR (spanE e) q), paused := y.paused.set k true }) (q' := pauseR (spanE e) q) o4 rfl m hm0 (fun j hj => by simp only; rw [List.getElem?_set_ne (fun h => hj h.symm)]) (fun ho p hp => by
        rw [hset true p hp]
        simp [pauseR] at hme ⊢
        omega)
      rw [set_same hm] at this
      exact this
    rw [if_neg h5, if_neg h5]
    by_cases h6 : e.kind = 6
    · rw [if_pos h6, if_pos h6]
      rw [if_neg (by omega), if_neg (by omega), if_neg h3, if_neg h4, if_pos (Or.inr h6), if_neg (by simpa using o1)] at hc
      have hxp : x.paused = true := by
        simp [refuse, h6] at hc
        exact hc
      rw [hxp] at hme
      simp at hme
      unfold resumeY
      rw [hpd, hxp, hq]
      have hres : resumeR true (spanE e) q = { q with pauses := endPz (spanE e) q.pauses } := by
        unfold resumeR; rw [if_pos ⟨rfl, by omega⟩]
      rw [hres]
      exact h.set (y' := { y with rides := y.rides.set k { q with pauses := endPz (spanE e) q.pauses }, paused := y.paused.set k false }) (q' := { q with pauses := endPz (spanE e) q.pauses }) o4 rfl (m + 1) (by omega) (fun j hj => by simp only; rw [List.getElem?_set_ne (fun h => hj h.symm)]) (fun ho p hp => by
        rw [hset false p hp]
        simp [endPz_len]
        omega)
    rw [if_neg h6, if_neg h6]
    have hlv : ∀ to, to = endWh e → SR (leaveY y b to (spanE e)) (finishY r k e) := fun to hto => by
      have hfin : finR q m e = finishR to (spanE e) (resumeR x.paused (spanE e) q) := by
        unfold finR resumeR pausedR
        rw [hto]
        cases hp : x.paused with
        | true =>
          rw [hp] at hme
          simp at hme
          rw [if_pos (by simp; omega), if_pos ⟨rfl, by omega⟩]
        | false =>
          rw [hp] at hme
          simp at hme
          rw [if_neg (by simp; omega), if_neg (by simp)]
      unfold finishY
      simp only [h.rides]
      rw [hq, hmd, hfin]
      have := h.set (y' := leaveY y b to (spanE e)) (q' := finishR to (spanE e) (resumeR x.paused (spanE e) q)) o4 (by
        unfold leaveY
        rw [o3, if_neg (by omega)]
        unfold resumeY
        simp only [Int.toNat_natCast]
        rw [hpd, hq, List.set_set]
        congr 1
        rw [List.getD_eq_getElem?_getD, List.getElem?_set, if_pos rfl, if_pos hkl]; rfl) m hm0 (fun j hj => by
        unfold leaveY
        rw [o3, if_neg (by omega)]
        unfold resumeY
        simp only [Int.toNat_natCast]
        rw [List.getElem?_set_ne (fun h => hj h.symm)]) (fun ho => by cases ho)
      rw [set_same hm] at this
      exact this
    by_cases h1 : e.kind = 1
    · rw [if_pos h1, if_pos (Or.inl h1)]
      exact hlv _ (by unfold endWh; rw [if_neg (by omega), if_pos h1])
    rw [if_neg h1]
    by_cases h2 : e.kind = 2
    · rw [if_pos h2, if_pos (Or.inr (Or.inl h2))]
      exact hlv _ (by unfold endWh; rw [if_pos h2])
    rw [if_neg h2]
    by_cases h9 : e.kind = 9
    · rw [if_pos h9, if_pos (Or.inr (Or.inr h9))]
      exact hlv _ (by unfold endWh; rw [if_neg h2, if_neg h1])
    rw [if_neg h9, if_neg (by omega)]
    exact h
end
end Go.Proofs.Rid

/-
  Plain facts: the reference's rides of all accepted events are the program's.
-/
namespace Go.Proofs.Rid
open Go.Proofs.Cus

/-! the state that accepted events lead to -/
theorem accR_full {f : Fl} : ∀ (l : List Ev) (s : PS) (za : List Ev), ∃ t, runR f accCb l (s, za) = (t.foldl doP s, za ++ t) ∧ t.Sublist l
  | [], s, za => ⟨[], by simp [runR], List.Sublist.refl _⟩
  | e :: l, s, za => by
    show ∃ t, runR f accCb l (tellR accCb za e (stepR f s e)) = (t.foldl doP s, za ++ t) ∧ _
    by_cases h0 : errR f s e = 0
    · by_cases hk : e.kind = 10
      · rw [step_beat h0 hk]
        obtain ⟨t, h1, h3⟩ := accR_full l s za
        exact ⟨t, h1, h3.cons _⟩
      · obtain ⟨h1, h2, h3⟩ := step_do h0 hk
        rw [h1]
        obtain ⟨t, a1, a3⟩ := accR_full l (doP s e) (za ++ [e])
        refine ⟨e :: t, ?_, a3.cons_cons _⟩
        show runR f accCb l (doP s e, accCb za (doP s e) e 0) = _
        rw [show accCb za (doP s e) e 0 = za ++ [e] from rfl, a1]
        simp
    · rw [step_err h0]
      show ∃ t, runR f accCb l (s, accCb za s e (errR f s e)) = _ ∧ _
      rw [show accCb za s e (errR f s e) = za by unfold accCb; rw [if_neg h0]]
      obtain ⟨t, h1, h3⟩ := accR_full l s za
      exact ⟨t, h1, h3.cons _⟩
theorem acc_sublist (f : Fl) (xs : List Ev) : (accOf f xs).Sublist (setOf xs) := by
  unfold accOf
  split
  · obtain ⟨t, h1, h2⟩ := accR_full (f := f) (setOf xs) (beginP (nbOf f)) []
    rw [h1]; simpa using h2
  · exact List.nil_sublist _
theorem nobR_replayed {f : Fl} : ∀ (l : List Ev) (s : PS), Replay f s l → (runR f nobCb l (s, ())).1 = l.foldl doP s
  | [], _, _ => rfl
  | e :: l, s, ⟨h1, h2, h3, h4⟩ => by
    show (runR f nobCb l (tellR nobCb () e (stepR f s e))).1 = _
    have he : errR f s e = 0 := by unfold errR; rw [if_neg (fun h => h h1), if_neg h2, h3]
    rw [(step_do he h2).1]
    exact nobR_replayed l (doP s e) h4
theorem setOf_sub {xs l : List Ev} (h : l.Sublist (setOf xs)) : setOf l = l := by
  have hI := set_isSet xs
  refine (set_isSet l).unique ⟨hI.sorted.sublist h, fun e => ⟨fun he => ⟨he, fun e' he' hs => ?_⟩, fun he => he.1⟩⟩
  exact ((hI.mem e).1 (h.subset he)).2 e' ((hI.mem e').1 (h.subset he')).1 hs
theorem spots_take {f : Fl} (hok : flErr f = 0) (xs : List Ev) (k : Nat) : spotsOf f ((accOf f xs).take k) = (Cus.stK (beginP (nbOf f)) (accOf f xs) k).spots := by
  obtain ⟨hr, _⟩ := replay_of hok xs (fun _ => ())
  unfold spotsOf
  rw [if_pos hok, setOf_sub ((List.take_sublist k _).trans (acc_sublist f xs)), nobR_replayed _ _ (Replay.take hr k)]
  rfl

/-! the reference's story -/
def rStory (f : Fl) (acc : List Ev) : Nat → RY
  | 0 => ⟨[], []⟩
  | k + 1 => match acc[k]? with
    | none => rStory f acc k
    | some e => stpR (rStory f acc k) e ((spotsOf f (acc.take k)).getD e.bike.toNat default)
theorem rStory_succ {f : Fl} {acc : List Ev} {k : Nat} {e : Ev} (h : acc[k]? = some e) : rStory f acc (k + 1) = stpR (rStory f acc k) e ((spotsOf f (acc.take k)).getD e.bike.toNat default) := by
  show (match acc[k]? with | none => _ | some e => _) = _
  rw [h]
theorem SR.run {f : Fl} (hok : flErr f = 0) (xs : List Ev) : ∀ k, k ≤ (accOf f xs).length → SR (((accOf f xs).take k).foldl tellY (beginSY (nbOf f))) (rStory f (accOf f xs) k)
  | 0, _ => SR.begin _
  | k + 1, hk => by
    have ih := SR.run hok xs k (by omega)
    obtain ⟨e, he⟩ : ∃ e, (accOf f xs)[k]? = some e := ⟨_, List.getElem?_eq_getElem (by omega)⟩
    obtain ⟨hr, _⟩ := replay_of hok xs (fun _ => ())
    obtain ⟨h1, h2, h3, -, -⟩ := hr.at_ (g := fun _ => ()) he
    have hb := (evErr_ok h1).2.1
    rw [nb_eq hok] at hb
    have hJ := joint_at hok xs k
    obtain ⟨x, hx⟩ : ∃ x, (Cus.stK (beginP (nbOf f)) (accOf f xs) k).spots[e.bike.toNat]? = some x := ⟨_, List.getElem?_eq_getElem (by rw [hJ.inv.len]; omega)⟩
    have hs := SR.step hJ ih (e := e) (b := e.bike.toNat) (by omega) (by omega) hx h3
    rw [rStory_succ he, spots_take hok, List.getD_eq_getElem?_getD, hx, take_snoc _ _ _ he, List.foldl_append]
    exact hs

/-! the order -/
def insR (out : List Rd) (r : Rd) : List Rd := out.takeWhile (fun x => decide (x.id < r.id)) ++ r :: out.dropWhile (fun x => decide (x.id < r.id))
def sortedR (l : List Rd) : List Rd := l.foldl insR []
theorem insR_perm (out : List Rd) (r : Rd) : (insR out r).Perm (out ++ [r]) := by
  unfold insR
  refine List.perm_middle.trans ?_
  rw [List.takeWhile_append_dropWhile]
  exact (List.perm_append_singleton r out).symm
theorem insR_sorted {out : List Rd} (r : Rd) (h : out.Pairwise fun x y => x.id ≤ y.id) : (insR out r).Pairwise fun x y => x.id ≤ y.id := by
  unfold insR
  have h1 := h
  rw [← List.takeWhile_append_dropWhile (p := fun x : Rd => decide (x.id < r.id)) (l := out), List.pairwise_append] at h1
  obtain ⟨a1, a2, a3⟩ := h1
  have hlt : ∀ x ∈ out.takeWhile (fun x => decide (x.id < r.id)), x.id < r.id := fun x hx => by
    have := List.all_takeWhile (p := fun x : Rd => decide (x.id < r.id)) (l := out)
    rw [List.all_eq_true] at this
    simpa using this x hx
  have hge : ∀ y ∈ out.dropWhile (fun x => decide (x.id < r.id)), r.id ≤ y.id := by
    cases hd : out.dropWhile (fun x => decide (x.id < r.id)) with
    | nil => intro y hy; cases hy
    | cons z t =>
      have hz : r.id ≤ z.id := by
        have := List.head?_dropWhile_not (fun x : Rd => decide (x.id < r.id)) out
        rw [hd] at this
        simpa using this
      rw [hd] at a2
      intro y hy
      rcases List.mem_cons.1 hy with rfl | hy
      · exact hz
      · have := (List.pairwise_cons.1 a2).1 y hy
        omega
  rw [List.pairwise_append]
  refine ⟨a1, List.pairwise_cons.2 ⟨hge, a2⟩, fun x hx y hy => ?_⟩
  have := hlt x hx
  rcases List.mem_cons.1 hy with rfl | hy
  · omega
  · have := hge y hy; omega
theorem sortedR_fold : ∀ (l out : List Rd), out.Pairwise (fun x y => x.id ≤ y.id) → (l.foldl insR out).Perm (out ++ l) ∧ (l.foldl insR out).Pairwise fun x y => x.id ≤ y.id
  | [], out, h => ⟨by simp, h⟩
  | r :: l, out, h => by
    obtain ⟨h1, h2⟩ := sortedR_fold l (insR out r) (insR_sorted r h)
    refine ⟨h1.trans ?_, h2⟩
    have := (insR_perm out r).append_right l
    simpa using this
theorem sortedR_eq {l : List Rd} (hn : (l.map (·.id)).Nodup) : sortedR l = byId l := by
  obtain ⟨h1, h2⟩ := sortedR_fold l [] List.Pairwise.nil
  exact byId_unique (by unfold sortedR; simpa using h1) h2 hn
/-- the reference's rides are the program's -/
theorem refAll_eq {f : Fl} (hok : flErr f = 0) (xs : List Ev) : sortedR (rStory f (accOf f xs) (accOf f xs).length).rides = allOf f xs := by
  have h := SR.run hok xs (accOf f xs).length (Nat.le_refl _)
  have hJ := joint_of hok xs
  rw [List.take_length] at h
  unfold allOf
  rw [if_pos hok, h.rides]
  exact sortedR_eq hJ.ji.ids

end Go.Proofs.Rid

/-
  Plain facts: what keeps the reference's story from panicking.
-/
namespace Go.Proofs.Rid
open Go.Proofs.Cus

theorem stpR_le {s : RY} {e : Ev} {x : Sp} {K : Int} (h : ∀ n ∈ s.ended, n ≤ K) (hK : 0 ≤ K) : ∀ n ∈ (stpR s e x).ended, n ≤ K + 1 := by
  have h' : ∀ n ∈ s.ended, n ≤ K + 1 := fun n hn => by have := h n hn; omega
  unfold stpR
  split
  · intro n hn
    unfold beginR at hn
    rcases List.mem_append.1 hn with hn | hn
    · exact h' n hn
    · simp at hn; omega
  · unfold changeR
    split
    · split <;> exact h'
    · split
      · exact h'
      · rename_i i hi
        split
        · exact h'
        · split
          · intro n hn
            rcases List.mem_or_eq_of_mem_set hn with hn | rfl
            · exact h' n hn
            · rw [List.getD_eq_getElem?_getD]
              cases hg : s.ended[i]? with
              | none => simp; omega
              | some m =>
                have := h m (List.mem_of_getElem? hg)
                simp; omega
          · split <;> exact h'
theorem rStory_le (f : Fl) (acc : List Ev) : ∀ k, ∀ n ∈ (rStory f acc k).ended, n ≤ (k : Int)
  | 0, n, hn => by simp [rStory] at hn
  | k + 1, n, hn => by
    have ih := rStory_le f acc k
    cases he : acc[k]? with
    | none =>
      have : rStory f acc (k + 1) = rStory f acc k := by
        show (match acc[k]? with | none => _ | some e => _) = _
        rw [he]
      rw [this] at hn
      have := ih n hn
      omega
    | some e =>
      rw [rStory_succ he] at hn
      have := stpR_le ih (by omega) n hn
      omega
theorem change_ok {f : Fl} (hok : flErr f = 0) (xs : List Ev) {i : Nat} {e : Ev} (he : (accOf f xs)[i]? = some e) : (e.kind = 4 → ∃ k, foundI (rStory f (accOf f xs) i).rides e.ride = some k) ∧ (e.kind = 6 → ∀ (k : Nat) r, (rStory f (accOf f xs) i).rides[k]? = some r → openI (rStory f (accOf f xs) i).rides e.bike = some k → 0 < r.pauses.length) ∧ 0 ≤ e.bike ∧ e.bike < nbOf f := by
  obtain ⟨hr, _⟩ := replay_of hok xs (fun _ => ())
  obtain ⟨h1, h2, h3, -, -⟩ := hr.at_ (g := fun _ => ()) he
  have hb := (evErr_ok h1).2.1
  rw [nb_eq hok] at hb
  have hJ := joint_at hok xs i
  have hS := SR.run hok xs i (by have := (List.getElem?_eq_some_iff.1 he).1; omega)
  obtain ⟨x, hx⟩ : ∃ x, (Cus.stK (beginP (nbOf f)) (accOf f xs) i).spots[e.bike.toNat]? = some x := ⟨_, List.getElem?_eq_getElem (by rw [hJ.inv.len]; omega)⟩
  have hg : (Cus.stK (beginP (nbOf f)) (accOf f xs) i).spots.getD e.bike.toNat default = x := by rw [List.getD_eq_getElem?_getD, hx]; rfl
  rw [hS.rides]
  refine ⟨fun h4 => ?_, fun h6 k r hk ho => ?_, hb⟩
  · unfold checkP at h3
    simp only [hg] at h3
    rw [if_neg (by omega), if_neg (by omega), if_neg (by omega), if_pos h4] at h3
    cases hl : lookP (Cus.stK (beginP (nbOf f)) (accOf f xs) i).open_ e.ride with
    | none => rw [hl] at h3; cases h3
    | some t =>
      obtain ⟨k, q, f1, _⟩ := foundI_eq hJ hl
      exact ⟨k, f1⟩
  · have hbb : ((e.bike.toNat : Nat) : Int) = e.bike := by omega
    unfold checkP at h3
    simp only [hg] at h3
    rw [if_neg (by omega), if_neg (by omega), if_neg (by omega), if_neg (by omega), if_pos (Or.inr h6)] at h3
    rcases openI_eq hJ hx with ⟨_, o2, _⟩ | ⟨o1, k', q, o2, _, o4, o5, o6⟩
    · rw [hbb, ho] at o2; cases o2
    · rw [hbb, ho] at o2
      cases o2
      rw [hk] at o4
      cases o4
      rw [if_neg (by simpa using o1)] at h3
      have hxp : x.paused = true := by
        simp [refuse, h6] at h3
        exact h3
      obtain ⟨m, hm⟩ : ∃ m, (rStory f (accOf f xs) i).ended[k]? = some m := ⟨_, List.getElem?_eq_getElem (by rw [hS.len]; exact (List.getElem?_eq_some_iff.1 hk).1)⟩
      have := hS.ended k r x.paused m hk o5 o6 hm
      rw [hxp] at this
      have h0 := hS.nn m (List.mem_of_getElem? hm)
      simp at this
      omega

end Go.Proofs.Rid
