import Derived.Test.YtlihpbblpmpcfaaRid1
import Derived.Test.YtlihpbblpmpcfaaCusS
import Derived.Test.YtlihpbblpmpcfaaEng2
set_option linter.unusedVariables false
set_option linter.unusedSimpArgs false
/-
  Plain facts: what the story knows, held against where the bicycles are.
-/
namespace Go.Proofs.Rid
open Go.Proofs.Cus

structure JI (n : Nat) (s : PS) (y : SY) : Prop where
  ids : (y.rides.map (·.id)).Nodup
  used : ∀ r ∈ y.rides, usedP s.used r.id = true
  byid : ∀ (k : Nat) r, y.rides[k]? = some r → rget y.byID r.id = some (k : Int)
  open_ : ∀ id t, (id, t) ∈ s.open_ → ∃ (k : Nat) (r : Rd), y.rides[k]? = some r ∧ r.id = id ∧ r.open_ = true ∧ lastBike r.legs = t.bike ∧ r.rider = t.rider ∧ y.paused[k]? = some t.paused ∧ y.riding[t.bike.toNat]? = some (k : Int)
  rid : ∀ (k : Nat) r, y.rides[k]? = some r → r.open_ = true → ∃ t, (r.id, t) ∈ s.open_
  free : ∀ (b : Nat) x, s.spots[b]? = some x → x.where_ ≠ 3 → y.riding[b]? = some (-1)
  spots : ∀ (b : Nat) x, s.spots[b]? = some x → parkedS x = true → y.spots[b]? = some x
theorem JI.begin (n : Nat) : JI n (beginP n) (beginSY n) := by
  refine ⟨by simp [beginSY], fun r hr => by simp [beginSY] at hr, fun k r h => by simp [beginSY] at h, fun id t h => by simp [beginP] at h, fun k r h => by simp [beginSY] at h, fun b x h h3 => ?_, fun b x h hp => ?_⟩
  · simp only [beginP, List.getElem?_replicate] at h
    simp only [beginSY, List.getElem?_replicate]
    split at h
    · rename_i hb; rw [if_pos hb]
    · cases h
  · simp only [beginP, List.getElem?_replicate] at h
    split at h
    · cases h; simp [parkedS] at hp
    · cases h
theorem id_uniq {l : List Rd} (h : (l.map (·.id)).Nodup) {j k : Nat} {r q : Rd} (hj : l[j]? = some r) (hk : l[k]? = some q) (e : r.id = q.id) : j = k := by
  obtain ⟨h1, e1⟩ := List.getElem?_eq_some_iff.1 hj
  obtain ⟨h2, e2⟩ := List.getElem?_eq_some_iff.1 hk
  have hp := List.pairwise_iff_getElem.1 h
  rcases Nat.lt_trichotomy j k with h3 | h3 | h3
  · exact absurd (by rw [List.getElem_map, List.getElem_map, e1, e2]; exact e) (hp j k (by simpa using h1) (by simpa using h2) h3)
  · exact h3
  · exact absurd (by rw [List.getElem_map, List.getElem_map, e1, e2]; exact e.symm) (hp k j (by simpa using h2) (by simpa using h1) h3)
theorem set_get' {α : Type} {l : List α} {k : Nat} {x : α} (y : α) (hx : l[k]? = some x) (j : Nat) : (l.set k y)[j]? = if k = j then some y else l[j]? := by
  have := (List.getElem?_eq_some_iff.1 hx).1
  rw [List.getElem?_set]
  by_cases e : k = j
  · rw [if_pos e, if_pos e, if_pos (by omega)]
  · rw [if_neg e, if_neg e]
theorem ids_set {l : List Rd} {k : Nat} {r q : Rd} (hk : l[k]? = some r) (e : q.id = r.id) : (l.set k q).map (·.id) = l.map (·.id) := by
  rw [List.map_set, e]
  obtain ⟨h1, h2⟩ := List.getElem?_eq_some_iff.1 hk
  apply List.ext_getElem?
  intro i
  rw [List.getElem?_set]
  split
  · rename_i hi
    subst hi
    simp [h1, h2]
  · rfl
theorem endLeg_last (w : Spn) (l : List Lg) : lastBike (endLeg w l) = lastBike l := by
  unfold lastBike endLeg
  by_cases h : 0 < l.length
  · simp only [List.length_set]
    rw [List.getD_eq_getElem?_getD, List.getElem?_set, if_pos rfl, if_pos (by omega)]
    rfl
  · have : l = [] := List.eq_nil_of_length_eq_zero (by omega)
    subst this; rfl
theorem lastBike_snoc (l : List Lg) (g : Lg) : lastBike (l ++ [g]) = g.bike := by
  unfold lastBike
  simp
section
variable {n N : Nat} {s : PS} {y : SY}
/-- where the bicycle of an open ride is -/
theorem JI.at_ (h : JI n s y) (hI : PInv n s) {id : Int} {t : PT} (ht : (id, t) ∈ s.open_) {b : Nat} (hb : t.bike = b) : ∃ x, s.spots[b]? = some x ∧ x.where_ = 3 ∧ x.ride = id ∧ x.paused = t.paused := by
  obtain ⟨_, x, hx, h3, hr, hp⟩ := hI.bike _ ht
  simp only [hb, Int.toNat_natCast] at hx
  exact ⟨x, hx, h3, hr, hp⟩
/-- a ride is changed, but for its number, its rider and what is open -/
theorem JI.setRide (h : JI n s y) {k : Nat} {r q : Rd} (hk : y.rides[k]? = some r) (h1 : q.id = r.id) (h2 : q.rider = r.rider) (h3 : q.open_ = r.open_) (h4 : lastBike q.legs = lastBike r.legs) : JI n s { y with rides := y.rides.set k q } := by
  have hg := set_get' q hk
  refine ⟨by simp only [ids_set hk h1]; exact h.ids, fun x hx => ?_, fun j x hx => ?_, fun id t ht => ?_, fun j x hx ho => ?_, h.free, h.spots⟩
  · rcases List.mem_or_eq_of_mem_set hx with hx | rfl
    · exact h.used x hx
    · rw [h1]; exact h.used r (List.mem_of_getElem? hk)
  · simp only [hg] at hx
    split at hx
    · rename_i e; cases hx; rw [h1, ← e]; exact h.byid k r hk
    · exact h.byid j x hx
  · obtain ⟨j, x, a1, a2, a3, a4, a5, a6, a7⟩ := h.open_ id t ht
    by_cases e : k = j
    · subst e
      rw [hk] at a1; cases a1
      exact ⟨k, q, by simp only [hg, if_pos], by rw [h1, a2], by rw [h3, a3], by rw [h4, a4], by rw [h2, a5], a6, a7⟩
    · exact ⟨j, x, by simp only [hg, if_neg e]; exact a1, a2, a3, a4, a5, a6, a7⟩
  · simp only [hg] at hx
    split at hx
    · cases hx; rw [h1]; exact h.rid k r hk (by rw [← h3]; exact ho)
    · exact h.rid j x hx ho
/-- a bicycle that is in no ride is put somewhere -/
theorem JI.move (h : JI n s y) (hI : PInv n s) {b : Nat} {x : Sp} (hx : s.spots[b]? = some x) (hx3 : x.where_ ≠ 3) (to : Sp) (hto : to.where_ ≠ 3) (ys : List Sp) (hys : ∀ j, j ≠ b → ys[j]? = y.spots[j]?) (hyb : parkedS to = true → ys[b]? = some to) : JI n (leaveP s b to) { y with spots := ys } := by
  have hopen : (leaveP s b to).open_ = s.open_ := by
    unfold leaveP
    simp only
    rw [List.getD_eq_getElem?_getD, hx]
    simp [hx3]
  refine ⟨h.ids, h.used, h.byid, fun id t ht => ?_, fun k r hr ho => ?_, fun j z hz hz3 => ?_, fun j z hz hp => ?_⟩
  · rw [hopen] at ht; exact h.open_ id t ht
  · rw [hopen]; exact h.rid k r hr ho
  · have hz' : (s.spots.set b to)[j]? = some z := hz
    rw [set_get' to hx] at hz'
    split at hz'
    · rename_i e; subst e; exact h.free b x hx hx3
    · exact h.free j z hz' hz3
  · have hz' : (s.spots.set b to)[j]? = some z := hz
    rw [set_get' to hx] at hz'
    split at hz'
    · rename_i e; cases hz'; rw [← e]; exact hyb hp
    · rename_i e
      show ys[j]? = some z
      rw [hys j (fun h => e h.symm)]; exact h.spots j z hz' hp
/-- a bicycle leaves its ride, which ends -/
theorem JI.close (h : JI n s y) (hI : PInv n s) (hW : WF n N y) {b : Nat} {x : Sp} (hx : s.spots[b]? = some x) (hx3 : x.where_ = 3) (to : Sp) (hto : to.where_ ≠ 3) (w : Spn) : JI n (leaveP s b to) (leaveY y b to w) := by
  obtain ⟨t, ht, htb⟩ := hI.spot b x hx hx3
  obtain ⟨k, r, a1, a2, a3, a4, a5, a6, a7⟩ := h.open_ _ _ ht
  rw [htb, Int.toNat_natCast] at a7
  have hvg : y.riding.getD b 0 = (k : Int) := by rw [List.getD_eq_getElem?_getD, a7]; rfl
  have hkl := (List.getElem?_eq_some_iff.1 a1).1
  have hbl := (List.getElem?_eq_some_iff.1 a7).1
  have hrg : y.rides.getD k default = r := by rw [List.getD_eq_getElem?_getD, a1]; rfl
  obtain ⟨p, hp⟩ : ∃ p, y.paused[k]? = some p := ⟨_, a6⟩
  have hpg : y.paused.getD k false = p := by rw [List.getD_eq_getElem?_getD, hp]; rfl
  obtain ⟨q, hq⟩ : ∃ q, q = finishR to w (resumeR p w r) := ⟨_, rfl⟩
  have hleave : leaveY y b to w = { rides := y.rides.set k q, byID := y.byID, riding := y.riding.set b (-1), paused := y.paused.set k false, spots := y.spots.set b to } := by
    unfold leaveY
    rw [hvg, if_neg (by omega)]
    simp only [Int.toNat_natCast]
    unfold resumeY
    simp only
    rw [hrg, hpg, List.set_set]
    congr 1
    rw [List.getD_eq_getElem?_getD, List.getElem?_set, if_pos rfl, if_pos hkl, hq]
    rfl
  have hqi : q.id = r.id := by rw [hq]; unfold finishR resumeR; split <;> rfl
  have hqo : q.open_ = false := by rw [hq]; rfl
  have hopen : ∀ z, z ∈ (leaveP s b to).open_ ↔ z ∈ s.open_ ∧ z.1 ≠ x.ride := by
    intro z
    unfold leaveP
    simp only
    rw [List.getD_eq_getElem?_getD, hx]
    simp only [Option.getD_some, hx3, if_true]
    exact mem_eraseKey hI.keys
  rw [hleave]
  have hg := set_get' q a1
  refine ⟨by simp only [ids_set a1 hqi]; exact h.ids, fun z hz => ?_, fun j z hz => ?_, fun id u hu => ?_, fun j z hz ho => ?_, fun j z hz hz3 => ?_, fun j z hz hp => ?_⟩
  · rcases List.mem_or_eq_of_mem_set hz with hz | rfl
    · exact h.used z hz
    · rw [hqi]; exact h.used r (List.mem_of_getElem? a1)
  · simp only [hg] at hz
    split at hz
    · rename_i e; cases hz; rw [hqi, ← e]; exact h.byid k r a1
    · exact h.byid j z hz
  · obtain ⟨hu1, hu2⟩ := (hopen (id, u)).1 hu
    obtain ⟨j, z, c1, c2, c3, c4, c5, c6, c7⟩ := h.open_ id u hu1
    have hjk : k ≠ j := fun e => by
      subst e
      rw [a1] at c1; cases c1
      exact hu2 (by rw [← c2, a2])
    obtain ⟨hub0, z2, hz2, z23, z2r, _⟩ := hI.bike _ hu1
    have hjb : b ≠ u.bike.toNat := fun e => by
      simp only at hz2
      rw [← e, hx] at hz2; cases hz2
      exact hu2 z2r.symm
    exact ⟨j, z, by simp only [hg, if_neg hjk]; exact c1, c2, c3, c4, c5, by simp only [List.getElem?_set_ne hjk]; exact c6, by simp only [List.getElem?_set_ne hjb]; exact c7⟩
  · simp only [hg] at hz
    split at hz
    · cases hz; rw [hqo] at ho; cases ho
    · rename_i e
      obtain ⟨u, hu⟩ := h.rid j z hz ho
      refine ⟨u, (hopen _).2 ⟨hu, fun e2 => e ?_⟩⟩
      exact id_uniq h.ids a1 hz (by rw [a2]; exact e2.symm)
  · have hz' : (s.spots.set b to)[j]? = some z := hz
    rw [set_get' to hx] at hz'
    simp only [set_get' (-1) a7]
    split at hz'
    · rename_i e; rw [if_pos e]
    · rename_i e; rw [if_neg e]; exact h.free j z hz' hz3
  · have hz' : (s.spots.set b to)[j]? = some z := hz
    have hbs : b < y.spots.length := by rw [hW.spots, ← hW.riding]; exact hbl
    rw [set_get' to hx] at hz'
    simp only [List.getElem?_set]
    split at hz'
    · rename_i e; cases hz'; rw [if_pos e, if_pos hbs]
    · rename_i e; rw [if_neg e]; exact h.spots j z hz' hp
theorem leaveY_free {b : Nat} (h : y.riding[b]? = some (-1)) (to : Sp) (w : Spn) : leaveY y b to w = { y with spots := y.spots.set b to } := by
  unfold leaveY
  rw [List.getD_eq_getElem?_getD, h, if_pos (by decide)]
theorem JI.leave (h : JI n s y) (hI : PInv n s) (hW : WF n N y) {b : Nat} (hb : b < n) (to : Sp) (hto : to.where_ ≠ 3) (w : Spn) : JI n (leaveP s b to) (leaveY y b to w) := by
  obtain ⟨x, hx⟩ : ∃ x, s.spots[b]? = some x := ⟨_, List.getElem?_eq_getElem (by rw [hI.len]; exact hb)⟩
  by_cases hx3 : x.where_ = 3
  · exact h.close hI hW hx hx3 to hto w
  · rw [leaveY_free (h.free b x hx hx3)]
    exact h.move hI hx hx3 to hto _ (fun j hj => List.getElem?_set_ne (fun e => hj e.symm)) (fun _ => by
      rw [List.getElem?_set, if_pos rfl, if_pos (by rw [hW.spots]; exact hb)])
theorem JI.start (h : JI n s y) (hI : PInv n s) (hW : WF n N y) {e : Ev} {tr : List Int} (hb : 0 ≤ e.bike ∧ e.bike < n) (h3 : e.kind = 3) (hc : checkP tr s e = 0) (w : Spn) : JI n (doP s e) (beginY y e w) := by
  obtain ⟨b, hbk⟩ : ∃ b : Nat, e.bike = b := ⟨e.bike.toNat, by omega⟩
  have hbn : b < n := by omega
  obtain ⟨x, hx⟩ : ∃ x, s.spots[b]? = some x := ⟨_, List.getElem?_eq_getElem (by rw [hI.len]; exact hbn)⟩
  have hg : s.spots.getD e.bike.toNat default = x := by rw [hbk, Int.toNat_natCast, List.getD_eq_getElem?_getD, hx]; rfl
  obtain ⟨hpk, hu⟩ : parkedS x = true ∧ usedP s.used e.ride = false := by
    unfold checkP at hc
    simp only at hc
    rw [if_neg (by omega), if_neg (by omega), if_pos h3, hg] at hc
    split at hc
    · cases hc
    · rename_i h1
      split at hc
      · cases hc
      · rename_i h2
        exact ⟨by simpa using h1, by simpa using h2⟩
  have hx3 := parked_no3 hpk
  have hf := h.free b x hx hx3
  have hdo : doP s e = { spots := s.spots.set b ⟨3, 0, e.ride, false⟩, open_ := s.open_ ++ [(e.ride, ⟨e.rider, e.bike, false⟩)], used := usePut s.used e.ride } := by
    unfold doP
    simp only
    rw [if_neg (by omega), if_neg (by omega), if_pos h3, hbk, Int.toNat_natCast]
  have hnew : ∀ r ∈ y.rides, r.id ≠ e.ride := fun r hr he => by rw [← he, h.used r hr] at hu; cases hu
  have hbl := (List.getElem?_eq_some_iff.1 hf).1
  rw [hdo]
  unfold beginY
  rw [hbk, Int.toNat_natCast]
  have hsnoc : ∀ (j : Nat) z, (y.rides ++ [newR e (y.spots.getD b default) w])[j]? = some z → (y.rides[j]? = some z) ∨ (j = y.rides.length ∧ z = newR e (y.spots.getD b default) w) := fun j z hz => by
    rw [List.getElem?_append] at hz
    split at hz
    · exact .inl hz
    · rename_i hjl
      have : j - y.rides.length = 0 := by
        rcases Nat.eq_zero_or_pos (j - y.rides.length) with h0 | h0
        · exact h0
        · rw [List.getElem?_eq_none (by simp; omega)] at hz; cases hz
      rw [this] at hz
      simp at hz
      exact .inr ⟨by omega, hz.symm⟩
  have hold : ∀ (j : Nat) z, y.rides[j]? = some z → (y.rides ++ [newR e (y.spots.getD b default) w])[j]? = some z := fun j z hz => by
    rw [List.getElem?_append_left (List.getElem?_eq_some_iff.1 hz).1]; exact hz
  refine ⟨?_, fun r hr => ?_, fun j r hr => ?_, fun id t ht => ?_, fun j r hr ho => ?_, fun j z hz hz3 => ?_, fun j z hz hp => ?_⟩
  · rw [List.map_append]
    refine List.nodup_append.2 ⟨h.ids, by simp, fun i hi j hj => ?_⟩
    obtain ⟨r, hr, rfl⟩ := List.mem_map.1 hi
    simp [newR] at hj
    subst hj
    exact hnew r hr
  · rw [usedP_mem]
    simp only [usePut_mem]
    rcases List.mem_append.1 hr with hr | hr
    · exact .inl (usedP_mem.1 (h.used r hr))
    · simp at hr; subst hr; exact .inr rfl
  · simp only
    rw [rput_get]
    rcases hsnoc j r hr with hr | ⟨h1, rfl⟩
    · rw [if_neg (hnew r (List.mem_of_getElem? hr))]; exact h.byid j r hr
    · rw [if_pos (show (newR e (y.spots.getD b default) w).id = e.ride from rfl), h1]
  · simp only [List.mem_append, List.mem_singleton] at ht
    rcases ht with ht | ht
    · obtain ⟨k, r, c1, c2, c3, c4, c5, c6, c7⟩ := h.open_ id t ht
      obtain ⟨_, z, hz, z3, _, _⟩ := hI.bike _ ht
      have hne : b ≠ t.bike.toNat := fun e => by simp only at hz; rw [← e, hx] at hz; cases hz; exact hx3 z3
      refine ⟨k, r, hold k r c1, c2, c3, c4, c5, ?_, by simp only [List.getElem?_set_ne hne]; exact c7⟩
      simp only
      rw [List.getElem?_append_left (List.getElem?_eq_some_iff.1 c6).1]; exact c6
    · simp only [Prod.mk.injEq] at ht
      obtain ⟨rfl, rfl⟩ := ht
      refine ⟨y.rides.length, newR e (y.spots.getD b default) w, by simp, rfl, rfl, hbk, rfl, by simp [← hW.paused], ?_⟩
      simp only [hbk, Int.toNat_natCast]
      rw [List.getElem?_set, if_pos rfl, if_pos hbl]
  · simp only [List.mem_append, List.mem_singleton]
    rcases hsnoc j r hr with hr | ⟨_, rfl⟩
    · obtain ⟨t, ht⟩ := h.rid j r hr ho; exact ⟨t, .inl ht⟩
    · exact ⟨_, .inr rfl⟩
  · simp only [set_get' _ hx] at hz
    simp only [set_get' _ hf]
    split at hz
    · cases hz; exact absurd rfl hz3
    · rename_i e2; rw [if_neg e2]; exact h.free j z hz hz3
  · simp only [set_get' _ hx] at hz
    split at hz
    · cases hz; simp [parkedS] at hp
    · exact h.spots j z hz hp
theorem JI.swap (h : JI n s y) (hI : PInv n s) (hW : WF n N y) {e : Ev} {tr : List Int} (hb : 0 ≤ e.bike ∧ e.bike < n) (h4 : e.kind = 4) (hc : checkP tr s e = 0) (w : Spn) : JI n (doP s e) (changeY y e w) := by
  obtain ⟨b, hbk⟩ : ∃ b : Nat, e.bike = b := ⟨e.bike.toNat, by omega⟩
  have hbn : b < n := by omega
  obtain ⟨x, hx⟩ : ∃ x, s.spots[b]? = some x := ⟨_, List.getElem?_eq_getElem (by rw [hI.len]; exact hbn)⟩
  have hg : s.spots.getD b default = x := by rw [List.getD_eq_getElem?_getD, hx]; rfl
  obtain ⟨t, ht, hpk⟩ : ∃ t, lookP s.open_ e.ride = some t ∧ parkedS x = true := by
    unfold checkP at hc
    simp only at hc
    rw [if_neg (by omega), if_neg (by omega), if_neg (by omega), if_pos h4, hbk, Int.toNat_natCast, hg] at hc
    cases hl : lookP s.open_ e.ride with
    | none => rw [hl] at hc; cases hc
    | some t =>
      rw [hl] at hc
      simp only at hc
      split at hc
      · cases hc
      · rename_i h1; exact ⟨t, rfl, by simpa using h1⟩
  have htm := lookP_some ht
  obtain ⟨k, r, c1, c2, c3, c4, c5, c6, c7⟩ := h.open_ _ _ htm
  obtain ⟨hj0, z, hz, z3, zr, zp⟩ := hI.bike _ htm
  simp only at hj0 hz zr
  obtain ⟨j, hj⟩ : ∃ j : Nat, t.bike = j := ⟨t.bike.toNat, by omega⟩
  rw [hj, Int.toNat_natCast] at hz c7
  have hx3 := parked_no3 hpk
  have hjb : j ≠ b := fun e => by rw [e, hx] at hz; cases hz; exact hx3 z3
  have hf := h.free b x hx hx3
  have hkl := (List.getElem?_eq_some_iff.1 c1).1
  have hrg : y.rides.getD k default = r := by rw [List.getD_eq_getElem?_getD, c1]; rfl
  have hyb := h.spots b x hx hpk
  have hybg : y.spots.getD b default = x := by rw [List.getD_eq_getElem?_getD, hyb]; rfl
  have hdo : doP s e = { s with spots := (s.spots.set j x).set b ⟨3, 0, e.ride, false⟩, open_ := setTrip s.open_ e.ride { t with bike := e.bike } } := by
    unfold doP
    simp only
    rw [if_neg (by omega), if_neg (by omega), if_neg (by omega), if_pos h4, ht, hbk, Int.toNat_natCast, hg]
    simp only [hj, Int.toNat_natCast]
  have hby := h.byid k r c1
  rw [c2] at hby
  have hch : changeY y e w = { rides := y.rides.set k (swapR b w r), byID := y.byID, riding := (y.riding.set j (-1)).set b k, paused := y.paused, spots := y.spots.set j x } := by
    unfold changeY
    rw [hby]
    simp only [Int.toNat_natCast]
    rw [hrg, c4, hj, Int.toNat_natCast, hbk, Int.toNat_natCast, hybg]
  rw [hdo, hch]
  have hgr := set_get' (swapR b w r) c1
  have hsp : ∀ i : Nat, ((s.spots.set j x).set b ⟨3, 0, e.ride, false⟩)[i]? = if b = i then some ⟨3, 0, e.ride, false⟩ else if j = i then some x else s.spots[i]? := fun i => by
    have hx2 : (s.spots.set j x)[b]? = some x := by rw [List.getElem?_set_ne hjb]; exact hx
    rw [set_get' _ hx2, set_get' _ hz]
  have hrd : ∀ i : Nat, ((y.riding.set j (-1)).set b (k : Int))[i]? = if b = i then some (k : Int) else if j = i then some (-1) else y.riding[i]? := fun i => by
    have hf2 : (y.riding.set j (-1))[b]? = some (-1) := by rw [List.getElem?_set_ne hjb]; exact hf
    rw [set_get' _ hf2, set_get' _ c7]
  have hjs : j < y.spots.length := by rw [hW.spots, ← hI.len]; exact (List.getElem?_eq_some_iff.1 hz).1
  refine ⟨by simp only [ids_set c1 (show (swapR b w r).id = r.id from rfl)]; exact h.ids, fun q hq => ?_, fun i q hq => ?_, fun id u hu => ?_, fun i q hq ho => ?_, fun i q hq hq3 => ?_, fun i q hq hp => ?_⟩
  · rcases List.mem_or_eq_of_mem_set hq with hq | rfl
    · exact h.used q hq
    · exact h.used r (List.mem_of_getElem? c1)
  · simp only [hgr] at hq
    split at hq
    · rename_i e2; cases hq; rw [← e2]; exact h.byid k r c1
    · exact h.byid i q hq
  · simp only [mem_setTrip] at hu
    rcases hu with ⟨_, _, _, hu⟩ | ⟨hu, hne⟩
    · simp only [Prod.mk.injEq] at hu
      obtain ⟨rfl, rfl⟩ := hu
      refine ⟨k, swapR b w r, by simp only [hgr, if_pos], c2, c3, ?_, c5, c6, ?_⟩
      · show lastBike (endLeg w r.legs ++ [⟨(b : Int), w, zSpn⟩]) = e.bike
        rw [lastBike_snoc, hbk]
      · simp only [hrd, hbk, Int.toNat_natCast, if_pos]
    · obtain ⟨k2, q, d1, d2, d3, d4, d5, d6, d7⟩ := h.open_ id u hu
      have hkk : k ≠ k2 := fun e2 => by subst e2; rw [c1] at d1; cases d1; exact hne (by rw [← d2, c2])
      obtain ⟨_, z2, hz2, z23, z2r, _⟩ := hI.bike _ hu
      simp only at hz2 z2r
      have e1 : b ≠ u.bike.toNat := fun e2 => by rw [← e2, hx] at hz2; cases hz2; exact hx3 z23
      have e3 : j ≠ u.bike.toNat := fun e2 => by rw [← e2, hz] at hz2; cases hz2; exact hne (by rw [← z2r, zr])
      exact ⟨k2, q, by simp only [hgr, if_neg hkk]; exact d1, d2, d3, d4, d5, d6, by simp only [hrd, if_neg e1, if_neg e3]; exact d7⟩
  · simp only [hgr] at hq
    split at hq
    · cases hq; exact ⟨_, by simp only [mem_setTrip]; exact .inl ⟨_, htm, rfl, by show ((swapR b w r).id, _) = _; rw [show (swapR b w r).id = e.ride from c2]⟩⟩
    · rename_i e2
      obtain ⟨u, hu⟩ := h.rid i q hq ho
      refine ⟨u, by simp only [mem_setTrip]; exact .inr ⟨hu, fun e3 => e2 (id_uniq h.ids c1 hq (by rw [c2]; exact e3.symm))⟩⟩
  · simp only [hsp] at hq
    simp only [hrd]
    split at hq
    · cases hq; exact absurd rfl hq3
    · rename_i e1
      rw [if_neg e1]
      split at hq
      · rename_i e2; rw [if_pos e2]
      · rename_i e2; rw [if_neg e2]; exact h.free i q hq hq3
  · simp only [hsp] at hq
    simp only [List.getElem?_set]
    split at hq
    · cases hq; simp [parkedS] at hp
    · rename_i e1
      split at hq
      · rename_i e2; cases hq; rw [if_pos e2, if_pos (by omega)]
      · rename_i e2; rw [if_neg e2]; exact h.spots i q hq hp
theorem JI.pause (h : JI n s y) (hI : PInv n s) (hW : WF n N y) {e : Ev} {tr : List Int} (hb : 0 ≤ e.bike ∧ e.bike < n) (h56 : e.kind = 5 ∨ e.kind = 6) (hc : checkP tr s e = 0) : JI n (doP s e) (tellY y e) := by
  obtain ⟨b, hbk⟩ : ∃ b : Nat, e.bike = b := ⟨e.bike.toNat, by omega⟩
  have hbn : b < n := by omega
  obtain ⟨x, hx⟩ : ∃ x, s.spots[b]? = some x := ⟨_, List.getElem?_eq_getElem (by rw [hI.len]; exact hbn)⟩
  have hg : s.spots.getD b default = x := by rw [List.getD_eq_getElem?_getD, hx]; rfl
  have hx3 : x.where_ = 3 := by
    unfold checkP at hc
    simp only at hc
    rw [if_neg (by omega), if_neg (by omega), if_neg (by omega), if_neg (by omega), if_pos h56, hbk, Int.toNat_natCast, hg] at hc
    split at hc
    · cases hc
    · rename_i h1; exact Decidable.of_not_not h1
  obtain ⟨t, ht, htb⟩ := hI.spot b x hx hx3
  have hlk := lookP_of hI.keys ht
  obtain ⟨k, r, c1, c2, c3, c4, c5, c6, c7⟩ := h.open_ _ _ ht
  rw [htb, Int.toNat_natCast] at c7
  have hvg : y.riding.getD e.bike.toNat 0 = (k : Int) := by rw [hbk, Int.toNat_natCast, List.getD_eq_getElem?_getD, c7]; rfl
  have hrg : y.rides.getD k default = r := by rw [List.getD_eq_getElem?_getD, c1]; rfl
  have hdo : doP s e = { s with spots := s.spots.set b { x with paused := decide (e.kind = 5) }, open_ := setTrip s.open_ x.ride { t with paused := decide (e.kind = 5) } } := by
    unfold doP
    simp only
    rw [if_neg (by omega), if_neg (by omega), if_neg (by omega), if_neg (by omega), if_pos h56, hbk, Int.toNat_natCast, hg, hlk]
  have hpl : k < y.paused.length := (List.getElem?_eq_some_iff.1 c6).1
  obtain ⟨q, hq1, hq2, hq3, hq4, hty⟩ : ∃ q : Rd, q.id = r.id ∧ q.rider = r.rider ∧ q.open_ = r.open_ ∧ lastBike q.legs = lastBike r.legs ∧ tellY y e = { y with rides := y.rides.set k q, paused := y.paused.set k (decide (e.kind = 5)) } := by
    unfold tellY
    simp only
    rw [hvg]
    rcases h56 with h5 | h6
    · refine ⟨pauseR (spanE e) r, rfl, rfl, rfl, rfl, ?_⟩
      rw [if_neg (by omega), if_neg (by omega), if_pos h5, if_pos (by omega)]
      simp only [Int.toNat_natCast]
      rw [hrg]
      simp [h5]
    · refine ⟨resumeR (y.paused.getD k false) (spanE e) r, ?_, ?_, ?_, ?_, ?_⟩
      · unfold resumeR; split <;> rfl
      · unfold resumeR; split <;> rfl
      · unfold resumeR; split <;> rfl
      · unfold resumeR; split <;> rfl
      · rw [if_neg (by omega), if_neg (by omega), if_neg (by omega), if_pos h6, if_pos (by omega)]
        unfold resumeY
        simp only [Int.toNat_natCast]
        rw [hrg]
        simp [h6]
  rw [hdo, hty]
  have h2 := h.setRide c1 hq1 hq2 hq3 hq4
  refine ⟨h2.ids, h2.used, h2.byid, fun id u hu => ?_, fun i z hz ho => ?_, fun i z hz hz3 => ?_, fun i z hz hp => ?_⟩
  · simp only [mem_setTrip] at hu
    rcases hu with ⟨_, _, _, hu⟩ | ⟨hu, hne⟩
    · simp only [Prod.mk.injEq] at hu
      obtain ⟨rfl, rfl⟩ := hu
      refine ⟨k, q, by simp only; rw [set_get' _ c1, if_pos rfl], by rw [hq1, c2], by rw [hq3, c3], by rw [hq4, c4], by rw [hq2, c5], ?_, by simp only [htb, Int.toNat_natCast]; exact c7⟩
      simp only
      rw [List.getElem?_set, if_pos rfl, if_pos hpl]
    · obtain ⟨k2, z, d1, d2, d3, d4, d5, d6, d7⟩ := h2.open_ id u hu
      have hkk : k ≠ k2 := fun e2 => by
        subst e2
        simp only [set_get' _ c1, if_pos] at d1
        cases d1
        exact hne (by rw [← d2, hq1, c2])
      exact ⟨k2, z, d1, d2, d3, d4, d5, by simp only [List.getElem?_set_ne hkk]; exact d6, d7⟩
  · obtain ⟨u, hu⟩ := h2.rid i z hz ho
    by_cases e2 : z.id = x.ride
    · exact ⟨_, by simp only [mem_setTrip]; exact .inl ⟨_, ht, rfl, by rw [e2]⟩⟩
    · exact ⟨u, by simp only [mem_setTrip]; exact .inr ⟨hu, e2⟩⟩
  · simp only [set_get' _ hx] at hz
    split at hz
    · cases hz; exact absurd hx3 hz3
    · exact h.free i z hz hz3
  · simp only [set_get' _ hx] at hz
    split at hz
    · cases hz; simp [parkedS, hx3] at hp
    · exact h.spots i z hz hp
theorem JI.step (h : JI n s y) (hI : PInv n s) (hW : WF n N y) {e : Ev} {tr : List Int} (hb : 0 ≤ e.bike ∧ e.bike < n) (hc : checkP tr s e = 0) : JI n (doP s e) (tellY y e) := by
  obtain ⟨b, hbk⟩ : ∃ b : Nat, e.bike = b := ⟨e.bike.toNat, by omega⟩
  have hbn : b < n := by omega
  obtain ⟨x, hx⟩ : ∃ x, s.spots[b]? = some x := ⟨_, List.getElem?_eq_getElem (by rw [hI.len]; exact hbn)⟩
  have hg : s.spots.getD b default = x := by rw [List.getD_eq_getElem?_getD, hx]; rfl
  by_cases h3 : e.kind = 3
  · have ht : tellY y e = beginY y e (spanE e) := by unfold tellY; simp only; rw [if_pos h3]
    rw [ht]; exact h.start hI hW hb h3 hc _
  by_cases h4 : e.kind = 4
  · have ht : tellY y e = changeY y e (spanE e) := by unfold tellY; simp only; rw [if_neg h3, if_pos h4]
    rw [ht]; exact h.swap hI hW hb h4 hc _
  by_cases h56 : e.kind = 5 ∨ e.kind = 6
  · exact h.pause hI hW hb h56 hc
  have h5 : ¬ e.kind = 5 := fun h => h56 (.inl h)
  have h6 : ¬ e.kind = 6 := fun h => h56 (.inr h)
  by_cases h1 : e.kind = 1
  · have ht : tellY y e = leaveY y b ⟨1, e.place, 0, false⟩ (spanE e) := by unfold tellY; simp only; rw [if_neg h3, if_neg h4, if_neg h5, if_neg h6, if_pos h1, hbk, Int.toNat_natCast]
    have hd : doP s e = leaveP s b ⟨1, e.place, 0, false⟩ := by unfold doP; simp only; rw [if_pos h1, hbk, Int.toNat_natCast]
    rw [ht, hd]; exact h.leave hI hW hbn _ (by simp) _
  by_cases h2 : e.kind = 2
  · have ht : tellY y e = leaveY y b ⟨2, e.place, 0, false⟩ (spanE e) := by unfold tellY; simp only; rw [if_neg h3, if_neg h4, if_neg h5, if_neg h6, if_neg h1, if_pos h2, hbk, Int.toNat_natCast]
    have hd : doP s e = leaveP s b ⟨2, e.place, 0, false⟩ := by unfold doP; simp only; rw [if_neg h1, if_pos h2, hbk, Int.toNat_natCast]
    rw [ht, hd]; exact h.leave hI hW hbn _ (by simp) _
  by_cases h9 : e.kind = 9
  · have ht : tellY y e = leaveY y b ⟨6, 0, 0, false⟩ (spanE e) := by unfold tellY; simp only; rw [if_neg h3, if_neg h4, if_neg h5, if_neg h6, if_neg h1, if_neg h2, if_pos h9, hbk, Int.toNat_natCast]
    have hd : doP s e = leaveP s b ⟨6, 0, 0, false⟩ := by unfold doP; simp only; rw [if_neg h1, if_neg h2, if_neg h3, if_neg h4, if_neg h56, if_neg (by omega), if_neg (by omega), if_pos h9, hbk, Int.toNat_natCast]
    rw [ht, hd]; exact h.leave hI hW hbn _ (by simp) _
  have ht : tellY y e = y := by unfold tellY; simp only; rw [if_neg h3, if_neg h4, if_neg h5, if_neg h6, if_neg h1, if_neg h2, if_neg h9]
  rw [ht]
  by_cases h7 : e.kind = 7
  · have hd : doP s e = leaveP s b ⟨4, e.place, 0, false⟩ := by unfold doP; simp only; rw [if_neg h1, if_neg h2, if_neg h3, if_neg h4, if_neg h56, if_pos h7, hbk, Int.toNat_natCast]
    have hx3 : x.where_ ≠ 3 := fun h3' => by
      unfold checkP at hc
      simp only at hc
      rw [if_neg h1, if_neg h2, if_neg h3, if_neg h4, if_neg h56, if_pos h7, hbk, Int.toNat_natCast, hg, h3'] at hc
      simp at hc
    rw [hd]
    exact h.move hI hx hx3 _ (by simp) y.spots (fun _ _ => rfl) (fun hp => by simp [parkedS] at hp)
  by_cases h8 : e.kind = 8
  · have hd : doP s e = leaveP s b ⟨5, 0, 0, false⟩ := by unfold doP; simp only; rw [if_neg h1, if_neg h2, if_neg h3, if_neg h4, if_neg h56, if_neg h7, if_pos h8, hbk, Int.toNat_natCast]
    have hx3 : x.where_ ≠ 3 := fun h3' => by
      unfold checkP at hc
      simp only at hc
      rw [if_neg h1, if_neg h2, if_neg h3, if_neg h4, if_neg h56, if_neg h7, if_pos h8, hbk, Int.toNat_natCast, hg, h3'] at hc
      simp [refuse] at hc
    rw [hd]
    exact h.move hI hx hx3 _ (by simp) y.spots (fun _ _ => rfl) (fun hp => by simp [parkedS] at hp)
  have hd : doP s e = s := by unfold doP; simp only; rw [if_neg h1, if_neg h2, if_neg h3, if_neg h4, if_neg h56, if_neg h7, if_neg h8, if_neg h9]
  rw [hd]; exact h
end

end Go.Proofs.Rid

/-
  Plain facts: the story of all accepted events; how many rides there are; all rides.
-/
namespace Go.Proofs.Rid
open Go.Proofs.Cus

def storyOf (f : Fl) (xs : List Ev) : SY := (accOf f xs).foldl tellY (beginSY (nbOf f))
def allOf (f : Fl) (xs : List Ev) : List Rd := if flErr f = 0 then byId (storyOf f xs).rides else []
structure Joint (n N : Nat) (s : PS) (y : SY) : Prop where
  ji : JI n s y
  inv : PInv n s
  wf : WF n N y
theorem joint_run {f : Fl} {n : Nat} (hn : f.bikes = n) : ∀ (l : List Ev) {N : Nat} {s : PS} {y : SY}, Joint n N s y → Replay f s l → Joint n (N + l.length) (l.foldl doP s) (l.foldl tellY y)
  | [], _, _, _, h, _ => h
  | e :: l, N, s, y, h, ⟨h1, h2, h3, h4⟩ => by
    have hb := (evErr_ok h1).2.1
    rw [hn] at hb
    have := joint_run hn l (N := N + 1) ⟨h.ji.step h.inv h.wf hb h3, h.inv.step hb h3, h.wf.tell hb⟩ h4
    rw [List.foldl_cons, List.foldl_cons, List.length_cons, show N + (l.length + 1) = N + 1 + l.length by omega]
    exact this
theorem joint_begin (n : Nat) : Joint n 0 (beginP n) (beginSY n) := ⟨JI.begin n, PInv.begin n, WF.begin n⟩
theorem joint_of {f : Fl} (hok : flErr f = 0) (xs : List Ev) : Joint (nbOf f) (accOf f xs).length ((accOf f xs).foldl doP (beginP (nbOf f))) (storyOf f xs) := by
  obtain ⟨hr, _⟩ := replay_of hok xs (fun _ => ())
  have := joint_run (nb_eq hok) (accOf f xs) (joint_begin (nbOf f)) hr
  rw [Nat.zero_add] at this
  exact this
/-- the same, before the k-th event -/
theorem Replay.take {f : Fl} : ∀ {l : List Ev} {s : PS}, Replay f s l → ∀ k, Replay f s (l.take k)
  | [], _, _, k => by simp; trivial
  | e :: l, s, _, 0 => trivial
  | e :: l, s, ⟨h1, h2, h3, h4⟩, k + 1 => ⟨h1, h2, h3, Replay.take h4 k⟩
theorem joint_at {f : Fl} (hok : flErr f = 0) (xs : List Ev) (k : Nat) : Joint (nbOf f) ((accOf f xs).take k).length (Cus.stK (beginP (nbOf f)) (accOf f xs) k) (((accOf f xs).take k).foldl tellY (beginSY (nbOf f))) := by
  obtain ⟨hr, _⟩ := replay_of hok xs (fun _ => ())
  have := joint_run (nb_eq hok) ((accOf f xs).take k) (joint_begin (nbOf f)) (Replay.take hr k)
  rw [Nat.zero_add] at this
  exact this

/-! how many rides -/
def parkN (l : List Sp) : Nat := l.countP parkedS
theorem leaveY_len (y : SY) (b : Nat) (to : Sp) (w : Spn) : (leaveY y b to w).rides.length = y.rides.length := by
  unfold leaveY
  split
  · rfl
  · simp [resumeY]
theorem tellY_len (y : SY) (e : Ev) : (tellY y e).rides.length = y.rides.length + (if e.kind = 3 then 1 else 0) := by
  unfold tellY
  simp only
  by_cases h3 : e.kind = 3
  · rw [if_pos h3, if_pos h3]; simp [beginY]
  · rw [if_neg h3, if_neg h3, Nat.add_zero]
    split
    · unfold changeY; split <;> simp
    split
    · split <;> simp
    split
    · split <;> simp [resumeY]
    split
    · exact leaveY_len _ _ _ _
    split
    · exact leaveY_len _ _ _ _
    split
    · exact leaveY_len _ _ _ _
    · rfl
theorem park_set {l : List Sp} {k : Nat} {x : Sp} (z : Sp) (h : l[k]? = some x) : parkN (l.set k z) + (if parkedS x = true then 1 else 0) = parkN l + (if parkedS z = true then 1 else 0) := countP_set parkedS z h
theorem park_step {n : Nat} {s : PS} {e : Ev} {tr : List Int} (hI : PInv n s) (hb : 0 ≤ e.bike ∧ e.bike < n) (hc : checkP tr s e = 0) : parkN (doP s e).spots + 2 * (if e.kind = 3 then 1 else 0) ≤ parkN s.spots + 1 := by
  obtain ⟨b, hbk⟩ : ∃ b : Nat, e.bike = b := ⟨e.bike.toNat, by omega⟩
  obtain ⟨x, hx⟩ : ∃ x, s.spots[b]? = some x := ⟨_, List.getElem?_eq_getElem (by rw [hI.len]; omega)⟩
  have hg : s.spots.getD b default = x := by rw [List.getD_eq_getElem?_getD, hx]; rfl
  have hlv : ∀ to : Sp, parkN (leaveP s b to).spots ≤ parkN s.spots + 1 := fun to => by
    have := park_set to hx
    show parkN (s.spots.set b to) ≤ _
    split at this <;> split at this <;> omega
  unfold checkP at hc
  unfold doP
  simp only [hbk, Int.toNat_natCast, hg] at hc ⊢
  by_cases h1 : e.kind = 1
  · rw [if_pos h1, if_neg (by omega)]; have := hlv ⟨1, e.place, 0, false⟩; omega
  rw [if_neg h1] at hc ⊢
  by_cases h2 : e.kind = 2
  · rw [if_pos h2, if_neg (by omega)]; have := hlv ⟨2, e.place, 0, false⟩; omega
  rw [if_neg h2] at hc ⊢
  by_cases h3 : e.kind = 3
  · rw [if_pos h3] at hc
    have hpk : parkedS x = true := by
      split at hc
      · cases hc
      · rename_i h; simpa using h
    rw [if_pos h3, if_pos h3]
    have := park_set ⟨3, 0, e.ride, false⟩ hx
    rw [if_pos hpk, if_neg (by simp [parkedS])] at this
    simp only
    omega
  rw [if_neg h3] at hc ⊢
  rw [if_neg h3]
  by_cases h4 : e.kind = 4
  · rw [if_pos h4] at hc ⊢
    cases hl : lookP s.open_ e.ride with
    | none => rw [hl] at hc; cases hc
    | some t =>
      rw [hl] at hc
      simp only at hc ⊢
      have hpk : parkedS x = true := by
        split at hc
        · cases hc
        · rename_i h; simpa using h
      obtain ⟨_, z, hz, z3, _, _⟩ := hI.bike _ (lookP_some hl)
      simp only at hz
      have hzp : parkedS z = false := by unfold parkedS; simp [z3]
      have hne : t.bike.toNat ≠ b := fun e2 => by rw [e2, hx] at hz; cases hz; rw [hzp] at hpk; cases hpk
      have a1 := park_set x hz
      have hx2 : (s.spots.set t.bike.toNat x)[b]? = some x := by rw [List.getElem?_set_ne hne]; exact hx
      have a2 := park_set ⟨3, 0, e.ride, false⟩ hx2
      rw [if_neg (by rw [hzp]; decide), if_pos hpk] at a1
      rw [if_pos hpk, if_neg (by simp [parkedS])] at a2
      omega
  rw [if_neg h4] at hc ⊢
  by_cases h56 : e.kind = 5 ∨ e.kind = 6
  · rw [if_pos h56]
    simp only
    have := park_set { x with paused := decide (e.kind = 5) } hx
    have hsame : parkedS { x with paused := decide (e.kind = 5) } = parkedS x := rfl
    rw [hsame] at this
    omega
  rw [if_neg h56]
  by_cases h7 : e.kind = 7
  · rw [if_pos h7]; have := hlv ⟨4, e.place, 0, false⟩; omega
  rw [if_neg h7]
  by_cases h8 : e.kind = 8
  · rw [if_pos h8]; have := hlv ⟨5, 0, 0, false⟩; omega
  rw [if_neg h8]
  by_cases h9 : e.kind = 9
  · rw [if_pos h9]; have := hlv ⟨6, 0, 0, false⟩; omega
  rw [if_neg h9]; omega
theorem rides_run {f : Fl} {n : Nat} (hn : f.bikes = n) : ∀ (l : List Ev) {s : PS} {y : SY} {m : Nat}, PInv n s → Replay f s l → 2 * y.rides.length + parkN s.spots ≤ m → 2 * (l.foldl tellY y).rides.length + parkN (l.foldl doP s).spots ≤ m + l.length
  | [], _, _, _, _, _, h => h
  | e :: l, s, y, m, hI, ⟨h1, h2, h3, h4⟩, h => by
    have hb := (evErr_ok h1).2.1
    rw [hn] at hb
    have a1 := park_step hI hb h3
    have a2 := tellY_len y e
    have := rides_run hn l (y := tellY y e) (m := m + 1) (hI.step hb h3) h4 (by rw [a2]; omega)
    rw [List.foldl_cons, List.foldl_cons, List.length_cons]
    omega
theorem story_len {f : Fl} (hok : flErr f = 0) (xs : List Ev) : 2 * (storyOf f xs).rides.length ≤ (accOf f xs).length := by
  obtain ⟨hr, _⟩ := replay_of hok xs (fun _ => ())
  have := rides_run (nb_eq hok) (accOf f xs) (y := beginSY (nbOf f)) (m := 0) (PInv.begin _) hr (by
    have : parkN (beginP (nbOf f)).spots = 0 := by
      unfold parkN beginP
      rw [List.countP_eq_zero]
      intro x hx
      simp at hx
      rw [hx.2]; decide
    rw [this]; simp [beginSY])
  unfold storyOf
  omega
theorem all_len {f : Fl} (xs : List Ev) : 2 * (allOf f xs).length ≤ xs.length := by
  unfold allOf
  split
  · rename_i hok
    have h1 := story_len hok xs
    have h2 := accOf_len f xs
    rw [(byId_perm _).length_eq]
    omega
  · simp

end Go.Proofs.Rid

/-
  The walks: all rides of events (at most twenty rides).
-/
namespace Go.Proofs.Rid
open Go Go.RowKit Go.Proofs.E Go.Proofs.Cus

def zSp : Sp := ⟨0, 0, 0, false⟩
theorem rep_set (k n : Nat) (h : k < n) : (List.replicate k (-1 : Int) ++ List.replicate (n - k) 0).set k (-1) = List.replicate (k + 1) (-1) ++ List.replicate (n - (k + 1)) 0 := by
  rw [List.set_append_right _ _ (by simp), show n - k = (n - (k + 1)) + 1 by omega, List.replicate_succ, List.length_replicate, Nat.sub_self, List.set_cons_zero, List.replicate_succ', List.append_assoc]
  rfl
theorem rep_get (k n : Nat) (h : k < n) : (List.replicate k (-1 : Int) ++ List.replicate (n - k) 0)[k]? = some 0 := by
  rw [List.getElem?_append_right (by simp), List.length_replicate, Nat.sub_self, List.getElem?_replicate, if_pos (by omega)]
theorem Mem.bagPerm {w0 w : World} {T T' L : List E.Item} (h : Mem w0 (bag T :: L) w) (hp : T'.Perm T) : Mem w0 (bag T' :: L) w :=
  (h.unbag.perm (List.Perm.append_right L hp)).bag
/-- what All hands back -/
abbrev RdsOut (l : List Rd) : Type := { y : Option Addr × Nat × List RX // y.2.2.map (·.r) = l }
set_option maxHeartbeats 1000000 in
set_option maxRecDepth 20000 in
theorem all_w (f : Fl) (a : FA) (A : Option Addr) (n c : Nat) (xs : List Ev) (w : World) (hf : FlAt w f a) (hx : EvsAt w A n xs) (hn : n ≤ 1000) (hpl : PlOk xs) (hr20 : (storyOf f xs).rides.length ≤ 20) :
    Calls Try.prog 23 #[.agg (f.cells a).toArray, .slice A n c] w fun r w' => ∃ y : RdsOut (allOf f xs), r = .returned (.tuple #[.slice y.1.1 y.1.2.2.length y.1.2.1, .int .i64 (flErr f)]) ∧ Mem w [rdRow y.1.1 y.1.2.1 y.1.2.2, rdBag y.1.2.2] w' := by
  have hxl := hx.1
  have hal := accOf_len f xs
  refine H_enter Try.func23 rfl Try.ntmps23 rfl ?_
  refine H_seq ?_
  refine R0 ?_
  refine X_box (v := .agg _) rfl rfl fun b2 => ?_
  refine xV (e_as (v := .slice _ _ _) (q0 rfl)) rfl rfl ?_
  refine xV (e_as (v := .int _ _) (q0 rfl)) rfl rfl ?_
  refine XN ?_
  refine thenJ_normal ?_
  refine H_seq ?_
  refine R0 ?_
  refine xV (eS Try.isAgg42 Try.sizeOf42 (q0 rfl)) rfl rfl ?_
  refine xV (e_mv (v := .slice _ _ _) (q0 rfl)) rfl rfl ?_
  refine xCX (en Try.call24 (ha2 (q0 rfl) (q0 rfl))) (fun w hw => accepted_w f a A n c xs w (hf.mem hw) (hx.mem hw) (by omega) hpl) rfl (fun _ => rfl) fun r1 => ?_
  refine xV (e_mv (q0 rfl)) rfl rfl ?_
  refine xV (e_ext (q0 rfl) rfl) rfl rfl ?_
  refine xV (e_ext (q0 rfl) rfl) rfl rfl ?_
  refine xV (e_as (v := .slice _ _ _) (q0 rfl)) rfl rfl ?_
  refine xV (e_as (v := .int _ _) (q0 rfl)) rfl rfl ?_
  refine XN ?_
  refine thenJ_normal ?_
  refine H_seq ?_
  refine H_seq ?_
  refine R0 ?_
  refine xV (e_mv (v := .int _ _) (q0 rfl)) rfl rfl ?_
  refine xV (e_ne (q0 rfl) (q0 rfl)) rfl rfl ?_
  refine XN ?_
  refine thenJ_normal ?_
  refine H_cond rfl (fun h1 => ?_) (fun h1 => ?_)
  · have h1' : flErr f ≠ 0 := by simpa using h1
    have ho : allOf f xs = [] := by unfold allOf; rw [if_neg h1']
    refine H_seq ?_
    refine R0 ?_
    refine xV (e_mv (v := .int _ _) (q0 rfl)) rfl rfl ?_
    refine xV (e_as (v := .slice _ _ _) (q0 rfl)) rfl rfl ?_
    refine xV (e_as (v := .int _ _) (q0 rfl)) rfl rfl ?_
    refine XN ?_
    refine thenJ_normal ?_
    refine H_ret ?_
    refine thenJ_ret ?_
    exact ret2 (v := .slice _ _ _) (x := .int _ _) rfl rfl rfl rfl fun w' hw => ⟨⟨(none, 0, []), ho.symm⟩, rfl, ((mem_nil.2 hw.1).noBag (f := rdParts)).nilRow _ _ _ rfl⟩
  · have h1' : flErr f = 0 := by simpa using h1
    obtain ⟨hbk, -⟩ := flErr_ok h1'
    have hnb := nb_eq h1'
    have ho : allOf f xs = byId (storyOf f xs).rides := by unfold allOf; rw [if_pos h1']
    have hjn := joint_of h1' xs
    have hja := fun k => joint_at h1' xs k
    have hbikes : ∀ e ∈ accOf f xs, 0 ≤ e.bike ∧ e.bike < (nbOf f : Int) := fun e he => by
      obtain ⟨hrp, _⟩ := replay_of h1' xs (fun _ => ())
      obtain ⟨k, hk⟩ := List.mem_iff_getElem?.1 he
      have := (evErr_ok (hrp.at_ (g := fun _ => ()) hk).1).2.1
      rw [hnb] at this; exact this
    have hst : storyOf f xs = (accOf f xs).foldl tellY (beginSY (nbOf f)) := rfl
    rw [h1', ho]
    generalize hac0 : accOf f xs = acc at *
    generalize hN : nbOf f = nb at *
    have hnb1 : nb ≤ 1000 := by omega
    obtain ⟨r11, r12⟩ := r1
    refine H_skip ?_
    refine thenJ_normal ?_
    refine H_seq ?_
    refine H_cut [8, 21, 22, 23, 24, 25, 26, 27, 28, 29] (fun x : YA => [(8, .pointer (some ⟨x.sb, 0, none⟩))]) (fun x => [box x.sb 77 [.slice none 0 0, .map (some x.m), .slice (some ⟨x.g, 0, none⟩) nb nb, .slice none 0 0, .slice (some ⟨x.s, 0, none⟩) nb nb], inRow (some ⟨x.g, 0, none⟩) nb (List.replicate nb 0), E.rowT 58 4 Sp.cells (some ⟨x.s, 0, none⟩) nb (List.replicate nb zSp), imap x.m [], evRow r11 r12 acc]) (fun x => x.rA = none ∧ x.rc = 0 ∧ x.pA = none ∧ x.pc = 0 ∧ x.gc = nb ∧ x.sc = nb) ?_ ?_
    · refine RA rfl (by decide +kernel) ?_
      refine aV 1 (by decide +kernel) rfl (e_fld Try.underlying42 rfl Try.sizeOf3 rfl (q0 rfl)) rfl ?_
      refine aV 2 (by decide +kernel) rfl (eL Try.isAgg3 (q0 rfl)) rfl ?_
      refine aV 4 (by decide +kernel) rfl (e_fld Try.underlying42 rfl Try.sizeOf3 rfl (q0 rfl)) rfl ?_
      refine aV 5 (by decide +kernel) rfl (eL Try.isAgg3 (q0 rfl)) rfl ?_
      refine rdy3 (i := 0) (j := 3) (k := 6) (by decide +kernel) (sub_drop 0) ?_ ?_ ?_
      · refine aL rfl (f_makeMap rfl fun b21 => ?_)
        refine rdy2 (i := 3) (j := 6) (by decide +kernel) (sub_drop 1) ?_ ?_
        · refine aL rfl (f_make (i := Try.t3) (k := 1) (n := nb) (m := nb) encInt 0 Try.underlying40 (by kernel_rfl) rfl rfl rfl (by show Value.int .i64 f.bikes = _; rw [hnb]) (by show Value.int .i64 f.bikes = _; rw [hnb]) ⟨⟨Nat.le_refl _, by omega⟩, by decide⟩ rfl fun b24 => ?_)
          refine aI 1 ?_
          refine rdy1 (i := 6) (by decide +kernel) (sub_drop 2) ?_
          refine aL rfl (f_make (i := Try.t58) (k := 4) (n := nb) (m := nb) Sp.cells zSp Try.underlying54 (by kernel_rfl) rfl rfl rfl (by show Value.int .i64 f.bikes = _; rw [hnb]) (by show Value.int .i64 f.bikes = _; rw [hnb]) ⟨⟨Nat.le_refl _, by omega⟩, by decide⟩ rfl fun b27 => ?_)
          refine aI 2 ?_
          refine aV 7 (by decide +kernel) rfl (e_build Try.underlying77 fl77 Try.zeroValue77 (pt (v := .map _) rfl (pt (v := .slice _ _ _) rfl (pt (v := .slice _ _ _) rfl E.p0))) rfl) rfl ?_
          refine rdy1 (i := 8) (by decide +kernel) (sub_drop 3) ?_
          refine aL rfl (f_box (v := .agg _) rfl rfl fun b29 => ?_)
          refine aI 3 ?_
          refine aRL (sub_drop 4) ?_
          refine aV 9 (by decide +kernel) rfl (e_as (v := .pointer _) (q0 rfl)) rfl ?_
          refine aZ (by decide +kernel) (sub_drop 0) ?_
          exact cutJ_normal (⟨b29, none, 0, b21, b24, nb, none, 0, b27, nb⟩ : YA) (by repeat (first | exact agree_self | exact agree_over | refine agree_upd rfl ?_ | refine agree_updL rfl ?_ | refine agree_over2 rfl ?_)) ⟨rfl, trivial⟩ (fun w hw => hw.pick [3, 1, 2, 0, 4] (by decide)) rfl ⟨rfl, rfl, rfl, rfl, rfl, rfl⟩
        · refine aL rfl (f_make (i := Try.t58) (k := 4) (n := nb) (m := nb) Sp.cells zSp Try.underlying54 (by kernel_rfl) rfl rfl rfl (by show Value.int .i64 f.bikes = _; rw [hnb]) (by show Value.int .i64 f.bikes = _; rw [hnb]) ⟨⟨Nat.le_refl _, by omega⟩, by decide⟩ rfl fun b27 => ?_)
          refine aI 1 ?_
          refine rdy1 (i := 3) (by decide +kernel) (sub_drop 2) ?_
          refine aL rfl (f_make (i := Try.t3) (k := 1) (n := nb) (m := nb) encInt 0 Try.underlying40 (by kernel_rfl) rfl rfl rfl (by show Value.int .i64 f.bikes = _; rw [hnb]) (by show Value.int .i64 f.bikes = _; rw [hnb]) ⟨⟨Nat.le_refl _, by omega⟩, by decide⟩ rfl fun b24 => ?_)
          refine aI 1 ?_
          refine aV 7 (by decide +kernel) rfl (e_build Try.underlying77 fl77 Try.zeroValue77 (pt (v := .map _) rfl (pt (v := .slice _ _ _) rfl (pt (v := .slice _ _ _) rfl E.p0))) rfl) rfl ?_
          refine rdy1 (i := 8) (by decide +kernel) (sub_drop 3) ?_
          refine aL rfl (f_box (v := .agg _) rfl rfl fun b29 => ?_)
          refine aI 3 ?_
          refine aRL (sub_drop 4) ?_
          refine aV 9 (by decide +kernel) rfl (e_as (v := .pointer _) (q0 rfl)) rfl ?_
          refine aZ (by decide +kernel) (sub_drop 0) ?_
          exact cutJ_normal (⟨b29, none, 0, b21, b24, nb, none, 0, b27, nb⟩ : YA) (by repeat (first | exact agree_self | exact agree_over | refine agree_upd rfl ?_ | refine agree_updL rfl ?_ | refine agree_over2 rfl ?_)) ⟨rfl, trivial⟩ (fun w hw => hw.pick [3, 1, 2, 0, 4] (by decide)) rfl ⟨rfl, rfl, rfl, rfl, rfl, rfl⟩
      · refine aL rfl (f_make (i := Try.t3) (k := 1) (n := nb) (m := nb) encInt 0 Try.underlying40 (by kernel_rfl) rfl rfl rfl (by show Value.int .i64 f.bikes = _; rw [hnb]) (by show Value.int .i64 f.bikes = _; rw [hnb]) ⟨⟨Nat.le_refl _, by omega⟩, by decide⟩ rfl fun b24 => ?_)
        refine rdy2 (i := 0) (j := 6) (by decide +kernel) (sub_drop 1) ?_ ?_
        · refine aL rfl (f_makeMap rfl fun b21 => ?_)
          refine rdy1 (i := 6) (by decide +kernel) (sub_drop 2) ?_
          refine aL rfl (f_make (i := Try.t58) (k := 4) (n := nb) (m := nb) Sp.cells zSp Try.underlying54 (by kernel_rfl) rfl rfl rfl (by show Value.int .i64 f.bikes = _; rw [hnb]) (by show Value.int .i64 f.bikes = _; rw [hnb]) ⟨⟨Nat.le_refl _, by omega⟩, by decide⟩ rfl fun b27 => ?_)
          refine aI 2 ?_
          refine aV 7 (by decide +kernel) rfl (e_build Try.underlying77 fl77 Try.zeroValue77 (pt (v := .map _) rfl (pt (v := .slice _ _ _) rfl (pt (v := .slice _ _ _) rfl E.p0))) rfl) rfl ?_
          refine rdy1 (i := 8) (by decide +kernel) (sub_drop 3) ?_
          refine aL rfl (f_box (v := .agg _) rfl rfl fun b29 => ?_)
          refine aI 3 ?_
          refine aRL (sub_drop 4) ?_
          refine aV 9 (by decide +kernel) rfl (e_as (v := .pointer _) (q0 rfl)) rfl ?_
          refine aZ (by decide +kernel) (sub_drop 0) ?_
          exact cutJ_normal (⟨b29, none, 0, b21, b24, nb, none, 0, b27, nb⟩ : YA) (by repeat (first | exact agree_self | exact agree_over | refine agree_upd rfl ?_ | refine agree_updL rfl ?_ | refine agree_over2 rfl ?_)) ⟨rfl, trivial⟩ (fun w hw => hw.pick [3, 1, 2, 0, 4] (by decide)) rfl ⟨rfl, rfl, rfl, rfl, rfl, rfl⟩
        · refine aL rfl (f_make (i := Try.t58) (k := 4) (n := nb) (m := nb) Sp.cells zSp Try.underlying54 (by kernel_rfl) rfl rfl rfl (by show Value.int .i64 f.bikes = _; rw [hnb]) (by show Value.int .i64 f.bikes = _; rw [hnb]) ⟨⟨Nat.le_refl _, by omega⟩, by decide⟩ rfl fun b27 => ?_)
          refine aI 1 ?_
          refine rdy1 (i := 0) (by decide +kernel) (sub_drop 2) ?_
          refine aL rfl (f_makeMap rfl fun b21 => ?_)
          refine aV 7 (by decide +kernel) rfl (e_build Try.underlying77 fl77 Try.zeroValue77 (pt (v := .map _) rfl (pt (v := .slice _ _ _) rfl (pt (v := .slice _ _ _) rfl E.p0))) rfl) rfl ?_
          refine rdy1 (i := 8) (by decide +kernel) (sub_drop 3) ?_
          refine aL rfl (f_box (v := .agg _) rfl rfl fun b29 => ?_)
          refine aI 3 ?_
          refine aRL (sub_drop 4) ?_
          refine aV 9 (by decide +kernel) rfl (e_as (v := .pointer _) (q0 rfl)) rfl ?_
          refine aZ (by decide +kernel) (sub_drop 0) ?_
          exact cutJ_normal (⟨b29, none, 0, b21, b24, nb, none, 0, b27, nb⟩ : YA) (by repeat (first | exact agree_self | exact agree_over | refine agree_upd rfl ?_ | refine agree_updL rfl ?_ | refine agree_over2 rfl ?_)) ⟨rfl, trivial⟩ (fun w hw => hw.pick [3, 1, 2, 0, 4] (by decide)) rfl ⟨rfl, rfl, rfl, rfl, rfl, rfl⟩
      · refine aL rfl (f_make (i := Try.t58) (k := 4) (n := nb) (m := nb) Sp.cells zSp Try.underlying54 (by kernel_rfl) rfl rfl rfl (by show Value.int .i64 f.bikes = _; rw [hnb]) (by show Value.int .i64 f.bikes = _; rw [hnb]) ⟨⟨Nat.le_refl _, by omega⟩, by decide⟩ rfl fun b27 => ?_)
        refine rdy2 (i := 0) (j := 3) (by decide +kernel) (sub_drop 1) ?_ ?_
        · refine aL rfl (f_makeMap rfl fun b21 => ?_)
          refine rdy1 (i := 3) (by decide +kernel) (sub_drop 2) ?_
          refine aL rfl (f_make (i := Try.t3) (k := 1) (n := nb) (m := nb) encInt 0 Try.underlying40 (by kernel_rfl) rfl rfl rfl (by show Value.int .i64 f.bikes = _; rw [hnb]) (by show Value.int .i64 f.bikes = _; rw [hnb]) ⟨⟨Nat.le_refl _, by omega⟩, by decide⟩ rfl fun b24 => ?_)
          refine aI 1 ?_
          refine aV 7 (by decide +kernel) rfl (e_build Try.underlying77 fl77 Try.zeroValue77 (pt (v := .map _) rfl (pt (v := .slice _ _ _) rfl (pt (v := .slice _ _ _) rfl E.p0))) rfl) rfl ?_
          refine rdy1 (i := 8) (by decide +kernel) (sub_drop 3) ?_
          refine aL rfl (f_box (v := .agg _) rfl rfl fun b29 => ?_)
          refine aI 3 ?_
          refine aRL (sub_drop 4) ?_
          refine aV 9 (by decide +kernel) rfl (e_as (v := .pointer _) (q0 rfl)) rfl ?_
          refine aZ (by decide +kernel) (sub_drop 0) ?_
          exact cutJ_normal (⟨b29, none, 0, b21, b24, nb, none, 0, b27, nb⟩ : YA) (by repeat (first | exact agree_self | exact agree_over | refine agree_upd rfl ?_ | refine agree_updL rfl ?_ | refine agree_over2 rfl ?_)) ⟨rfl, trivial⟩ (fun w hw => hw.pick [3, 1, 2, 0, 4] (by decide)) rfl ⟨rfl, rfl, rfl, rfl, rfl, rfl⟩
        · refine aL rfl (f_make (i := Try.t3) (k := 1) (n := nb) (m := nb) encInt 0 Try.underlying40 (by kernel_rfl) rfl rfl rfl (by show Value.int .i64 f.bikes = _; rw [hnb]) (by show Value.int .i64 f.bikes = _; rw [hnb]) ⟨⟨Nat.le_refl _, by omega⟩, by decide⟩ rfl fun b24 => ?_)
          refine rdy1 (i := 0) (by decide +kernel) (sub_drop 2) ?_
          refine aL rfl (f_makeMap rfl fun b21 => ?_)
          refine aV 7 (by decide +kernel) rfl (e_build Try.underlying77 fl77 Try.zeroValue77 (pt (v := .map _) rfl (pt (v := .slice _ _ _) rfl (pt (v := .slice _ _ _) rfl E.p0))) rfl) rfl ?_
          refine rdy1 (i := 8) (by decide +kernel) (sub_drop 3) ?_
          refine aL rfl (f_box (v := .agg _) rfl rfl fun b29 => ?_)
          refine aI 3 ?_
          refine aRL (sub_drop 4) ?_
          refine aV 9 (by decide +kernel) rfl (e_as (v := .pointer _) (q0 rfl)) rfl ?_
          refine aZ (by decide +kernel) (sub_drop 0) ?_
          exact cutJ_normal (⟨b29, none, 0, b21, b24, nb, none, 0, b27, nb⟩ : YA) (by repeat (first | exact agree_self | exact agree_over | refine agree_upd rfl ?_ | refine agree_updL rfl ?_ | refine agree_over2 rfl ?_)) ⟨rfl, trivial⟩ (fun w hw => hw.pick [3, 1, 2, 0, 4] (by decide)) rfl ⟨rfl, rfl, rfl, rfl, rfl, rfl⟩
    · rintro ⟨sb, rA, rc, m, g0, gc, pA, pc, s0, sc⟩ g4 ⟨e1, e2, e3, e4, e5, e6⟩
      simp only at e1 e2 e3 e4 e5 e6
      subst e1 e2 e3 e4 e5 e6
      refine thenJ_normal ?_
      refine H_seq ?_
      refine H_seq ?_
      refine R0 ?_
      refine xV (e_mv (v := .pointer _) (q0 rfl)) rfl rfl ?_
      refine xV (e_nilc (q0 rfl)) rfl rfl ?_
      refine xV (e_fld Try.underlying77 rfl Try.sizeOf40 rfl (q0 rfl)) rfl rfl ?_
      refine xV (eL Try.isAgg40 (q0 rfl)) rfl rfl ?_
      refine xV (e_len Try.underlying40 (q0 rfl)) rfl rfl ?_
      refine xV (e_mv (v := .int _ _) (q0 rfl)) rfl rfl ?_
      refine XN ?_
      refine thenJ_normal ?_
      refine H_block ?_
      refine H_loop [9, 35, 36, 37, 38, 39, 40, 41, 42, 43, 44] (fun k : Nat => [(35, .int .i64 k)]) (fun k => [box sb 77 [.slice none 0 0, .map (some m), .slice (some ⟨g0, 0, none⟩) sc sc, .slice none 0 0, .slice (some ⟨s0, 0, none⟩) sc sc], inRow (some ⟨g0, 0, none⟩) sc (List.replicate k (-1) ++ List.replicate (sc - k) 0), E.rowT 58 4 Sp.cells (some ⟨s0, 0, none⟩) sc (List.replicate sc zSp), imap m [], evRow r11 r12 acc]) (fun k => k ≤ sc) (fun k => sc - k) 0 ⟨rfl, trivial⟩ (fun w hw => by simpa using hw) rfl (Nat.zero_le _) ?_
      rintro k g5 hk
      refine H_seq ?_
      refine R0 ?_
      refine xV (e_lt (q0 rfl) (q0 rfl)) rfl rfl ?_
      refine XN ?_
      refine thenJ_normal ?_
      refine H_seq ?_
      refine H_cond rfl (fun hlt => ?_) (fun hlt => ?_)
      · have hlt' : k < sc := by simp at hlt; omega
        have hget := rep_get k sc hlt'
        refine H_skip ?_
        refine thenJ_normal ?_
        refine H_seq ?_
        refine H_block ?_
        refine H_seq ?_
        refine R0 ?_
        refine xV (e_mv (v := .int _ _) (q0 rfl)) rfl rfl ?_
        refine xV (e_as (v := .int _ _) (q0 rfl)) rfl rfl ?_
        refine XN ?_
        refine thenJ_normal ?_
        refine R0 ?_
        refine xV (e_mv (v := .pointer _) (q0 rfl)) rfl rfl ?_
        refine xV (e_nilc (q0 rfl)) rfl rfl ?_
        refine xV (e_fld Try.underlying77 rfl Try.sizeOf40 rfl (q0 rfl)) rfl rfl ?_
        refine xV (eL Try.isAgg40 (q0 rfl)) rfl rfl ?_
        refine xV (e_mv (v := .int _ _) (q0 rfl)) rfl rfl ?_
        refine xV (e_idx _ Try.underlying40 Try.sizeOf3 (q0 rfl) (q0 rfl) (fun _ => ⟨rfl, by omega⟩)) rfl rfl ?_
        refine X_eff (f_storeR0 1 (k := 1) (enc := encInt) (-1) rfl rfl Try.sizeOf3 rfl rfl rfl hget rfl rfl ?_)
        refine XN ?_
        refine blockJ_normal ?_
        refine thenJ_normal ?_
        refine R0 ?_
        refine xV (e_add (q0 rfl) (q0 rfl) (fun _ => ⟨rfl, by omega, by omega⟩)) rfl rfl ?_
        refine xV (e_mv (v := .int _ _) (q0 rfl)) rfl rfl ?_
        refine XN ?_
        exact loopJ_normal (k + 1) (by repeat (first | exact agree_self | exact agree_over | refine agree_upd rfl ?_ | refine agree_updL rfl ?_ | refine agree_over2 rfl ?_)) ⟨rfl, trivial⟩ (fun w hw => by show Mem _ [_, inRow _ _ (List.replicate (k + 1) (-1) ++ List.replicate (sc - (k + 1)) 0), _, _, _] w; rw [← rep_set k sc hlt']; exact hw) rfl (by show k + 1 ≤ sc; omega) (by show sc - (k + 1) < sc - k; omega)
      · have hkn : k = sc := by simp at hlt; omega
        subst hkn
        refine H_mem (L' := stY ⟨sb, none, 0, m, g0, k, none, 0, s0, k⟩ ⟨[], [], List.replicate k (-1), [], List.replicate k zSp⟩ ++ [evRow r11 r12 acc]) (fun w hw => by
          rw [Nat.sub_self, List.replicate_zero, List.append_nil] at hw
          have h10 := ((hw.noBag (f := rdParts)).nilRow 27 13 RX.cells (c := 0) rfl).nilRow 4 1 encB (c := 0) rfl
          have h11 := h10.pickN 8 [3, 1, 2, 0, 4, 5, 6, 7] (by decide) (by decide)
          have hc : yCells ⟨sb, none, 0, m, g0, k, none, 0, s0, k⟩ ⟨[], [], List.replicate k (-1), [], List.replicate k zSp⟩ = [.slice none 0 0, .map (some m), .slice (some ⟨g0, 0, none⟩) k k, .slice none 0 0, .slice (some ⟨s0, 0, none⟩) k k] := by unfold yCells; simp
          show Mem _ ([box sb 77 (yCells _ _), _, _, _, _, _, _] ++ [_]) w
          rw [hc]
          exact h11) rfl ?_
        refine H_exit ?_
        refine thenJ_exit ?_
        refine loopJ_exit ?_
        refine blockJ_hit ?_
        refine thenJ_normal ?_
        refine H_seq ?_
        refine H_seq ?_
        refine R0 ?_
        refine xV (e_mv (v := .slice _ _ _) (q0 rfl)) rfl rfl ?_
        refine xV (e_len Try.underlying43 (q0 rfl)) rfl rfl ?_
        refine xV (e_mv (v := .int _ _) (q0 rfl)) rfl rfl ?_
        refine XN ?_
        refine thenJ_normal ?_
        refine H_block ?_
        refine H_loop [11, 47, 48, 49, 50, 51, 52, 53, 54] (fun q : Nat × YA × TY => [(47, .int .i64 q.1)]) (fun q => stY q.2.1 q.2.2 ++ [evRow r11 r12 acc]) (fun q => q.1 ≤ acc.length ∧ q.2.1.sb = sb ∧ q.2.2.plain = (acc.take q.1).foldl tellY (beginSY k)) (fun q => acc.length - q.1) (0, ⟨sb, none, 0, m, g0, k, none, 0, s0, k⟩, ⟨[], [], List.replicate k (-1), [], List.replicate k zSp⟩) ⟨rfl, trivial⟩ (fun w hw => hw) rfl ⟨Nat.zero_le _, rfl, rfl⟩ ?_
        rintro ⟨i, ya, ty⟩ g6 ⟨hi, hsb, hty⟩
        simp only at hi hsb hty
        have hJ := hja i
        rw [← hty] at hJ
        refine H_seq ?_
        refine R0 ?_
        refine xV (e_lt (q0 rfl) (q0 rfl)) rfl rfl ?_
        refine XN ?_
        refine thenJ_normal ?_
        refine H_seq ?_
        refine H_cond rfl (fun hlt2 => ?_) (fun hlt2 => ?_)
        · have hlt2' : i < acc.length := by simpa using hlt2
          obtain ⟨e, he⟩ : ∃ e, acc[i]? = some e := ⟨_, List.getElem?_eq_getElem hlt2'⟩
          have hstep : (acc.take (i + 1)).foldl tellY (beginSY k) = tellY ty.plain e := by rw [take_snoc _ _ _ he, List.foldl_append, ← hty]; rfl
          refine H_know (fun w hw => rowT_at (j := 7) hw rfl (by omega)) fun ⟨rb, hrb⟩ => ?_
          subst hrb
          refine H_skip ?_
          refine thenJ_normal ?_
          refine H_seq ?_
          refine H_block ?_
          refine H_seq ?_
          refine R0 ?_
          refine xV (e_idx _ Try.underlying43 Try.sizeOf50 (q0 rfl) (q0 rfl) (fun _ => ⟨rfl, by omega⟩)) rfl rfl ?_
          refine xV (eS Try.isAgg50 Try.sizeOf50 (q0 rfl)) rfl rfl ?_
          refine X_alloc Try.zeroValue50 rfl fun b11 => ?_
          refine X_st (v := .agg _) rfl rfl Try.sizeOf50 ?_
          refine XN ?_
          refine thenJ_normal ?_
          refine R0 ?_
          refine xV (e_mv (v := .pointer _) (q0 rfl)) rfl rfl ?_
          refine xV (eS Try.isAgg50 Try.sizeOf50 (q0 rfl)) rfl rfl ?_
          rw [← hsb]
          refine X_eff (f_callM (en Try.call41 (ha2 (q0 rfl) (q0 rfl))) (fun w hw => tell_w (a := ya) (t := ty) (L := [_, _]) (Mem.rot (X := [_]) (S := stY ya ty) hw) rfl hJ.wf (by rw [List.length_take]; omega) e (hbikes e (List.mem_of_getElem? he))) rfl (fun _ => rfl) fun y => ?_)
          obtain ⟨⟨ya2, ty2⟩, hy1, hy2⟩ := y
          refine XN ?_
          refine blockJ_normal ?_
          refine thenJ_normal ?_
          refine R0 ?_
          refine xV (e_add (q0 rfl) (q0 rfl) (fun _ => ⟨rfl, by omega, by omega⟩)) rfl rfl ?_
          refine xV (e_mv (v := .int _ _) (q0 rfl)) rfl rfl ?_
          refine XN ?_
          exact loopJ_normal (i + 1, ya2, ty2) (by repeat (first | exact agree_self | exact agree_over | refine agree_upd rfl ?_ | refine agree_updL rfl ?_ | refine agree_over2 rfl ?_)) ⟨rfl, trivial⟩ (fun w hw => Mem.rot (X := [_]) (S := stY ya2 ty2) (hw.pickN 9 [7, 0, 1, 2, 3, 4, 5, 6, 8] (by decide) (by decide)) |>.pickN 9 [0, 1, 2, 3, 4, 5, 6, 8] (by decide) (by decide)) rfl ⟨by show i + 1 ≤ _; omega, hy1, by show ty2.plain = _; rw [hstep]; exact hy2⟩ (by show acc.length - (i + 1) < acc.length - i; omega)
        · have hend : i = acc.length := by simp at hlt2; omega
          subst hend
          rw [List.take_length, ← hst] at hty
          obtain ⟨yb, yrA, yrc, ym, yg, ygc, ypA, ypc, ys0, ysc⟩ := ya
          simp only at hsb
          subst hsb
          have hlen : ty.xs.length ≤ 20 := by
            have h0 : ty.plain.rides.length = ty.xs.length := by simp [TY.plain]
            rw [← h0, hty]; exact hr20
          refine H_exit ?_
          refine thenJ_exit ?_
          refine loopJ_exit ?_
          refine blockJ_hit ?_
          refine thenJ_normal ?_
          refine H_seq ?_
          refine H_mem (fun w hw => hw.pickN 8 [1, 0, 2, 3, 4, 5, 6, 7] (by decide) (by decide)) rfl ?_
          refine R0 ?_
          refine xV (e_mv (v := .pointer _) (q0 rfl)) rfl rfl ?_
          refine xV (e_nilc (q0 rfl)) rfl rfl ?_
          refine xV (e_fld Try.underlying77 rfl Try.sizeOf32 rfl (q0 rfl)) rfl rfl ?_
          refine xV (eL Try.isAgg32 (q0 rfl)) rfl rfl ?_
          refine X_eff (f_callM (en Try.call42 (ha2 (q0 rfl) (q0 rfl))) (fun w hw => sort_w hw rfl hlen) rfl (fun _ => rfl) fun u => ?_)
          obtain ⟨zs, hz⟩ := u
          have hzl : zs.length = ty.xs.length := hz.perm.length_eq
          have hids := hjn.ji.ids
          have hu1 : zs.map (·.r) = byId (storyOf f xs).rides := byId_unique (by rw [← hty]; exact hz.perm.map _) (by
            refine List.pairwise_map.2 (List.pairwise_iff_getElem.2 fun p q hp hq hpq => ?_)
            have := hz.ok p q zs[p] zs[q] (Nat.zero_le _) hpq hq (List.getElem?_eq_getElem hp) (List.getElem?_eq_getElem hq)
            unfold xlt idLt at this
            simp at this
            exact this) hids
          refine XN ?_
          refine thenJ_normal ?_
          refine H_seq ?_
          refine R0 ?_
          refine xV (e_mv (v := .pointer _) (q0 rfl)) rfl rfl ?_
          refine xV (e_nilc (q0 rfl)) rfl rfl ?_
          refine xV (e_fld Try.underlying77 rfl Try.sizeOf32 rfl (q0 rfl)) rfl rfl ?_
          refine xV (eL Try.isAgg32 (q0 rfl)) rfl rfl ?_
          refine xV (e_as (v := .slice _ _ _) (q0 rfl)) rfl rfl ?_
          refine xV (e_as (v := .int _ _) (q0 rfl)) rfl rfl ?_
          refine XN ?_
          refine thenJ_normal ?_
          refine H_ret ?_
          exact ret2 (v := .slice _ _ _) (x := .int _ _) rfl rfl rfl rfl fun w' hw => ⟨⟨(yrA, yrc, zs), hu1⟩, by show Ending.returned (.tuple #[.slice yrA ty.xs.length yrc, _]) = .returned (.tuple #[.slice yrA zs.length yrc, _]); rw [hzl], (Mem.bagPerm (hw.pick [2, 0] (by decide)) (T' := zs.flatMap rdParts) (hz.perm.flatMap_right _)).pick [1, 0] (by decide)⟩

end Go.Proofs.Rid

/-
  Plain functions: what makes a ride right (no program in sight).
-/
namespace Go.Proofs.Rid
open Go.Proofs.Cus

def spOk (s : Spn) : Bool := (decide (0 ≤ s.lo) && decide (s.lo ≤ s.hi)) && decide (s.hi ≤ 4294943999)
def lgOk (g : Lg) : Bool := spOk g.from_ && spOk g.to_
def pzOk (p : Pz) : Bool := spOk p.from_ && spOk p.to_
def headBad (r : Rd) : Bool := ((((decide (r.id < 1) || decide (1000000 < r.id)) || decide (r.rider < 0)) || decide (128 ≤ r.rider)) || !spOk r.start) || !spOk r.end_
def rangedP (r : Rd) : Bool := !headBad r && (r.legs.all lgOk && r.pauses.all pzOk)
def numBad (r : Rd) : Bool := (decide ((r.legs.length : Int) < 1) || decide ((512 : Int) < r.legs.length)) || decide ((512 : Int) < r.pauses.length)
def chainP : Spn → List Lg → Spn → Bool
  | a, [], e => decide (a = e)
  | a, g :: l, e => decide (g.from_ = a) && chainP g.to_ l e
def joinedP (r : Rd) : Bool := !numBad r && chainP r.start r.legs r.end_
/-- the legs' ends in order; the last of an open ride is free -/
def legsOrd (o : Bool) : List Lg → Bool
  | [] => true
  | g :: l => !(decide (g.to_.lo < g.from_.lo) && !(o && l.isEmpty)) && legsOrd o l
def pzOrd (o : Bool) (n : Nat) (e : Int) : Int → List Pz → Bool
  | last, [] => (o || decide ((n : Int) = 0)) || decide (last ≤ e)
  | last, p :: l => if p.from_.lo < last then false else if ((o && l.isEmpty) && decide (p.to_.lo = 0)) = true then true else if p.to_.lo < p.from_.lo then false else pzOrd o n e p.to_.lo l
def orderedP (r : Rd) : Bool := legsOrd r.open_ r.legs && pzOrd r.open_ r.pauses.length r.end_.lo r.start.lo r.pauses
def checkR (r : Rd) : Int :=
  if (!rangedP r) = true then 1 else if (!joinedP r) = true then 3 else if (!orderedP r) = true then 9
  else if (r.open_ && !decide (r.end_ = zSpn)) = true then 12 else if (!(r.open_ == decide (r.wh = 3))) = true then 12 else 0
theorem drop_of {α : Type} {l : List α} {k : Nat} {x : α} (h : l[k]? = some x) : l.drop k = x :: l.drop (k + 1) := by
  obtain ⟨h1, h2⟩ := List.getElem?_eq_some_iff.1 h
  rw [List.drop_eq_getElem_cons h1, h2]
theorem drop_empty {α : Type} {l : List α} {k : Nat} (h : k < l.length) : (l.drop (k + 1)).isEmpty = decide ((k : Int) = (l.length : Int) - 1) := by
  rw [Bool.eq_iff_iff, List.isEmpty_iff, decide_eq_true_eq, List.drop_eq_nil_iff]
  omega

end Go.Proofs.Rid

/-
  The walks: is a ride right (the program's way).
-/
namespace Go.Proofs.Rid
open Go Go.RowKit Go.Proofs.E Go.Proofs.Cus

/-- what a ride's lists read as -/
structure RdAt (w : World) (x : RX) : Prop where
  legs : SlAt w 5 Lg.cells x.a.lA x.r.legs.length x.r.legs
  pauses : SlAt w 4 Pz.cells x.a.pA x.r.pauses.length x.r.pauses
theorem RdAt.mem {w0 w : World} {L : List E.Item} {x : RX} (h : RdAt w0 x) (hm : Mem w0 L w) : RdAt w x := ⟨h.legs.mem hm, h.pauses.mem hm⟩
def RdsAt (w : World) (A : Option Addr) (n : Nat) (xs : List RX) : Prop := SlAt w 13 RX.cells A n xs ∧ ∀ x ∈ xs, RdAt w x
theorem RdsAt.mem {w0 w : World} {L : List E.Item} {A : Option Addr} {n : Nat} {xs : List RX} (h : RdsAt w0 A n xs) (hm : Mem w0 L w) : RdsAt w A n xs := ⟨h.1.mem hm, fun x hx => (h.2 x hx).mem hm⟩
theorem bag_reads {w0 w : World} {L : List E.Item} {xs : List RX} (hw : Mem w0 L w) {k : Nat} (hk : L[k]? = some (rdBag xs)) (hl : ∀ x ∈ xs, x.r.legs.length ≤ 100000 ∧ x.r.pauses.length ≤ 100000) : ∀ x ∈ xs, RdAt w x := fun x hx => by
  have h1 := (hw.front hk).unbag
  have hm : ∀ it ∈ rdParts x, it ∈ xs.flatMap rdParts ++ L.eraseIdx k := fun it hi => List.mem_append.2 (.inl (List.mem_flatMap.2 ⟨x, hx, hi⟩))
  obtain ⟨i, hi⟩ := List.mem_iff_getElem?.1 (hm (lgRow x.a.lA x.a.lc x.r.legs) (by simp [rdParts]))
  obtain ⟨j, hj⟩ := List.mem_iff_getElem?.1 (hm (pzRow x.a.pA x.a.pc x.r.pauses) (by simp [rdParts]))
  have := hl x hx
  exact ⟨slAt_row h1 hi (fun _ => rfl) (by omega), slAt_row h1 hj (fun _ => rfl) (by omega)⟩
theorem rds_items {w0 w : World} {L : List E.Item} {A : Option Addr} {c : Nat} {xs : List RX} (hw : Mem w0 L w) {j k : Nat} (hj : L[j]? = some (rdRow A c xs)) (hk : L[k]? = some (rdBag xs)) (hn : xs.length ≤ 100000) (hl : ∀ x ∈ xs, x.r.legs.length ≤ 100000 ∧ x.r.pauses.length ≤ 100000) : RdsAt w A xs.length xs :=
  ⟨slAt_row hw hj (fun _ => rfl) (by omega), bag_reads hw hk hl⟩

theorem eqSpn (x y : Spn) (w : World) : (Op.equal 23 (.agg x.cells.toArray) (.agg y.cells.toArray)).run Try.prog w = .ok (decide (x = y)) w := by
  have h : (Op.equalIn 10000 23 (.agg x.cells.toArray) (.agg y.cells.toArray)).run Try.prog w = .ok (x.lo == y.lo && (x.hi == y.hi && true)) w :=
    eqS_of w Try.underlying23 (by kernel_rfl) (eqF_cons w (by decide) (run_part_one w Try.isAgg3 rfl) (run_part_one w Try.isAgg3 rfl) (run_equalIn_int w _ _ .i64 .i64 _ _ Try.underlying3) (eqF_cons w (by decide) (run_part_one w Try.isAgg3 rfl) (run_part_one w Try.isAgg3 rfl) (run_equalIn_int w _ _ .i64 .i64 _ _ Try.underlying3) (eqF_nil w)))
  have e : (x.lo == y.lo && (x.hi == y.hi && true)) = decide (x = y) := by
    rw [Bool.eq_iff_iff]
    cases x; cases y
    simp
  rw [← e]; exact h
theorem valid_w (s : Spn) (w : World) : Calls Try.prog 51 #[.agg s.cells.toArray] w fun e w' => e = .returned (.bool (spOk s)) ∧ Bel w w' := by
  refine H_enter Try.func51 rfl Try.ntmps51 rfl ?_
  refine H_seq ?_
  refine R0 ?_
  refine X_box (v := .agg _) rfl rfl fun b1 => ?_
  refine xV (e_as (v := .bool _) (q0 rfl)) rfl rfl ?_
  refine XN ?_
  refine thenJ_normal ?_
  refine H_seq ?_
  refine R0 ?_
  refine xV (e_fld Try.underlying23 rfl Try.sizeOf3 rfl (q0 rfl)) rfl rfl ?_
  refine xV (eL Try.isAgg3 (q0 rfl)) rfl rfl ?_
  refine xV (e_ge (q0 rfl) (q0 rfl)) rfl rfl ?_
  refine xV (e_mv (v := .bool _) (q0 rfl)) rfl rfl ?_
  refine xVT (e_fld Try.underlying23 rfl Try.sizeOf3 rfl (q0 rfl)) rfl rfl rfl rfl ?_
  refine xVT (eL Try.isAgg3 (q1 rfl)) rfl rfl rfl rfl ?_
  refine xVT (e_fld Try.underlying23 rfl Try.sizeOf3 rfl (q0 rfl)) rfl rfl rfl rfl ?_
  refine xVT (eL Try.isAgg3 (q1 rfl)) rfl rfl rfl rfl ?_
  refine xVT (e_le (q1 rfl) (q1 rfl)) rfl rfl rfl rfl ?_
  refine xV (e_and (q0 rfl) rfl (fun h => by first | rfl | (rw [h]; rfl))) rfl rfl ?_
  refine xV (e_mv (v := .bool _) (q0 rfl)) rfl rfl ?_
  refine xVT (e_fld Try.underlying23 rfl Try.sizeOf3 rfl (q0 rfl)) rfl rfl rfl rfl ?_
  refine xVT (eL Try.isAgg3 (q1 rfl)) rfl rfl rfl rfl ?_
  refine xVT (e_le (q1 rfl) (q0 rfl)) rfl rfl rfl rfl ?_
  refine xV (e_and (q0 rfl) rfl (fun h => by first | rfl | (rw [h]; rfl))) rfl rfl ?_
  refine xV (e_as (v := .bool _) (q0 rfl)) rfl rfl ?_
  refine XN ?_
  refine thenJ_normal ?_
  refine H_ret ?_
  exact ret1 (v := .bool _) rfl rfl rfl fun w' hw => ⟨rfl, hw.1⟩
set_option maxHeartbeats 1000000 in
set_option maxRecDepth 20000 in
theorem ranged_w (x : RX) (w : World) (hx : RdAt w x) : Calls Try.prog 32 #[.agg x.cells.toArray] w fun e w' => e = .returned (.bool (rangedP x.r)) ∧ Bel w w' := by
  obtain ⟨r, ⟨lA, lc, pA, pc⟩⟩ := x
  obtain ⟨hlg, hpz⟩ := hx
  simp only at hlg hpz
  have hln := hlg.2.1
  have hpn := hpz.2.1
  refine H_enter Try.func32 rfl Try.ntmps32 rfl ?_
  refine H_seq ?_
  refine R0 ?_
  refine X_box (v := .agg _) rfl rfl fun b1 => ?_
  refine xV (e_as (v := .bool _) (q0 rfl)) rfl rfl ?_
  refine XN ?_
  refine thenJ_normal ?_
  refine H_seq ?_
  refine H_seq ?_
  refine R0 ?_
  refine xV (e_fld Try.underlying27 rfl Try.sizeOf3 rfl (q0 rfl)) rfl rfl ?_
  refine xV (eL Try.isAgg3 (q0 rfl)) rfl rfl ?_
  refine xV (e_lt (q0 rfl) (q0 rfl)) rfl rfl ?_
  refine xV (e_mv (v := .bool _) (q0 rfl)) rfl rfl ?_
  refine xVF (e_fld Try.underlying27 rfl Try.sizeOf3 rfl (q0 rfl)) rfl rfl rfl rfl ?_
  refine xVF (eL Try.isAgg3 (q1 rfl)) rfl rfl rfl rfl ?_
  refine xVF (e_gt (q1 rfl) (q0 rfl)) rfl rfl rfl rfl ?_
  refine xV (e_or (q0 rfl) rfl (fun h => by first | rfl | (rw [h]; rfl))) rfl rfl ?_
  refine xV (e_mv (v := .bool _) (q0 rfl)) rfl rfl ?_
  refine xVF (e_fld Try.underlying27 rfl Try.sizeOf3 rfl (q0 rfl)) rfl rfl rfl rfl ?_
  refine xVF (eL Try.isAgg3 (q1 rfl)) rfl rfl rfl rfl ?_
  refine xVF (e_lt (q1 rfl) (q0 rfl)) rfl rfl rfl rfl ?_
  refine xV (e_or (q0 rfl) rfl (fun h => by first | rfl | (rw [h]; rfl))) rfl rfl ?_
  refine xV (e_mv (v := .bool _) (q0 rfl)) rfl rfl ?_
  refine xVF (e_fld Try.underlying27 rfl Try.sizeOf3 rfl (q0 rfl)) rfl rfl rfl rfl ?_
  refine xVF (eL Try.isAgg3 (q1 rfl)) rfl rfl rfl rfl ?_
  refine xVF (e_ge (q1 rfl) (q0 rfl)) rfl rfl rfl rfl ?_
  refine xV (e_or (q0 rfl) rfl (fun h => by first | rfl | (rw [h]; rfl))) rfl rfl ?_
  refine xV (e_mv (v := .bool _) (q0 rfl)) rfl rfl ?_
  refine xVF (e_fld Try.underlying27 rfl Try.sizeOf23 rfl (q0 rfl)) rfl rfl rfl rfl ?_
  refine xVF (eP Try.isAgg23 Try.sizeOf23 (q1 rfl)) rfl rfl rfl rfl ?_
  refine xCF (en Try.call51 (ha1 (q1 (v := .agg _) rfl))) (fun _ w _ => valid_w r.start w) rfl rfl rfl rfl ?_
  refine xVF (e_not (q1 rfl)) rfl rfl rfl rfl ?_
  refine xV (e_or (q0 rfl) rfl (fun h => by first | rfl | (rw [h]; rfl))) rfl rfl ?_
  refine xV (e_mv (v := .bool _) (q0 rfl)) rfl rfl ?_
  refine xVF (e_fld Try.underlying27 rfl Try.sizeOf23 rfl (q0 rfl)) rfl rfl rfl rfl ?_
  refine xVF (eP Try.isAgg23 Try.sizeOf23 (q1 rfl)) rfl rfl rfl rfl ?_
  refine xCF (en Try.call51 (ha1 (q1 (v := .agg _) rfl))) (fun _ w _ => valid_w r.end_ w) rfl rfl rfl rfl ?_
  refine xVF (e_not (q1 rfl)) rfl rfl rfl rfl ?_
  refine xV (e_or (q0 rfl) rfl (fun h => by first | rfl | (rw [h]; rfl))) rfl rfl ?_
  refine XN ?_
  refine thenJ_normal ?_
  refine H_cond rfl (fun h1 => ?_) (fun h1 => ?_)
  · refine H_seq ?_
    refine R0 ?_
    refine xV (e_as (v := .bool _) (q0 rfl)) rfl rfl ?_
    refine XN ?_
    refine thenJ_normal ?_
    refine H_ret ?_
    refine thenJ_ret ?_
    exact ret1 (v := .bool _) rfl rfl rfl fun w' hw => ⟨ret_bool (by unfold rangedP; rw [show headBad r = true from h1]; rfl), hw.1⟩
  · have hrg : rangedP r = (r.legs.all lgOk && r.pauses.all pzOk) := by unfold rangedP; rw [show headBad r = false from h1]; rfl
    rw [hrg]
    refine H_skip ?_
    refine thenJ_normal ?_
    refine H_seq ?_
    refine H_seq ?_
    refine R0 ?_
    refine xV (e_fld Try.underlying27 rfl Try.sizeOf24 rfl (q0 rfl)) rfl rfl ?_
    refine xV (eL Try.isAgg24 (q0 rfl)) rfl rfl ?_
    refine xV (e_len Try.underlying24 (q0 rfl)) rfl rfl ?_
    refine xV (e_mv (v := .int _ _) (q0 rfl)) rfl rfl ?_
    refine XN ?_
    refine thenJ_normal ?_
    refine H_block ?_
    refine H_loop [2, 4, 40, 41, 42, 43, 44, 45, 46, 47, 48, 49, 50, 51, 52, 53, 54] (fun k : Nat => [(40, .int .i64 k)]) (fun _ => [box b1 27 (RX.cells ⟨r, ⟨lA, lc, pA, pc⟩⟩)]) (fun k => k ≤ r.legs.length ∧ r.legs.all lgOk = (r.legs.drop k).all lgOk) (fun k => r.legs.length - k) 0 ⟨rfl, trivial⟩ (fun w hw => hw) rfl ⟨Nat.zero_le _, rfl⟩ ?_
    rintro k g ⟨hk, hall⟩
    refine H_seq ?_
    refine R0 ?_
    refine xV (e_lt (q0 rfl) (q0 rfl)) rfl rfl ?_
    refine XN ?_
    refine thenJ_normal ?_
    refine H_seq ?_
    refine H_cond rfl (fun hlt => ?_) (fun hlt => ?_)
    · have hlt' : k < r.legs.length := by simpa using hlt
      obtain ⟨b, off, y, rfl, hbl, hy, hry⟩ := hlg.at_ hlt'
      rw [drop_of hy, List.all_cons] at hall
      refine H_skip ?_
      refine thenJ_normal ?_
      refine H_seq ?_
      refine H_block ?_
      refine H_seq ?_
      refine R0 ?_
      refine xV (e_idx _ Try.underlying24 Try.sizeOf52 (q0 rfl) (q0 rfl) (fun _ => ⟨rfl, by omega⟩)) rfl rfl ?_
      refine xV (eS Try.isAgg52 Try.sizeOf52 (q0 rfl)) rfl rfl ?_
      refine X_alloc Try.zeroValue52 rfl fun b4 => ?_
      refine X_st (v := .agg _) rfl rfl Try.sizeOf52 ?_
      refine XN ?_
      refine thenJ_normal ?_
      refine H_seq ?_
      refine R0 ?_
      refine xV (e_fld Try.underlying52 rfl Try.sizeOf23 rfl (q0 rfl)) rfl rfl ?_
      refine xV (eP Try.isAgg23 Try.sizeOf23 (q0 rfl)) rfl rfl ?_
      refine xC (en Try.call51 (ha1 (q0 rfl))) (fun _ w _ => valid_w y.from_ w) rfl rfl ?_
      refine xV (e_not (q0 rfl)) rfl rfl ?_
      refine xV (e_mv (v := .bool _) (q0 rfl)) rfl rfl ?_
      refine xVF (e_fld Try.underlying52 rfl Try.sizeOf23 rfl (q0 rfl)) rfl rfl rfl rfl ?_
      refine xVF (eP Try.isAgg23 Try.sizeOf23 (q1 rfl)) rfl rfl rfl rfl ?_
      refine xCF (en Try.call51 (ha1 (q1 (v := .agg _) rfl))) (fun _ w _ => valid_w y.to_ w) rfl rfl rfl rfl ?_
      refine xVF (e_not (q1 rfl)) rfl rfl rfl rfl ?_
      refine xV (e_or (q0 rfl) rfl (fun h => by first | rfl | (rw [h]; rfl))) rfl rfl ?_
      refine XN ?_
      refine thenJ_normal ?_
      refine H_cond rfl (fun hb => ?_) (fun hb => ?_)
      · have hy0 : lgOk y = false := by unfold lgOk; revert hb; cases spOk y.from_ <;> cases spOk y.to_ <;> simp
        rw [hall, hy0]
        refine H_seq ?_
        refine R0 ?_
        refine xV (e_as (v := .bool _) (q0 rfl)) rfl rfl ?_
        refine XN ?_
        refine thenJ_normal ?_
        refine H_ret ?_
        refine blockJ_ret ?_
        refine thenJ_ret ?_
        refine loopJ_ret ?_
        refine blockJ_ret ?_
        refine thenJ_ret ?_
        exact ret1 (v := .bool _) rfl rfl rfl fun w' hw => ⟨rfl, hw.1⟩
      · have hy1 : lgOk y = true := by unfold lgOk; revert hb; cases spOk y.from_ <;> cases spOk y.to_ <;> simp
        rw [hy1, Bool.true_and] at hall
        refine H_skip ?_
        refine blockJ_normal ?_
        refine thenJ_normal ?_
        refine R0 ?_
        refine xV (e_add (q0 rfl) (q0 rfl) (fun _ => ⟨rfl, by omega, by omega⟩)) rfl rfl ?_
        refine xV (e_mv (v := .int _ _) (q0 rfl)) rfl rfl ?_
        refine XN ?_
        exact loopJ_normal (k + 1) (by repeat (first | exact agree_self | exact agree_over | refine agree_upd rfl ?_ | refine agree_updL rfl ?_ | refine agree_over2 rfl ?_)) ⟨rfl, trivial⟩ (fun w hw => hw.tail) rfl ⟨by omega, hall⟩ (by show r.legs.length - (k + 1) < r.legs.length - k; omega)
    · have hend : k = r.legs.length := by simp at hlt; omega
      rw [hall, hend, List.drop_length, List.all_nil, Bool.true_and]
      refine H_exit ?_
      refine thenJ_exit ?_
      refine loopJ_exit ?_
      refine blockJ_hit ?_
      refine thenJ_normal ?_
      refine H_seq ?_
      refine H_seq ?_
      refine R0 ?_
      refine xV (e_fld Try.underlying27 rfl Try.sizeOf25 rfl (q0 rfl)) rfl rfl ?_
      refine xV (eL Try.isAgg25 (q0 rfl)) rfl rfl ?_
      refine xV (e_len Try.underlying25 (q0 rfl)) rfl rfl ?_
      refine xV (e_mv (v := .int _ _) (q0 rfl)) rfl rfl ?_
      refine XN ?_
      refine thenJ_normal ?_
      refine H_block ?_
      refine H_loop [2, 6, 58, 59, 60, 61, 62, 63, 64, 65, 66, 67, 68, 69, 70, 71, 72] (fun k : Nat => [(58, .int .i64 k)]) (fun _ => [box b1 27 (RX.cells ⟨r, ⟨lA, lc, pA, pc⟩⟩)]) (fun k => k ≤ r.pauses.length ∧ r.pauses.all pzOk = (r.pauses.drop k).all pzOk) (fun k => r.pauses.length - k) 0 ⟨rfl, trivial⟩ (fun w hw => hw) rfl ⟨Nat.zero_le _, rfl⟩ ?_
      rintro q g2 ⟨hq, hall2⟩
      refine H_seq ?_
      refine R0 ?_
      refine xV (e_lt (q0 rfl) (q0 rfl)) rfl rfl ?_
      refine XN ?_
      refine thenJ_normal ?_
      refine H_seq ?_
      refine H_cond rfl (fun hlt2 => ?_) (fun hlt2 => ?_)
      · have hlt2' : q < r.pauses.length := by simpa using hlt2
        obtain ⟨b, off, y, rfl, hbl, hy, hry⟩ := hpz.at_ hlt2'
        rw [drop_of hy, List.all_cons] at hall2
        refine H_skip ?_
        refine thenJ_normal ?_
        refine H_seq ?_
        refine H_block ?_
        refine H_seq ?_
        refine R0 ?_
        refine xV (e_idx _ Try.underlying25 Try.sizeOf71 (q0 rfl) (q0 rfl) (fun _ => ⟨rfl, by omega⟩)) rfl rfl ?_
        refine xV (eS Try.isAgg71 Try.sizeOf71 (q0 rfl)) rfl rfl ?_
        refine X_alloc Try.zeroValue71 rfl fun b6 => ?_
        refine X_st (v := .agg _) rfl rfl Try.sizeOf71 ?_
        refine XN ?_
        refine thenJ_normal ?_
        refine H_seq ?_
        refine R0 ?_
        refine xV (e_fld Try.underlying71 rfl Try.sizeOf23 rfl (q0 rfl)) rfl rfl ?_
        refine xV (eP Try.isAgg23 Try.sizeOf23 (q0 rfl)) rfl rfl ?_
        refine xC (en Try.call51 (ha1 (q0 rfl))) (fun _ w _ => valid_w y.from_ w) rfl rfl ?_
        refine xV (e_not (q0 rfl)) rfl rfl ?_
        refine xV (e_mv (v := .bool _) (q0 rfl)) rfl rfl ?_
        refine xVF (e_fld Try.underlying71 rfl Try.sizeOf23 rfl (q0 rfl)) rfl rfl rfl rfl ?_
        refine xVF (eP Try.isAgg23 Try.sizeOf23 (q1 rfl)) rfl rfl rfl rfl ?_
        refine xCF (en Try.call51 (ha1 (q1 (v := .agg _) rfl))) (fun _ w _ => valid_w y.to_ w) rfl rfl rfl rfl ?_
        refine xVF (e_not (q1 rfl)) rfl rfl rfl rfl ?_
        refine xV (e_or (q0 rfl) rfl (fun h => by first | rfl | (rw [h]; rfl))) rfl rfl ?_
        refine XN ?_
        refine thenJ_normal ?_
        refine H_cond rfl (fun hb => ?_) (fun hb => ?_)
        · have hy0 : pzOk y = false := by unfold pzOk; revert hb; cases spOk y.from_ <;> cases spOk y.to_ <;> simp
          rw [hall2, hy0]
          refine H_seq ?_
          refine R0 ?_
          refine xV (e_as (v := .bool _) (q0 rfl)) rfl rfl ?_
          refine XN ?_
          refine thenJ_normal ?_
          refine H_ret ?_
          refine blockJ_ret ?_
          refine thenJ_ret ?_
          refine loopJ_ret ?_
          refine blockJ_ret ?_
          refine thenJ_ret ?_
          exact ret1 (v := .bool _) rfl rfl rfl fun w' hw => ⟨rfl, hw.1⟩
        · have hy1 : pzOk y = true := by unfold pzOk; revert hb; cases spOk y.from_ <;> cases spOk y.to_ <;> simp
          rw [hy1, Bool.true_and] at hall2
          refine H_skip ?_
          refine blockJ_normal ?_
          refine thenJ_normal ?_
          refine R0 ?_
          refine xV (e_add (q0 rfl) (q0 rfl) (fun _ => ⟨rfl, by omega, by omega⟩)) rfl rfl ?_
          refine xV (e_mv (v := .int _ _) (q0 rfl)) rfl rfl ?_
          refine XN ?_
          exact loopJ_normal (q + 1) (by repeat (first | exact agree_self | exact agree_over | refine agree_upd rfl ?_ | refine agree_updL rfl ?_ | refine agree_over2 rfl ?_)) ⟨rfl, trivial⟩ (fun w hw => hw.tail) rfl ⟨by omega, hall2⟩ (by show r.pauses.length - (q + 1) < r.pauses.length - q; omega)
      · have hend2 : q = r.pauses.length := by simp at hlt2; omega
        rw [hall2, hend2, List.drop_length, List.all_nil]
        refine H_exit ?_
        refine thenJ_exit ?_
        refine loopJ_exit ?_
        refine blockJ_hit ?_
        refine thenJ_normal ?_
        refine H_seq ?_
        refine R0 ?_
        refine xV (e_as (v := .bool _) (q0 rfl)) rfl rfl ?_
        refine XN ?_
        refine thenJ_normal ?_
        refine H_ret ?_
        exact ret1 (v := .bool _) rfl rfl rfl fun w' hw => ⟨rfl, hw.1⟩
set_option maxRecDepth 20000 in
theorem joined_w (x : RX) (w : World) (hx : RdAt w x) : Calls Try.prog 33 #[.agg x.cells.toArray] w fun e w' => e = .returned (.bool (joinedP x.r)) ∧ Bel w w' := by
  obtain ⟨r, ⟨lA, lc, pA, pc⟩⟩ := x
  obtain ⟨hlg, hpz⟩ := hx
  simp only at hlg hpz
  have hln := hlg.2.1
  have hpn := hpz.2.1
  refine H_enter Try.func33 rfl Try.ntmps33 rfl ?_
  refine H_seq ?_
  refine R0 ?_
  refine X_box (v := .agg _) rfl rfl fun b1 => ?_
  refine xV (e_as (v := .bool _) (q0 rfl)) rfl rfl ?_
  refine XN ?_
  refine thenJ_normal ?_
  refine H_seq ?_
  refine H_seq ?_
  refine R0 ?_
  refine xV (e_fld Try.underlying27 rfl Try.sizeOf24 rfl (q0 rfl)) rfl rfl ?_
  refine xV (eL Try.isAgg24 (q0 rfl)) rfl rfl ?_
  refine xV (e_len Try.underlying24 (q0 rfl)) rfl rfl ?_
  refine xV (e_lt (q0 rfl) (q0 rfl)) rfl rfl ?_
  refine xV (e_mv (v := .bool _) (q0 rfl)) rfl rfl ?_
  refine xVF (e_fld Try.underlying27 rfl Try.sizeOf24 rfl (q0 rfl)) rfl rfl rfl rfl ?_
  refine xVF (eL Try.isAgg24 (q1 rfl)) rfl rfl rfl rfl ?_
  refine xVF (e_len Try.underlying24 (q1 rfl)) rfl rfl rfl rfl ?_
  refine xVF (e_gt (q1 rfl) (q0 rfl)) rfl rfl rfl rfl ?_
  refine xV (e_or (q0 rfl) rfl (fun h => by first | rfl | (rw [h]; rfl))) rfl rfl ?_
  refine xV (e_mv (v := .bool _) (q0 rfl)) rfl rfl ?_
  refine xVF (e_fld Try.underlying27 rfl Try.sizeOf25 rfl (q0 rfl)) rfl rfl rfl rfl ?_
  refine xVF (eL Try.isAgg25 (q1 rfl)) rfl rfl rfl rfl ?_
  refine xVF (e_len Try.underlying25 (q1 rfl)) rfl rfl rfl rfl ?_
  refine xVF (e_gt (q1 rfl) (q0 rfl)) rfl rfl rfl rfl ?_
  refine xV (e_or (q0 rfl) rfl (fun h => by first | rfl | (rw [h]; rfl))) rfl rfl ?_
  refine XN ?_
  refine thenJ_normal ?_
  refine H_cond rfl (fun h1 => ?_) (fun h1 => ?_)
  · refine H_seq ?_
    refine R0 ?_
    refine xV (e_as (v := .bool _) (q0 rfl)) rfl rfl ?_
    refine XN ?_
    refine thenJ_normal ?_
    refine H_ret ?_
    refine thenJ_ret ?_
    exact ret1 (v := .bool _) rfl rfl rfl fun w' hw => ⟨ret_bool (by unfold joinedP; rw [show numBad r = true from h1]; rfl), hw.1⟩
  · have hj : joinedP r = chainP r.start r.legs r.end_ := by unfold joinedP; rw [show numBad r = false from h1]; rfl
    rw [hj]
    refine H_skip ?_
    refine thenJ_normal ?_
    refine H_seq ?_
    refine R0 ?_
    refine xV (e_fld Try.underlying27 rfl Try.sizeOf23 rfl (q0 rfl)) rfl rfl ?_
    refine xV (eP Try.isAgg23 Try.sizeOf23 (q0 rfl)) rfl rfl ?_
    refine X_alloc Try.zeroValue23 rfl fun b3 => ?_
    refine X_st (v := .agg _) rfl rfl Try.sizeOf23 ?_
    refine XN ?_
    refine thenJ_normal ?_
    refine H_seq ?_
    refine H_seq ?_
    refine R0 ?_
    refine xV (e_fld Try.underlying27 rfl Try.sizeOf24 rfl (q0 rfl)) rfl rfl ?_
    refine xV (eL Try.isAgg24 (q0 rfl)) rfl rfl ?_
    refine xV (e_len Try.underlying24 (q0 rfl)) rfl rfl ?_
    refine xV (e_mv (v := .int _ _) (q0 rfl)) rfl rfl ?_
    refine XN ?_
    refine thenJ_normal ?_
    refine H_block ?_
    refine H_loop [2, 5, 27, 28, 29, 30, 31, 32, 33, 34, 35, 36, 37] (fun q : Nat × Spn => [(27, .int .i64 q.1)]) (fun q => [box b3 23 q.2.cells, box b1 27 (RX.cells ⟨r, ⟨lA, lc, pA, pc⟩⟩)]) (fun q => q.1 ≤ r.legs.length ∧ chainP r.start r.legs r.end_ = chainP q.2 (r.legs.drop q.1) r.end_) (fun q => r.legs.length - q.1) (0, r.start) ⟨rfl, trivial⟩ (fun w hw => hw) rfl ⟨Nat.zero_le _, rfl⟩ ?_
    rintro ⟨k, at_⟩ g ⟨hk, hall⟩
    simp only at hk hall
    refine H_seq ?_
    refine R0 ?_
    refine xV (e_lt (q0 rfl) (q0 rfl)) rfl rfl ?_
    refine XN ?_
    refine thenJ_normal ?_
    refine H_seq ?_
    refine H_cond rfl (fun hlt => ?_) (fun hlt => ?_)
    · have hlt' : k < r.legs.length := by simpa using hlt
      obtain ⟨b, off, y, rfl, hbl, hy, hry⟩ := hlg.at_ hlt'
      rw [drop_of hy] at hall
      refine H_skip ?_
      refine thenJ_normal ?_
      refine H_seq ?_
      refine H_block ?_
      refine H_seq ?_
      refine R0 ?_
      refine xV (e_idx _ Try.underlying24 Try.sizeOf52 (q0 rfl) (q0 rfl) (fun _ => ⟨rfl, by omega⟩)) rfl rfl ?_
      refine xV (eS Try.isAgg52 Try.sizeOf52 (q0 rfl)) rfl rfl ?_
      refine X_alloc Try.zeroValue52 rfl fun b5 => ?_
      refine X_st (v := .agg _) rfl rfl Try.sizeOf52 ?_
      refine XN ?_
      refine thenJ_normal ?_
      refine H_seq ?_
      refine H_seq ?_
      refine R0 ?_
      refine xV (e_fld Try.underlying52 rfl Try.sizeOf23 rfl (q0 rfl)) rfl rfl ?_
      refine xV (eP Try.isAgg23 Try.sizeOf23 (q0 rfl)) rfl rfl ?_
      refine xV (eS Try.isAgg23 Try.sizeOf23 (q0 rfl)) rfl rfl ?_
      refine xV (e_neS (fun w => eqSpn y.from_ at_ w) (by kernel_rfl) (q0 rfl) (q0 rfl)) rfl rfl ?_
      refine XN ?_
      refine thenJ_normal ?_
      refine H_cond rfl (fun hb => ?_) (fun hb => ?_)
      · have hne : decide (y.from_ = at_) = false := by simpa using hb
        have hfin : chainP at_ (y :: r.legs.drop (k + 1)) r.end_ = false := by simp only [chainP, hne, Bool.false_and]
        rw [hall, hfin]
        refine H_seq ?_
        refine R0 ?_
        refine xV (e_as (v := .bool _) (q0 rfl)) rfl rfl ?_
        refine XN ?_
        refine thenJ_normal ?_
        refine H_ret ?_
        refine thenJ_ret ?_
        refine blockJ_ret ?_
        refine thenJ_ret ?_
        refine loopJ_ret ?_
        refine blockJ_ret ?_
        refine thenJ_ret ?_
        exact ret1 (v := .bool _) rfl rfl rfl fun w' hw => ⟨rfl, hw.1⟩
      · have heq : decide (y.from_ = at_) = true := by simpa using hb
        have hfin : chainP at_ (y :: r.legs.drop (k + 1)) r.end_ = chainP y.to_ (r.legs.drop (k + 1)) r.end_ := by simp only [chainP, heq, Bool.true_and]
        rw [hfin] at hall
        refine H_skip ?_
        refine thenJ_normal ?_
        refine R0 ?_
        refine xV (e_fld Try.underlying52 rfl Try.sizeOf23 rfl (q0 rfl)) rfl rfl ?_
        refine xV (eP Try.isAgg23 Try.sizeOf23 (q0 rfl)) rfl rfl ?_
        refine X_st (v := .agg _) rfl rfl Try.sizeOf23 ?_
        refine XN ?_
        refine blockJ_normal ?_
        refine thenJ_normal ?_
        refine R0 ?_
        refine xV (e_add (q0 rfl) (q0 rfl) (fun _ => ⟨rfl, by omega, by omega⟩)) rfl rfl ?_
        refine xV (e_mv (v := .int _ _) (q0 rfl)) rfl rfl ?_
        refine XN ?_
        exact loopJ_normal (k + 1, y.to_) (by repeat (first | exact agree_self | exact agree_over | refine agree_upd rfl ?_ | refine agree_updL rfl ?_ | refine agree_over2 rfl ?_)) ⟨rfl, trivial⟩ (fun w hw => hw.tail) rfl ⟨by show k + 1 ≤ _; omega, hall⟩ (by show r.legs.length - (k + 1) < r.legs.length - k; omega)
    · have hend : k = r.legs.length := by simp at hlt; omega
      rw [hend, List.drop_length] at hall
      rw [hall]
      refine H_exit ?_
      refine thenJ_exit ?_
      refine loopJ_exit ?_
      refine blockJ_hit ?_
      refine thenJ_normal ?_
      refine H_seq ?_
      refine R0 ?_
      refine xV (eS Try.isAgg23 Try.sizeOf23 (q0 rfl)) rfl rfl ?_
      refine xV (e_fld Try.underlying27 rfl Try.sizeOf23 rfl (q0 rfl)) rfl rfl ?_
      refine xV (eP Try.isAgg23 Try.sizeOf23 (q0 rfl)) rfl rfl ?_
      refine xV (e_eqS (fun w => eqSpn at_ r.end_ w) (by kernel_rfl) (q0 rfl) (q0 rfl)) rfl rfl ?_
      refine xV (e_as (v := .bool _) (q0 rfl)) rfl rfl ?_
      refine XN ?_
      refine thenJ_normal ?_
      refine H_ret ?_
      exact ret1 (v := .bool _) rfl rfl rfl fun w' hw => ⟨rfl, hw.1⟩
set_option maxHeartbeats 1000000 in
set_option maxRecDepth 20000 in
theorem ordered_w (x : RX) (w : World) (hx : RdAt w x) (hl : x.r.legs.length ≤ 1000000) (hp : x.r.pauses.length ≤ 1000000) : Calls Try.prog 34 #[.agg x.cells.toArray] w fun e w' => e = .returned (.bool (orderedP x.r)) ∧ Bel w w' := by
  obtain ⟨r, ⟨lA, lc, pA, pc⟩⟩ := x
  obtain ⟨hlg, hpz⟩ := hx
  simp only at hlg hpz hl hp
  refine H_enter Try.func34 rfl Try.ntmps34 rfl ?_
  refine H_seq ?_
  refine R0 ?_
  refine X_box (v := .agg _) rfl rfl fun b1 => ?_
  refine xV (e_as (v := .bool _) (q0 rfl)) rfl rfl ?_
  refine XN ?_
  refine thenJ_normal ?_
  refine H_seq ?_
  refine H_seq ?_
  refine R0 ?_
  refine xV (e_fld Try.underlying27 rfl Try.sizeOf24 rfl (q0 rfl)) rfl rfl ?_
  refine xV (eL Try.isAgg24 (q0 rfl)) rfl rfl ?_
  refine xV (e_len Try.underlying24 (q0 rfl)) rfl rfl ?_
  refine xV (e_mv (v := .int _ _) (q0 rfl)) rfl rfl ?_
  refine XN ?_
  refine thenJ_normal ?_
  refine H_block ?_
  refine H_loop [2, 3, 4, 11, 12, 13, 14, 15, 16, 17, 18, 19, 20, 21, 22, 23, 24, 25, 26, 27, 28, 29, 30, 31, 32, 33, 34, 35, 36] (fun k : Nat => [(11, .int .i64 k)]) (fun _ => [box b1 27 (RX.cells ⟨r, ⟨lA, lc, pA, pc⟩⟩)]) (fun k => k ≤ r.legs.length ∧ legsOrd r.open_ r.legs = legsOrd r.open_ (r.legs.drop k)) (fun k => r.legs.length - k) 0 ⟨rfl, trivial⟩ (fun w hw => hw) rfl ⟨Nat.zero_le _, rfl⟩ ?_
  rintro k g ⟨hk, hall⟩
  refine H_seq ?_
  refine R0 ?_
  refine xV (e_lt (q0 rfl) (q0 rfl)) rfl rfl ?_
  refine XN ?_
  refine thenJ_normal ?_
  refine H_seq ?_
  refine H_cond rfl (fun hlt => ?_) (fun hlt => ?_)
  · have hlt' : k < r.legs.length := by simpa using hlt
    obtain ⟨b, off, y, rfl, hbl, hy, hry⟩ := hlg.at_ hlt'
    rw [drop_of hy] at hall
    have hst : legsOrd r.open_ (y :: r.legs.drop (k + 1)) = (!(decide (y.to_.lo < y.from_.lo) && !(r.open_ && decide ((k : Int) = (r.legs.length : Int) - 1))) && legsOrd r.open_ (r.legs.drop (k + 1))) := by simp only [legsOrd, drop_empty hlt']
    rw [hst] at hall
    refine H_skip ?_
    refine thenJ_normal ?_
    refine H_seq ?_
    refine H_block ?_
    refine H_seq ?_
    refine R0 ?_
    refine xV (e_mv (v := .int _ _) (q0 rfl)) rfl rfl ?_
    refine xV (e_idx _ Try.underlying24 Try.sizeOf52 (q0 rfl) (q0 rfl) (fun _ => ⟨rfl, by omega⟩)) rfl rfl ?_
    refine xV (eS Try.isAgg52 Try.sizeOf52 (q0 rfl)) rfl rfl ?_
    refine X_alloc Try.zeroValue52 rfl fun b4 => ?_
    refine xV (e_as (v := .int _ _) (q0 rfl)) rfl rfl ?_
    refine X_st (v := .agg _) rfl rfl Try.sizeOf52 ?_
    refine XN ?_
    refine thenJ_normal ?_
    refine H_seq ?_
    refine R0 ?_
    refine xV (e_fld Try.underlying52 rfl Try.sizeOf23 rfl (q0 rfl)) rfl rfl ?_
    refine xV (e_fld Try.underlying23 rfl Try.sizeOf3 rfl (q0 rfl)) rfl rfl ?_
    refine xV (eL Try.isAgg3 (q0 rfl)) rfl rfl ?_
    refine xV (e_fld Try.underlying52 rfl Try.sizeOf23 rfl (q0 rfl)) rfl rfl ?_
    refine xV (e_fld Try.underlying23 rfl Try.sizeOf3 rfl (q0 rfl)) rfl rfl ?_
    refine xV (eL Try.isAgg3 (q0 rfl)) rfl rfl ?_
    refine xV (e_gt (q0 rfl) (q0 rfl)) rfl rfl ?_
    refine xV (e_mv (v := .bool _) (q0 rfl)) rfl rfl ?_
    refine xVT (e_fld Try.underlying27 rfl Try.sizeOf4 rfl (q0 rfl)) rfl rfl rfl rfl ?_
    refine xVT (eL Try.isAgg4 (q1 rfl)) rfl rfl rfl rfl ?_
    refine xVT (e_mv (v := .bool _) (q1 rfl)) rfl rfl rfl rfl ?_
    refine xVT2 (e_mv (v := .int _ _) (q0 rfl)) rfl rfl rfl rfl ?_
    refine xVT2 (e_fld Try.underlying27 rfl Try.sizeOf24 rfl (q0 rfl)) rfl rfl rfl rfl ?_
    refine xVT2 (eL Try.isAgg24 (q1 rfl)) rfl rfl rfl rfl ?_
    refine xVT2 (e_len Try.underlying24 (q1 rfl)) rfl rfl rfl rfl ?_
    refine xVT2 (e_sub (q1 rfl) (q0 rfl) (fun _ => ⟨rfl, by simp only; omega, by simp only; omega⟩)) rfl rfl rfl rfl ?_
    refine xVT2 (e_eq (q1 rfl) (q1 rfl)) rfl rfl rfl rfl ?_
    refine xVT (e_and (q1 rfl) rfl (fun h => by first | rfl | (rw [h]; rfl))) rfl rfl rfl rfl ?_
    refine xVT (e_not (q1 rfl)) rfl rfl rfl rfl ?_
    refine xV (e_and (q0 rfl) rfl (fun h => by first | rfl | (rw [h]; rfl))) rfl rfl ?_
    refine XN ?_
    refine thenJ_normal ?_
    refine H_cond rfl (fun hb => ?_) (fun hb => ?_)
    · have hord : orderedP r = false := by
        unfold orderedP
        rw [hall, show (decide (y.to_.lo < y.from_.lo) && !(r.open_ && decide ((k : Int) = (r.legs.length : Int) - 1))) = true from hb]
        rfl
      rw [hord]
      refine H_seq ?_
      refine R0 ?_
      refine xV (e_as (v := .bool _) (q0 rfl)) rfl rfl ?_
      refine XN ?_
      refine thenJ_normal ?_
      refine H_ret ?_
      refine blockJ_ret ?_
      refine thenJ_ret ?_
      refine loopJ_ret ?_
      refine blockJ_ret ?_
      refine thenJ_ret ?_
      exact ret1 (v := .bool _) rfl rfl rfl fun w' hw => ⟨rfl, hw.1⟩
    · rw [show (decide (y.to_.lo < y.from_.lo) && !(r.open_ && decide ((k : Int) = (r.legs.length : Int) - 1))) = false from hb, Bool.not_false, Bool.true_and] at hall
      refine H_skip ?_
      refine blockJ_normal ?_
      refine thenJ_normal ?_
      refine R0 ?_
      refine xV (e_add (q0 rfl) (q0 rfl) (fun _ => ⟨rfl, by omega, by omega⟩)) rfl rfl ?_
      refine xV (e_mv (v := .int _ _) (q0 rfl)) rfl rfl ?_
      refine XN ?_
      exact loopJ_normal (k + 1) (by repeat (first | exact agree_self | exact agree_over | refine agree_upd rfl ?_ | refine agree_updL rfl ?_ | refine agree_over2 rfl ?_)) ⟨rfl, trivial⟩ (fun w hw => hw.tail) rfl ⟨by omega, hall⟩ (by show r.legs.length - (k + 1) < r.legs.length - k; omega)
  · have hend : k = r.legs.length := by simp at hlt; omega
    rw [hend, List.drop_length] at hall
    have hord : orderedP r = pzOrd r.open_ r.pauses.length r.end_.lo r.start.lo r.pauses := by unfold orderedP; rw [hall]; rfl
    rw [hord]
    refine H_exit ?_
    refine thenJ_exit ?_
    refine loopJ_exit ?_
    refine blockJ_hit ?_
    refine thenJ_normal ?_
    refine H_seq ?_
    refine R0 ?_
    refine xV (e_fld Try.underlying27 rfl Try.sizeOf23 rfl (q0 rfl)) rfl rfl ?_
    refine xV (e_fld Try.underlying23 rfl Try.sizeOf3 rfl (q0 rfl)) rfl rfl ?_
    refine xV (eL Try.isAgg3 (q0 rfl)) rfl rfl ?_
    refine xV (e_as (v := .int _ _) (q0 rfl)) rfl rfl ?_
    refine XN ?_
    refine thenJ_normal ?_
    refine H_seq ?_
    refine H_seq ?_
    refine R0 ?_
    refine xV (e_fld Try.underlying27 rfl Try.sizeOf25 rfl (q0 rfl)) rfl rfl ?_
    refine xV (eL Try.isAgg25 (q0 rfl)) rfl rfl ?_
    refine xV (e_len Try.underlying25 (q0 rfl)) rfl rfl ?_
    refine xV (e_mv (v := .int _ _) (q0 rfl)) rfl rfl ?_
    refine XN ?_
    refine thenJ_normal ?_
    refine H_block ?_
    refine H_loop [2, 5, 6, 7, 43, 44, 45, 46, 47, 48, 49, 50, 51, 52, 53, 54, 55, 56, 57, 58, 59, 60, 61, 62, 63, 64, 65, 66, 67, 68, 69, 70, 71, 72, 73, 74, 75, 76, 77, 78, 79, 80] (fun q : Nat × Int => [(43, .int .i64 q.1), (5, .int .i64 q.2)]) (fun _ => [box b1 27 (RX.cells ⟨r, ⟨lA, lc, pA, pc⟩⟩)]) (fun q => q.1 ≤ r.pauses.length ∧ pzOrd r.open_ r.pauses.length r.end_.lo r.start.lo r.pauses = pzOrd r.open_ r.pauses.length r.end_.lo q.2 (r.pauses.drop q.1)) (fun q => r.pauses.length - q.1) (0, r.start.lo) ⟨rfl, rfl, trivial⟩ (fun w hw => hw) rfl ⟨Nat.zero_le _, rfl⟩ ?_
    rintro ⟨q, last⟩ g2 ⟨hq, hall2⟩
    simp only at hq hall2
    refine H_seq ?_
    refine R0 ?_
    refine xV (e_lt (q0 rfl) (q0 rfl)) rfl rfl ?_
    refine XN ?_
    refine thenJ_normal ?_
    refine H_seq ?_
    refine H_cond rfl (fun hlt2 => ?_) (fun hlt2 => ?_)
    · have hlt2' : q < r.pauses.length := by simpa using hlt2
      obtain ⟨b, off, y, rfl, hbl, hy, hry⟩ := hpz.at_ hlt2'
      rw [drop_of hy] at hall2
      have hem := drop_empty hlt2'
      simp only [pzOrd, hem] at hall2
      refine H_skip ?_
      refine thenJ_normal ?_
      refine H_seq ?_
      refine H_block ?_
      refine H_seq ?_
      refine R0 ?_
      refine xV (e_mv (v := .int _ _) (q0 rfl)) rfl rfl ?_
      refine xV (e_idx _ Try.underlying25 Try.sizeOf71 (q0 rfl) (q0 rfl) (fun _ => ⟨rfl, by omega⟩)) rfl rfl ?_
      refine xV (eS Try.isAgg71 Try.sizeOf71 (q0 rfl)) rfl rfl ?_
      refine X_alloc Try.zeroValue71 rfl fun b7 => ?_
      refine xV (e_as (v := .int _ _) (q0 rfl)) rfl rfl ?_
      refine X_st (v := .agg _) rfl rfl Try.sizeOf71 ?_
      refine XN ?_
      refine thenJ_normal ?_
      refine H_seq ?_
      refine H_seq ?_
      refine R0 ?_
      refine xV (e_fld Try.underlying71 rfl Try.sizeOf23 rfl (q0 rfl)) rfl rfl ?_
      refine xV (e_fld Try.underlying23 rfl Try.sizeOf3 rfl (q0 rfl)) rfl rfl ?_
      refine xV (eL Try.isAgg3 (q0 rfl)) rfl rfl ?_
      refine xV (e_mv (v := .int _ _) (q0 rfl)) rfl rfl ?_
      refine xV (e_lt (q0 rfl) (q0 rfl)) rfl rfl ?_
      refine XN ?_
      refine thenJ_normal ?_
      refine H_cond rfl (fun hb1 => ?_) (fun hb1 => ?_)
      · rw [if_pos (by simpa using hb1)] at hall2
        rw [hall2]
        refine H_seq ?_
        refine R0 ?_
        refine xV (e_as (v := .bool _) (q0 rfl)) rfl rfl ?_
        refine XN ?_
        refine thenJ_normal ?_
        refine H_ret ?_
        refine thenJ_ret ?_
        refine blockJ_ret ?_
        refine thenJ_ret ?_
        refine loopJ_ret ?_
        refine blockJ_ret ?_
        refine thenJ_ret ?_
        exact ret1 (v := .bool _) rfl rfl rfl fun w' hw => ⟨rfl, hw.1⟩
      · rw [if_neg (by simpa using hb1)] at hall2
        refine H_skip ?_
        refine thenJ_normal ?_
        refine H_seq ?_
        refine R0 ?_
        refine xV (e_fld Try.underlying71 rfl Try.sizeOf23 rfl (q0 rfl)) rfl rfl ?_
        refine xV (e_fld Try.underlying23 rfl Try.sizeOf3 rfl (q0 rfl)) rfl rfl ?_
        refine xV (eL Try.isAgg3 (q0 rfl)) rfl rfl ?_
        refine xV (e_as (v := .int _ _) (q0 rfl)) rfl rfl ?_
        refine XN ?_
        refine thenJ_normal ?_
        refine H_seq ?_
        refine H_seq ?_
        refine R0 ?_
        refine xV (e_fld Try.underlying27 rfl Try.sizeOf4 rfl (q0 rfl)) rfl rfl ?_
        refine xV (eL Try.isAgg4 (q0 rfl)) rfl rfl ?_
        refine xV (e_mv (v := .bool _) (q0 rfl)) rfl rfl ?_
        refine xVT (e_mv (v := .int _ _) (q0 rfl)) rfl rfl rfl rfl ?_
        refine xVT (e_fld Try.underlying27 rfl Try.sizeOf25 rfl (q0 rfl)) rfl rfl rfl rfl ?_
        refine xVT (eL Try.isAgg25 (q1 rfl)) rfl rfl rfl rfl ?_
        refine xVT (e_len Try.underlying25 (q1 rfl)) rfl rfl rfl rfl ?_
        refine xVT (e_sub (q1 rfl) (q0 rfl) (fun _ => ⟨rfl, by simp only; omega, by simp only; omega⟩)) rfl rfl rfl rfl ?_
        refine xVT (e_eq (q1 rfl) (q1 rfl)) rfl rfl rfl rfl ?_
        refine xV (e_and (q0 rfl) rfl (fun h => by first | rfl | (rw [h]; rfl))) rfl rfl ?_
        refine xV (e_mv (v := .bool _) (q0 rfl)) rfl rfl ?_
        refine xVT (e_fld Try.underlying71 rfl Try.sizeOf23 rfl (q0 rfl)) rfl rfl rfl rfl ?_
        refine xVT (e_fld Try.underlying23 rfl Try.sizeOf3 rfl (q1 rfl)) rfl rfl rfl rfl ?_
        refine xVT (eL Try.isAgg3 (q1 rfl)) rfl rfl rfl rfl ?_
        refine xVT (e_eq (q1 rfl) (q0 rfl)) rfl rfl rfl rfl ?_
        refine xV (e_and (q0 rfl) rfl (fun h => by first | rfl | (rw [h]; rfl))) rfl rfl ?_
        refine XN ?_
        refine thenJ_normal ?_
        refine H_cond rfl (fun hb2 => ?_) (fun hb2 => ?_)
        · rw [if_pos hb2] at hall2
          rw [hall2]
          refine H_seq ?_
          refine R0 ?_
          refine xV (e_as (v := .bool _) (q0 rfl)) rfl rfl ?_
          refine XN ?_
          refine thenJ_normal ?_
          refine H_ret ?_
          refine thenJ_ret ?_
          refine blockJ_ret ?_
          refine thenJ_ret ?_
          refine loopJ_ret ?_
          refine blockJ_ret ?_
          refine thenJ_ret ?_
          exact ret1 (v := .bool _) rfl rfl rfl fun w' hw => ⟨rfl, hw.1⟩
        · rw [if_neg (by rw [show _ = false from hb2]; decide)] at hall2
          refine H_skip ?_
          refine thenJ_normal ?_
          refine H_seq ?_
          refine H_seq ?_
          refine R0 ?_
          refine xV (e_fld Try.underlying71 rfl Try.sizeOf23 rfl (q0 rfl)) rfl rfl ?_
          refine xV (e_fld Try.underlying23 rfl Try.sizeOf3 rfl (q0 rfl)) rfl rfl ?_
          refine xV (eL Try.isAgg3 (q0 rfl)) rfl rfl ?_
          refine xV (e_mv (v := .int _ _) (q0 rfl)) rfl rfl ?_
          refine xV (e_lt (q0 rfl) (q0 rfl)) rfl rfl ?_
          refine XN ?_
          refine thenJ_normal ?_
          refine H_cond rfl (fun hb3 => ?_) (fun hb3 => ?_)
          · rw [if_pos (by simpa using hb3)] at hall2
            rw [hall2]
            refine H_seq ?_
            refine R0 ?_
            refine xV (e_as (v := .bool _) (q0 rfl)) rfl rfl ?_
            refine XN ?_
            refine thenJ_normal ?_
            refine H_ret ?_
            refine thenJ_ret ?_
            refine blockJ_ret ?_
            refine thenJ_ret ?_
            refine loopJ_ret ?_
            refine blockJ_ret ?_
            refine thenJ_ret ?_
            exact ret1 (v := .bool _) rfl rfl rfl fun w' hw => ⟨rfl, hw.1⟩
          · rw [if_neg (by simpa using hb3)] at hall2
            refine H_skip ?_
            refine thenJ_normal ?_
            refine R0 ?_
            refine xV (e_fld Try.underlying71 rfl Try.sizeOf23 rfl (q0 rfl)) rfl rfl ?_
            refine xV (e_fld Try.underlying23 rfl Try.sizeOf3 rfl (q0 rfl)) rfl rfl ?_
            refine xV (eL Try.isAgg3 (q0 rfl)) rfl rfl ?_
            refine xV (e_as (v := .int _ _) (q0 rfl)) rfl rfl ?_
            refine XN ?_
            refine blockJ_normal ?_
            refine thenJ_normal ?_
            refine R0 ?_
            refine xV (e_add (q0 rfl) (q0 rfl) (fun _ => ⟨rfl, by omega, by omega⟩)) rfl rfl ?_
            refine xV (e_mv (v := .int _ _) (q0 rfl)) rfl rfl ?_
            refine XN ?_
            exact loopJ_normal (q + 1, y.to_.lo) (by repeat (first | exact agree_self | exact agree_over | refine agree_upd rfl ?_ | refine agree_updL rfl ?_ | refine agree_over2 rfl ?_)) ⟨rfl, rfl, trivial⟩ (fun w hw => hw.tail) rfl ⟨by show q + 1 ≤ _; omega, hall2⟩ (by show r.pauses.length - (q + 1) < r.pauses.length - q; omega)
    · have hend2 : q = r.pauses.length := by simp at hlt2; omega
      rw [hend2, List.drop_length] at hall2
      simp only [pzOrd] at hall2
      rw [hall2]
      refine H_exit ?_
      refine thenJ_exit ?_
      refine loopJ_exit ?_
      refine blockJ_hit ?_
      refine thenJ_normal ?_
      refine H_seq ?_
      refine R0 ?_
      refine xV (e_fld Try.underlying27 rfl Try.sizeOf4 rfl (q0 rfl)) rfl rfl ?_
      refine xV (eL Try.isAgg4 (q0 rfl)) rfl rfl ?_
      refine xV (e_mv (v := .bool _) (q0 rfl)) rfl rfl ?_
      refine xVF (e_fld Try.underlying27 rfl Try.sizeOf25 rfl (q0 rfl)) rfl rfl rfl rfl ?_
      refine xVF (eL Try.isAgg25 (q1 rfl)) rfl rfl rfl rfl ?_
      refine xVF (e_len Try.underlying25 (q1 rfl)) rfl rfl rfl rfl ?_
      refine xVF (e_eq (q1 rfl) (q0 rfl)) rfl rfl rfl rfl ?_
      refine xV (e_or (q0 rfl) rfl (fun h => by first | rfl | (rw [h]; rfl))) rfl rfl ?_
      refine xV (e_mv (v := .bool _) (q0 rfl)) rfl rfl ?_
      refine xVF (e_mv (v := .int _ _) (q0 rfl)) rfl rfl rfl rfl ?_
      refine xVF (e_fld Try.underlying27 rfl Try.sizeOf23 rfl (q0 rfl)) rfl rfl rfl rfl ?_
      refine xVF (e_fld Try.underlying23 rfl Try.sizeOf3 rfl (q1 rfl)) rfl rfl rfl rfl ?_
      refine xVF (eL Try.isAgg3 (q1 rfl)) rfl rfl rfl rfl ?_
      refine xVF (e_le (q1 rfl) (q1 rfl)) rfl rfl rfl rfl ?_
      refine xV (e_or (q0 rfl) rfl (fun h => by first | rfl | (rw [h]; rfl))) rfl rfl ?_
      refine xV (e_as (v := .bool _) (q0 rfl)) rfl rfl ?_
      refine XN ?_
      refine thenJ_normal ?_
      refine H_ret ?_
      exact ret1 (v := .bool _) rfl rfl rfl fun w' hw => ⟨rfl, hw.1⟩
attribute [local irreducible] rangedP joinedP orderedP
set_option maxRecDepth 20000 in
theorem rcheck_w (x : RX) (w : World) (hx : RdAt w x) (hl : x.r.legs.length ≤ 1000000) (hp : x.r.pauses.length ≤ 1000000) : Calls Try.prog 11 #[.agg x.cells.toArray] w fun e w' => e = .returned (.int .i64 (checkR x.r)) ∧ Bel w w' := by
  have hxw := hx
  obtain ⟨r, ra⟩ := x
  simp only at hl hp
  refine H_enter Try.func11 rfl Try.ntmps11 rfl ?_
  refine H_seq ?_
  refine R0 ?_
  refine X_box (v := .agg _) rfl rfl fun b1 => ?_
  refine xV (e_as (v := .int _ _) (q0 rfl)) rfl rfl ?_
  refine XN ?_
  refine thenJ_normal ?_
  refine H_seq ?_
  refine H_block ?_
  refine H_seq ?_
  refine R0 ?_
  refine xV (eS Try.isAgg27 Try.sizeOf27 (q0 rfl)) rfl rfl ?_
  refine xC (en Try.call32 (ha1 (q0 rfl))) (fun _ w hw => ranged_w ⟨r, ra⟩ w (hx.mem hw)) rfl rfl ?_
  refine xV (e_not (q0 rfl)) rfl rfl ?_
  refine xV (e_as (v := .bool _) (q0 rfl)) rfl rfl ?_
  refine XN ?_
  refine thenJ_normal ?_
  refine H_cond rfl (fun h1 => ?_) (fun h1 => ?_)
  · have hc : checkR r = 1 := by unfold checkR; rw [if_pos h1]
    rw [hc]
    refine H_seq ?_
    refine R0 ?_
    refine xV (e_as (v := .int _ _) (q0 rfl)) rfl rfl ?_
    refine XN ?_
    refine thenJ_normal ?_
    refine H_ret ?_
    refine blockJ_ret ?_
    refine thenJ_ret ?_
    exact ret1 (v := .int _ _) rfl rfl rfl fun w' hw => ⟨rfl, hw.1⟩
  · refine H_seq ?_
    refine R0 ?_
    refine xV (eS Try.isAgg27 Try.sizeOf27 (q0 rfl)) rfl rfl ?_
    refine xC (en Try.call33 (ha1 (q0 rfl))) (fun _ w hw => joined_w ⟨r, ra⟩ w (hx.mem hw)) rfl rfl ?_
    refine xV (e_not (q0 rfl)) rfl rfl ?_
    refine xV (e_as (v := .bool _) (q0 rfl)) rfl rfl ?_
    refine XN ?_
    refine thenJ_normal ?_
    refine H_cond rfl (fun h2 => ?_) (fun h2 => ?_)
    · have hc : checkR r = 3 := by unfold checkR; rw [if_neg (by rw [h1]; decide), if_pos h2]
      rw [hc]
      refine H_seq ?_
      refine R0 ?_
      refine xV (e_as (v := .int _ _) (q0 rfl)) rfl rfl ?_
      refine XN ?_
      refine thenJ_normal ?_
      refine H_ret ?_
      refine blockJ_ret ?_
      refine thenJ_ret ?_
      exact ret1 (v := .int _ _) rfl rfl rfl fun w' hw => ⟨rfl, hw.1⟩
    · refine H_seq ?_
      refine R0 ?_
      refine xV (eS Try.isAgg27 Try.sizeOf27 (q0 rfl)) rfl rfl ?_
      refine xC (en Try.call34 (ha1 (q0 rfl))) (fun _ w hw => ordered_w ⟨r, ra⟩ w (hx.mem hw) hl hp) rfl rfl ?_
      refine xV (e_not (q0 rfl)) rfl rfl ?_
      refine xV (e_as (v := .bool _) (q0 rfl)) rfl rfl ?_
      refine XN ?_
      refine thenJ_normal ?_
      refine H_cond rfl (fun h3 => ?_) (fun h3 => ?_)
      · have hc : checkR r = 9 := by unfold checkR; rw [if_neg (by rw [h1]; decide), if_neg (by rw [h2]; decide), if_pos h3]
        rw [hc]
        refine H_seq ?_
        refine R0 ?_
        refine xV (e_as (v := .int _ _) (q0 rfl)) rfl rfl ?_
        refine XN ?_
        refine thenJ_normal ?_
        refine H_ret ?_
        refine blockJ_ret ?_
        refine thenJ_ret ?_
        exact ret1 (v := .int _ _) rfl rfl rfl fun w' hw => ⟨rfl, hw.1⟩
      · have _ht : True := trivial
        refine H_seq ?_
        refine H_seq ?_
        refine R0 ?_
        refine xV (e_fld Try.underlying27 rfl Try.sizeOf4 rfl (q0 rfl)) rfl rfl ?_
        refine xV (eL Try.isAgg4 (q0 rfl)) rfl rfl ?_
        refine xV (e_mv (v := .bool _) (q0 rfl)) rfl rfl ?_
        refine xVT (e_fld Try.underlying27 rfl Try.sizeOf23 rfl (q0 rfl)) rfl rfl rfl rfl ?_
        refine xVT (eP Try.isAgg23 Try.sizeOf23 (q1 rfl)) rfl rfl rfl rfl ?_
        refine xVT (EvG.any (e_build Try.underlying23 fl23 Try.zeroValue23 E.p0 rfl)) rfl rfl rfl rfl ?_
        refine xVT (e_neS (fun w => eqSpn r.end_ zSpn w) (by kernel_rfl) (q1 rfl) (q1 rfl)) rfl rfl rfl rfl ?_
        refine xV (e_and (q0 rfl) rfl (fun h => by first | rfl | (rw [h]; rfl))) rfl rfl ?_
        refine xV (e_as (v := .bool _) (q0 rfl)) rfl rfl ?_
        refine XN ?_
        refine thenJ_normal ?_
        refine H_cond rfl (fun h4 => ?_) (fun h4 => ?_)
        · have hc : checkR r = 12 := by unfold checkR; rw [if_neg (by rw [h1]; decide), if_neg (by rw [h2]; decide), if_neg (by rw [h3]; decide), if_pos h4]
          rw [hc]
          refine H_skip ?_
          refine thenJ_normal ?_
          refine H_cond rfl (fun h5 => ?_) (fun h5 => ?_)
          · refine H_seq ?_
            refine R0 ?_
            refine xV (e_as (v := .int _ _) (q0 rfl)) rfl rfl ?_
            refine XN ?_
            refine thenJ_normal ?_
            refine H_ret ?_
            refine blockJ_ret ?_
            refine thenJ_ret ?_
            exact ret1 (v := .int _ _) rfl rfl rfl fun w' hw => ⟨rfl, hw.1⟩
          · rw [h4] at h5; cases h5
        · refine R0 ?_
          refine xV (e_fld Try.underlying27 rfl Try.sizeOf4 rfl (q0 rfl)) rfl rfl ?_
          refine xV (eL Try.isAgg4 (q0 rfl)) rfl rfl ?_
          refine xV (e_fld Try.underlying27 rfl Try.sizeOf3 rfl (q0 rfl)) rfl rfl ?_
          refine xV (eL Try.isAgg3 (q0 rfl)) rfl rfl ?_
          refine xV (e_eq (q0 rfl) (q0 rfl)) rfl rfl ?_
          refine xV (e_neb Try.underlying4 (q0 rfl) (q0 rfl)) rfl rfl ?_
          refine xV (e_as (v := .bool _) (q0 rfl)) rfl rfl ?_
          refine XN ?_
          refine thenJ_normal ?_
          refine H_cond rfl (fun h5 => ?_) (fun h5 => ?_)
          · have hc : checkR r = 12 := by unfold checkR; rw [if_neg (by rw [h1]; decide), if_neg (by rw [h2]; decide), if_neg (by rw [h3]; decide), if_neg (by rw [show _ = false from h4]; decide), if_pos h5]
            rw [hc]
            refine H_seq ?_
            refine R0 ?_
            refine xV (e_as (v := .int _ _) (q0 rfl)) rfl rfl ?_
            refine XN ?_
            refine thenJ_normal ?_
            refine H_ret ?_
            refine blockJ_ret ?_
            refine thenJ_ret ?_
            exact ret1 (v := .int _ _) rfl rfl rfl fun w' hw => ⟨rfl, hw.1⟩
          · have hc : checkR r = 0 := by unfold checkR; rw [if_neg (by rw [h1]; decide), if_neg (by rw [h2]; decide), if_neg (by rw [h3]; decide), if_neg (by rw [show _ = false from h4]; decide), if_neg (by rw [show _ = false from h5]; decide)]
            rw [hc]
            refine H_skip ?_
            refine blockJ_normal ?_
            refine thenJ_normal ?_
            refine H_seq ?_
            refine R0 ?_
            refine xV (e_as (v := .int _ _) (q0 rfl)) rfl rfl ?_
            refine XN ?_
            refine thenJ_normal ?_
            refine H_ret ?_
            exact ret1 (v := .int _ _) rfl rfl rfl fun w' hw => ⟨rfl, hw.1⟩

end Go.Proofs.Rid

/-
  The walks: rides copied, found, picked (the program's way).
-/
namespace Go.Proofs.Rid
open Go Go.RowKit Go.Proofs.E Go.Proofs.Cus

theorem cloneLg_w (A : Option Addr) (n c : Nat) (xs : List Lg) (w : World) (hx : SlAt w 5 Lg.cells A n xs) (hn : n ≤ 100000) : Calls Try.prog 54 #[.slice A n c] w fun e w' => ∃ x : Option Addr × Nat, e = .returned (.slice x.1 xs.length x.2) ∧ Mem w [lgRow x.1 x.2 xs] w' := by
  have hl := hx.1
  refine H_enter Try.func54 rfl Try.ntmps54 rfl ?_
  refine H_seq ?_
  refine R0 ?_
  refine xV (e_as (v := .slice _ _ _) (q0 rfl)) rfl rfl ?_
  refine XN ?_
  refine thenJ_normal ?_
  refine H_seq ?_
  refine H_seq ?_
  refine R0 ?_
  refine xV (e_mv (v := .slice _ _ _) (q0 rfl)) rfl rfl ?_
  refine xV (e_eqNilS Try.underlying24 (q0 rfl)) rfl rfl ?_
  refine XN ?_
  refine thenJ_normal ?_
  refine H_cond rfl (fun h1 => ?_) (fun h1 => ?_)
  · have hA0 : A = none := by simpa using h1
    have hn0 : n = 0 := by
      rcases Nat.eq_zero_or_pos n with h | h
      · exact h
      · obtain ⟨b, off, hb, _⟩ := hx.2.2 h; rw [hA0] at hb; cases hb
    subst hn0
    have : xs = [] := List.eq_nil_of_length_eq_zero hl
    subst this
    refine H_seq ?_
    refine R0 ?_
    refine xV (e_as (v := .slice _ _ _) (q0 rfl)) rfl rfl ?_
    refine XN ?_
    refine thenJ_normal ?_
    refine H_ret ?_
    refine thenJ_ret ?_
    exact ret1 (v := .slice _ _ _) rfl rfl rfl fun w' hw => ⟨(none, 0), rfl, hw.nilRow _ _ _ rfl⟩
  · refine H_skip ?_
    refine thenJ_normal ?_
    refine H_seq ?_
    refine R0 ?_
    refine X_eff (f_slit0 Lg.cells Try.underlying24 Try.sizeOf52 rfl fun A1 c1 => ?_)
    refine xV (e_mv (v := .slice _ _ _) (q0 rfl)) rfl rfl ?_
    refine X_append (f_append (k := 5) (i := Try.t52) (enc := Lg.cells) 0 Try.underlying24 (by kernel_rfl) rfl rfl rfl rfl (fun _ => rfl) (fun _ => rfl) rfl rfl rfl (fun w hw => hx.mem hw) ⟨by simp; omega, by decide⟩ rfl fun A2 c2 => ?_)
    refine xV (e_as (v := .slice _ _ _) (q0 rfl)) rfl rfl ?_
    refine XN ?_
    refine thenJ_normal ?_
    refine H_ret ?_
    exact ret1 (v := .slice _ _ _) rfl rfl rfl fun w' hw => ⟨(A2, c2), rfl, hw⟩
theorem clonePz_w (A : Option Addr) (n c : Nat) (xs : List Pz) (w : World) (hx : SlAt w 4 Pz.cells A n xs) (hn : n ≤ 100000) : Calls Try.prog 55 #[.slice A n c] w fun e w' => ∃ x : Option Addr × Nat, e = .returned (.slice x.1 xs.length x.2) ∧ Mem w [pzRow x.1 x.2 xs] w' := by
  have hl := hx.1
  refine H_enter Try.func55 rfl Try.ntmps55 rfl ?_
  refine H_seq ?_
  refine R0 ?_
  refine xV (e_as (v := .slice _ _ _) (q0 rfl)) rfl rfl ?_
  refine XN ?_
  refine thenJ_normal ?_
  refine H_seq ?_
  refine H_seq ?_
  refine R0 ?_
  refine xV (e_mv (v := .slice _ _ _) (q0 rfl)) rfl rfl ?_
  refine xV (e_eqNilS Try.underlying25 (q0 rfl)) rfl rfl ?_
  refine XN ?_
  refine thenJ_normal ?_
  refine H_cond rfl (fun h1 => ?_) (fun h1 => ?_)
  · have hA0 : A = none := by simpa using h1
    have hn0 : n = 0 := by
      rcases Nat.eq_zero_or_pos n with h | h
      · exact h
      · obtain ⟨b, off, hb, _⟩ := hx.2.2 h; rw [hA0] at hb; cases hb
    subst hn0
    have : xs = [] := List.eq_nil_of_length_eq_zero hl
    subst this
    refine H_seq ?_
    refine R0 ?_
    refine xV (e_as (v := .slice _ _ _) (q0 rfl)) rfl rfl ?_
    refine XN ?_
    refine thenJ_normal ?_
    refine H_ret ?_
    refine thenJ_ret ?_
    exact ret1 (v := .slice _ _ _) rfl rfl rfl fun w' hw => ⟨(none, 0), rfl, hw.nilRow _ _ _ rfl⟩
  · refine H_skip ?_
    refine thenJ_normal ?_
    refine H_seq ?_
    refine R0 ?_
    refine X_eff (f_slit0 Pz.cells Try.underlying25 Try.sizeOf71 rfl fun A1 c1 => ?_)
    refine xV (e_mv (v := .slice _ _ _) (q0 rfl)) rfl rfl ?_
    refine X_append (f_append (k := 4) (i := Try.t71) (enc := Pz.cells) 0 Try.underlying25 (by kernel_rfl) rfl rfl rfl rfl (fun _ => rfl) (fun _ => rfl) rfl rfl rfl (fun w hw => hx.mem hw) ⟨by simp; omega, by decide⟩ rfl fun A2 c2 => ?_)
    refine xV (e_as (v := .slice _ _ _) (q0 rfl)) rfl rfl ?_
    refine XN ?_
    refine thenJ_normal ?_
    refine H_ret ?_
    exact ret1 (v := .slice _ _ _) rfl rfl rfl fun w' hw => ⟨(A2, c2), rfl, hw⟩
set_option maxHeartbeats 1000000 in
set_option maxRecDepth 20000 in
theorem copied_w (x : RX) (w : World) (hx : RdAt w x) (hl : x.r.legs.length ≤ 100000) (hp : x.r.pauses.length ≤ 100000) : Calls Try.prog 38 #[.agg x.cells.toArray] w fun e w' => ∃ y : RPl, e = .returned (.agg (RX.cells ⟨x.r, y⟩).toArray) ∧ Mem w (rdParts ⟨x.r, y⟩) w' := by
  obtain ⟨r, ⟨lA, lc, pA, pc⟩⟩ := x
  obtain ⟨hlg, hpz⟩ := hx
  simp only at hlg hpz hl hp
  refine H_enter Try.func38 rfl Try.ntmps38 rfl ?_
  refine H_seq ?_
  refine R0 ?_
  refine X_box (v := .agg _) rfl rfl fun b1 => ?_
  refine X_alloc Try.zeroValue27 rfl fun b2 => ?_
  refine XN ?_
  refine thenJ_normal ?_
  refine H_seq ?_
  refine H_cut [3, 4, 5, 6, 7, 8, 9, 10] (fun _ : RPl => []) (fun s => [lgRow s.lA s.lc r.legs, pzRow s.pA s.pc r.pauses, box b2 27 [.int .i64 0, .int .i64 0, .int .i64 0, .int .i64 0, .int .i64 0, .int .i64 0, .bool false, .slice none 0 0, .slice none 0 0, .int .i64 0, .int .i64 0, .int .i64 0, .int .i64 0], box b1 27 (RX.cells ⟨r, s⟩)]) (fun _ => True) ?_ ?_
  · refine RAd 2 rfl (by decide +kernel) ?_
    refine aV 0 (by decide +kernel) rfl (e_fld Try.underlying27 rfl Try.sizeOf24 rfl (q0 rfl)) rfl ?_
    refine aV 3 (by decide +kernel) rfl (e_fld Try.underlying27 rfl Try.sizeOf25 rfl (q0 rfl)) rfl ?_
    refine rdy2 (i := 1) (j := 4) (by decide +kernel) (sub_drop 2) ?_ ?_
    · refine aL rfl (f_ev (e_ld (v := .slice lA r.legs.length lc) Try.isAgg24 (q0 rfl) (by first | exact bx 0 rfl rfl | exact bx 1 rfl rfl | exact bx 2 rfl rfl | exact bx 3 rfl rfl | exact bx 4 rfl rfl | exact bx 5 rfl rfl | exact bx 6 rfl rfl | exact bx 7 rfl rfl | exact bx 8 rfl rfl | exact bx 9 rfl rfl | exact rc ‹_› ‹_› rfl | exact rc0 ‹_› ‹_› rfl | exact xc ‹_› ‹_› | exact rr 0 rfl ‹_› rfl | exact rr0 0 rfl ‹_› rfl | exact rr 1 rfl ‹_› rfl | exact rr0 1 rfl ‹_› rfl | exact rr 2 rfl ‹_› rfl | exact rr0 2 rfl ‹_› rfl | exact rr 3 rfl ‹_› rfl | exact rr0 3 rfl ‹_› rfl | exact rr 4 rfl ‹_› rfl | exact rr0 4 rfl ‹_› rfl | exact rr 5 rfl ‹_› rfl | exact rr0 5 rfl ‹_› rfl | exact rr 6 rfl ‹_› rfl | exact rr0 6 rfl ‹_› rfl | exact rr 7 rfl ‹_› rfl | exact rr0 7 rfl ‹_› rfl)) rfl rfl ?_)
      refine rdy2 (i := 2) (j := 4) (by decide +kernel) (sub_drop 2) ?_ ?_
      · refine aL rfl (f_callx (en Try.call54 (ha1 (q0 rfl))) (fun w hw => cloneLg_w lA _ lc r.legs w (hlg.mem hw) hl) rfl (fun _ => rfl) fun ly => ?_)
        refine rdy1 (i := 4) (by decide +kernel) (sub_drop 3) ?_
        refine aL rfl (f_ev (e_ld (v := .slice pA r.pauses.length pc) Try.isAgg25 (q0 rfl) (by first | exact bx 0 rfl rfl | exact bx 1 rfl rfl | exact bx 2 rfl rfl | exact bx 3 rfl rfl | exact bx 4 rfl rfl | exact bx 5 rfl rfl | exact bx 6 rfl rfl | exact bx 7 rfl rfl | exact bx 8 rfl rfl | exact bx 9 rfl rfl | exact rc ‹_› ‹_› rfl | exact rc0 ‹_› ‹_› rfl | exact xc ‹_› ‹_› | exact rr 0 rfl ‹_› rfl | exact rr0 0 rfl ‹_› rfl | exact rr 1 rfl ‹_› rfl | exact rr0 1 rfl ‹_› rfl | exact rr 2 rfl ‹_› rfl | exact rr0 2 rfl ‹_› rfl | exact rr 3 rfl ‹_› rfl | exact rr0 3 rfl ‹_› rfl | exact rr 4 rfl ‹_› rfl | exact rr0 4 rfl ‹_› rfl | exact rr 5 rfl ‹_› rfl | exact rr0 5 rfl ‹_› rfl | exact rr 6 rfl ‹_› rfl | exact rr0 6 rfl ‹_› rfl | exact rr 7 rfl ‹_› rfl | exact rr0 7 rfl ‹_› rfl)) rfl rfl ?_)
        refine aV 6 (by decide +kernel) rfl (e_fld Try.underlying27 rfl Try.sizeOf24 rfl (q0 rfl)) rfl ?_
        refine rdy1 (i := 5) (by decide +kernel) (sub_drop 3) ?_
        refine aL rfl (f_callx (en Try.call55 (ha1 (q0 rfl))) (fun w hw => clonePz_w pA _ pc r.pauses w (hpz.mem hw) hp) rfl (fun _ => rfl) fun py => ?_)
        refine aI 1 ?_
        refine rdy1 (i := 7) (by decide +kernel) (sub_drop 4) ?_
        refine aL rfl (f_st (v := .slice _ _ _) rfl rfl Try.sizeOf24 ?_)
        refine aV 8 (by decide +kernel) rfl (e_fld Try.underlying27 rfl Try.sizeOf25 rfl (q0 rfl)) rfl ?_
        refine rdy1 (i := 9) (by decide +kernel) (sub_drop 4) ?_
        refine aL rfl (f_st (v := .slice _ _ _) rfl rfl Try.sizeOf25 ?_)
        refine aZ (by decide +kernel) (sub_drop 4) ?_
        exact cutJ_normal (⟨ly.1, ly.2, py.1, py.2⟩ : RPl) (by repeat (first | exact agree_self | exact agree_over | refine agree_upd rfl ?_ | refine agree_updL rfl ?_ | refine agree_over2 rfl ?_)) trivial (fun w hw => hw) rfl trivial
      · refine aL rfl (f_ev (e_ld (v := .slice pA r.pauses.length pc) Try.isAgg25 (q0 rfl) (by first | exact bx 0 rfl rfl | exact bx 1 rfl rfl | exact bx 2 rfl rfl | exact bx 3 rfl rfl | exact bx 4 rfl rfl | exact bx 5 rfl rfl | exact bx 6 rfl rfl | exact bx 7 rfl rfl | exact bx 8 rfl rfl | exact bx 9 rfl rfl | exact rc ‹_› ‹_› rfl | exact rc0 ‹_› ‹_› rfl | exact xc ‹_› ‹_› | exact rr 0 rfl ‹_› rfl | exact rr0 0 rfl ‹_› rfl | exact rr 1 rfl ‹_› rfl | exact rr0 1 rfl ‹_› rfl | exact rr 2 rfl ‹_› rfl | exact rr0 2 rfl ‹_› rfl | exact rr 3 rfl ‹_› rfl | exact rr0 3 rfl ‹_› rfl | exact rr 4 rfl ‹_› rfl | exact rr0 4 rfl ‹_› rfl | exact rr 5 rfl ‹_› rfl | exact rr0 5 rfl ‹_› rfl | exact rr 6 rfl ‹_› rfl | exact rr0 6 rfl ‹_› rfl | exact rr 7 rfl ‹_› rfl | exact rr0 7 rfl ‹_› rfl)) rfl rfl ?_)
        refine rdy1 (i := 2) (by decide +kernel) (sub_drop 2) ?_
        refine aL rfl (f_callx (en Try.call54 (ha1 (q0 rfl))) (fun w hw => cloneLg_w lA _ lc r.legs w (hlg.mem hw) hl) rfl (fun _ => rfl) fun ly => ?_)
        refine aV 6 (by decide +kernel) rfl (e_fld Try.underlying27 rfl Try.sizeOf24 rfl (q0 rfl)) rfl ?_
        refine rdy1 (i := 5) (by decide +kernel) (sub_drop 3) ?_
        refine aL rfl (f_callx (en Try.call55 (ha1 (q0 rfl))) (fun w hw => clonePz_w pA _ pc r.pauses w (hpz.mem hw) hp) rfl (fun _ => rfl) fun py => ?_)
        refine aI 1 ?_
        refine rdy1 (i := 7) (by decide +kernel) (sub_drop 4) ?_
        refine aL rfl (f_st (v := .slice _ _ _) rfl rfl Try.sizeOf24 ?_)
        refine aV 8 (by decide +kernel) rfl (e_fld Try.underlying27 rfl Try.sizeOf25 rfl (q0 rfl)) rfl ?_
        refine rdy1 (i := 9) (by decide +kernel) (sub_drop 4) ?_
        refine aL rfl (f_st (v := .slice _ _ _) rfl rfl Try.sizeOf25 ?_)
        refine aZ (by decide +kernel) (sub_drop 4) ?_
        exact cutJ_normal (⟨ly.1, ly.2, py.1, py.2⟩ : RPl) (by repeat (first | exact agree_self | exact agree_over | refine agree_upd rfl ?_ | refine agree_updL rfl ?_ | refine agree_over2 rfl ?_)) trivial (fun w hw => hw) rfl trivial
    · refine aL rfl (f_ev (e_ld (v := .slice pA r.pauses.length pc) Try.isAgg25 (q0 rfl) (by first | exact bx 0 rfl rfl | exact bx 1 rfl rfl | exact bx 2 rfl rfl | exact bx 3 rfl rfl | exact bx 4 rfl rfl | exact bx 5 rfl rfl | exact bx 6 rfl rfl | exact bx 7 rfl rfl | exact bx 8 rfl rfl | exact bx 9 rfl rfl | exact rc ‹_› ‹_› rfl | exact rc0 ‹_› ‹_› rfl | exact xc ‹_› ‹_› | exact rr 0 rfl ‹_› rfl | exact rr0 0 rfl ‹_› rfl | exact rr 1 rfl ‹_› rfl | exact rr0 1 rfl ‹_› rfl | exact rr 2 rfl ‹_› rfl | exact rr0 2 rfl ‹_› rfl | exact rr 3 rfl ‹_› rfl | exact rr0 3 rfl ‹_› rfl | exact rr 4 rfl ‹_› rfl | exact rr0 4 rfl ‹_› rfl | exact rr 5 rfl ‹_› rfl | exact rr0 5 rfl ‹_› rfl | exact rr 6 rfl ‹_› rfl | exact rr0 6 rfl ‹_› rfl | exact rr 7 rfl ‹_› rfl | exact rr0 7 rfl ‹_› rfl)) rfl rfl ?_)
      refine rdy1 (i := 1) (by decide +kernel) (sub_drop 2) ?_
      refine aL rfl (f_ev (e_ld (v := .slice lA r.legs.length lc) Try.isAgg24 (q0 rfl) (by first | exact bx 0 rfl rfl | exact bx 1 rfl rfl | exact bx 2 rfl rfl | exact bx 3 rfl rfl | exact bx 4 rfl rfl | exact bx 5 rfl rfl | exact bx 6 rfl rfl | exact bx 7 rfl rfl | exact bx 8 rfl rfl | exact bx 9 rfl rfl | exact rc ‹_› ‹_› rfl | exact rc0 ‹_› ‹_› rfl | exact xc ‹_› ‹_› | exact rr 0 rfl ‹_› rfl | exact rr0 0 rfl ‹_› rfl | exact rr 1 rfl ‹_› rfl | exact rr0 1 rfl ‹_› rfl | exact rr 2 rfl ‹_› rfl | exact rr0 2 rfl ‹_› rfl | exact rr 3 rfl ‹_› rfl | exact rr0 3 rfl ‹_› rfl | exact rr 4 rfl ‹_› rfl | exact rr0 4 rfl ‹_› rfl | exact rr 5 rfl ‹_› rfl | exact rr0 5 rfl ‹_› rfl | exact rr 6 rfl ‹_› rfl | exact rr0 6 rfl ‹_› rfl | exact rr 7 rfl ‹_› rfl | exact rr0 7 rfl ‹_› rfl)) rfl rfl ?_)
      refine rdy1 (i := 2) (by decide +kernel) (sub_drop 2) ?_
      refine aL rfl (f_callx (en Try.call54 (ha1 (q0 rfl))) (fun w hw => cloneLg_w lA _ lc r.legs w (hlg.mem hw) hl) rfl (fun _ => rfl) fun ly => ?_)
      refine aV 6 (by decide +kernel) rfl (e_fld Try.underlying27 rfl Try.sizeOf24 rfl (q0 rfl)) rfl ?_
      refine rdy1 (i := 5) (by decide +kernel) (sub_drop 3) ?_
      refine aL rfl (f_callx (en Try.call55 (ha1 (q0 rfl))) (fun w hw => clonePz_w pA _ pc r.pauses w (hpz.mem hw) hp) rfl (fun _ => rfl) fun py => ?_)
      refine aI 1 ?_
      refine rdy1 (i := 7) (by decide +kernel) (sub_drop 4) ?_
      refine aL rfl (f_st (v := .slice _ _ _) rfl rfl Try.sizeOf24 ?_)
      refine aV 8 (by decide +kernel) rfl (e_fld Try.underlying27 rfl Try.sizeOf25 rfl (q0 rfl)) rfl ?_
      refine rdy1 (i := 9) (by decide +kernel) (sub_drop 4) ?_
      refine aL rfl (f_st (v := .slice _ _ _) rfl rfl Try.sizeOf25 ?_)
      refine aZ (by decide +kernel) (sub_drop 4) ?_
      exact cutJ_normal (⟨ly.1, ly.2, py.1, py.2⟩ : RPl) (by repeat (first | exact agree_self | exact agree_over | refine agree_upd rfl ?_ | refine agree_updL rfl ?_ | refine agree_over2 rfl ?_)) trivial (fun w hw => hw) rfl trivial
  · intro s g _
    refine thenJ_normal ?_
    refine H_seq ?_
    refine R0 ?_
    refine xV (eS Try.isAgg27 Try.sizeOf27 (q0 rfl)) rfl rfl ?_
    refine X_st (v := .agg _) rfl rfl Try.sizeOf27 ?_
    refine XN ?_
    refine thenJ_normal ?_
    refine H_ret ?_
    exact ret_of rfl (resc1 2 rfl rfl Try.isAgg27 Try.sizeOf27 rfl rfl) fun w' hw => ⟨s, rfl, hw.pick [0, 1] (by decide)⟩

def zRd : Rd := ⟨0, 0, zSpn, zSpn, false, [], [], 0, 0, 0, 0⟩
def zPl : RPl := ⟨none, 0, none, 0⟩
def findR (l : List Rd) (id : Int) : Option Rd := l.find? fun r => decide (r.id = id)
def Short (xs : List RX) : Prop := ∀ x ∈ xs, x.r.legs.length ≤ 100000 ∧ x.r.pauses.length ≤ 100000
set_option maxRecDepth 20000 in
theorem find_w (A : Option Addr) (n c : Nat) (xs : List RX) (id : Int) (w : World) (hx : RdsAt w A n xs) (hs : Short xs) : Calls Try.prog 14 #[.slice A n c, .int .i64 id] w fun e w' => ∃ y : RPl, e = .returned (.tuple #[.agg (RX.cells ⟨(findR (xs.map (·.r)) id).getD zRd, y⟩).toArray, .bool (findR (xs.map (·.r)) id).isSome]) ∧ Mem w (rdParts ⟨(findR (xs.map (·.r)) id).getD zRd, y⟩) w' := by
  have hl := hx.1.1
  have hn := hx.1.2.1
  refine H_enter Try.func14 rfl Try.ntmps14 rfl ?_
  refine H_seq ?_
  refine R0 ?_
  refine X_alloc Try.zeroValue27 rfl fun b4 => ?_
  refine xV (e_as (v := .bool _) (q0 rfl)) rfl rfl ?_
  refine XN ?_
  refine thenJ_normal ?_
  refine H_seq ?_
  refine H_seq ?_
  refine R0 ?_
  refine xV (e_mv (v := .slice _ _ _) (q0 rfl)) rfl rfl ?_
  refine xV (e_len Try.underlying32 (q0 rfl)) rfl rfl ?_
  refine xV (e_mv (v := .int _ _) (q0 rfl)) rfl rfl ?_
  refine XN ?_
  refine thenJ_normal ?_
  refine H_block ?_
  refine H_loop [5, 7, 10, 11, 12, 13, 14, 15, 16, 17, 18, 19, 20] (fun k : Nat => [(10, .int .i64 k)]) (fun _ => [box b4 27 (RX.cells ⟨zRd, zPl⟩)]) (fun k => k ≤ n ∧ findR (xs.map (·.r)) id = findR ((xs.map (·.r)).drop k) id) (fun k => n - k) 0 ⟨rfl, trivial⟩ (fun w hw => hw) rfl ⟨Nat.zero_le _, rfl⟩ ?_
  rintro k g ⟨hk, hall⟩
  refine H_seq ?_
  refine R0 ?_
  refine xV (e_lt (q0 rfl) (q0 rfl)) rfl rfl ?_
  refine XN ?_
  refine thenJ_normal ?_
  refine H_seq ?_
  refine H_cond rfl (fun hlt => ?_) (fun hlt => ?_)
  · have hlt' : k < n := by simpa using hlt
    obtain ⟨b, off, y, rfl, hbl, hy, hry⟩ := hx.1.at_ hlt'
    have hym := List.mem_of_getElem? hy
    have hya := hx.2 y hym
    have hys := hs y hym
    have hyr : (xs.map (·.r))[k]? = some y.r := by simp [hy]
    rw [drop_of hyr] at hall
    refine H_skip ?_
    refine thenJ_normal ?_
    refine H_seq ?_
    refine H_block ?_
    refine H_seq ?_
    refine R0 ?_
    refine xV (e_idx _ Try.underlying32 Try.sizeOf27 (q0 rfl) (q0 rfl) (fun _ => ⟨rfl, by omega⟩)) rfl rfl ?_
    refine xV (eS Try.isAgg27 Try.sizeOf27 (q0 rfl)) rfl rfl ?_
    refine X_alloc Try.zeroValue27 rfl fun b7 => ?_
    refine X_st (v := .agg _) rfl rfl Try.sizeOf27 ?_
    refine XN ?_
    refine thenJ_normal ?_
    refine H_seq ?_
    refine R0 ?_
    refine xV (e_fld Try.underlying27 rfl Try.sizeOf3 rfl (q0 rfl)) rfl rfl ?_
    refine xV (eL Try.isAgg3 (q0 rfl)) rfl rfl ?_
    refine xV (e_mv (v := .int _ _) (q0 rfl)) rfl rfl ?_
    refine xV (e_eq (q0 rfl) (q0 rfl)) rfl rfl ?_
    refine XN ?_
    refine thenJ_normal ?_
    refine H_cond rfl (fun hb => ?_) (fun hb => ?_)
    · have hf : findR (xs.map (·.r)) id = some y.r := by rw [hall]; unfold findR; exact List.find?_cons_of_pos (p := fun r : Rd => decide (r.id = id)) hb
      rw [hf]
      refine H_seq ?_
      refine R0 ?_
      refine xV (eS Try.isAgg27 Try.sizeOf27 (q0 rfl)) rfl rfl ?_
      refine xCX (en Try.call38 (ha1 (q0 rfl))) (fun w hw => copied_w y w (hya.mem hw) hys.1 hys.2) rfl (fun _ => rfl) fun z => ?_
      refine X_st (v := .agg _) rfl rfl Try.sizeOf27 ?_
      refine xV (e_as (v := .bool _) (q0 rfl)) rfl rfl ?_
      refine XN ?_
      refine thenJ_normal ?_
      refine H_ret ?_
      refine blockJ_ret ?_
      refine thenJ_ret ?_
      refine loopJ_ret ?_
      refine blockJ_ret ?_
      refine thenJ_ret ?_
      exact ret_of rfl (resc2 3 rfl rfl rfl Try.isAgg27 Try.sizeOf27 rfl rfl) fun w' hw => ⟨z, rfl, hw.pick [0, 1] (by decide)⟩
    · have hf : findR (xs.map (·.r)) id = findR ((xs.map (·.r)).drop (k + 1)) id := by rw [hall]; unfold findR; exact List.find?_cons_of_neg (p := fun r : Rd => decide (r.id = id)) (by show ¬ decide (y.r.id = id) = true; rw [show decide (y.r.id = id) = false from hb]; decide)
      refine H_skip ?_
      refine blockJ_normal ?_
      refine thenJ_normal ?_
      refine R0 ?_
      refine xV (e_add (q0 rfl) (q0 rfl) (fun _ => ⟨rfl, by omega, by omega⟩)) rfl rfl ?_
      refine xV (e_mv (v := .int _ _) (q0 rfl)) rfl rfl ?_
      refine XN ?_
      exact loopJ_normal (k + 1) (by repeat (first | exact agree_self | exact agree_over | refine agree_upd rfl ?_ | refine agree_updL rfl ?_ | refine agree_over2 rfl ?_)) ⟨rfl, trivial⟩ (fun w hw => hw.tail) rfl ⟨by omega, hf⟩ (by show n - (k + 1) < n - k; omega)
  · have hend : k = n := by simp at hlt; omega
    have hf : findR (xs.map (·.r)) id = none := by rw [hall, hend, ← hl, List.drop_of_length_le (by simp)]; rfl
    rw [hf]
    refine H_exit ?_
    refine thenJ_exit ?_
    refine loopJ_exit ?_
    refine blockJ_hit ?_
    refine thenJ_normal ?_
    refine H_seq ?_
    refine R0 ?_
    refine xV (e_build Try.underlying27 fl27 Try.zeroValue27 E.p0 rfl) rfl rfl ?_
    refine X_st (v := .agg _) rfl rfl Try.sizeOf27 ?_
    refine xV (e_as (v := .bool _) (q0 rfl)) rfl rfl ?_
    refine XN ?_
    refine thenJ_normal ?_
    refine H_ret ?_
    exact ret_of rfl (resc2 0 rfl rfl rfl Try.isAgg27 Try.sizeOf27 rfl rfl) fun w' hw => ⟨zPl, rfl, ((mem_nil.2 hw.1).nilRow 71 4 Pz.cells (c := 0) rfl).nilRow 52 5 Lg.cells (c := 0) rfl⟩

/-! rides picked by a test -/
def RdsNew (l : List Rd) : Type := { y : Option Addr × Nat × List RX // y.2.2.map (·.r) = l }
set_option maxRecDepth 20000 in
theorem of_w (A : Option Addr) (n c : Nat) (xs : List RX) (rider : Int) (w : World) (hx : RdsAt w A n xs) (hs : Short xs) (hn1 : n ≤ 100000) : Calls Try.prog 18 #[.slice A n c, .int .i64 rider] w fun e w' => ∃ y : RdsNew ((xs.map (·.r)).filter fun r => decide (r.rider = rider)), e = .returned (.slice y.1.1 y.1.2.2.length y.1.2.1) ∧ Mem w [rdRow y.1.1 y.1.2.1 y.1.2.2, rdBag y.1.2.2] w' := by
  have hl := hx.1.1
  refine H_enter Try.func18 rfl Try.ntmps18 rfl ?_
  refine H_seq ?_
  refine R0 ?_
  refine xV (e_as (v := .slice _ _ _) (q0 rfl)) rfl rfl ?_
  refine XN ?_
  refine thenJ_normal ?_
  refine H_seq ?_
  refine R0 ?_
  refine xV (e_as (v := .slice _ _ _) (q0 rfl)) rfl rfl ?_
  refine XN ?_
  refine thenJ_normal ?_
  refine H_seq ?_
  refine H_seq ?_
  refine R0 ?_
  refine xV (e_mv (v := .slice _ _ _) (q0 rfl)) rfl rfl ?_
  refine xV (e_len Try.underlying32 (q0 rfl)) rfl rfl ?_
  refine xV (e_mv (v := .int _ _) (q0 rfl)) rfl rfl ?_
  refine XN ?_
  refine thenJ_normal ?_
  refine H_block ?_
  refine H_loop [5, 7, 10, 11, 12, 13, 14, 15, 16, 17, 18, 19, 20, 21, 22, 23] (fun q : Nat × Option Addr × Nat × List RX => [(10, .int .i64 q.1), (5, .slice q.2.1 q.2.2.2.length q.2.2.1)]) (fun q => [rdRow q.2.1 q.2.2.1 q.2.2.2, rdBag q.2.2.2]) (fun q => q.1 ≤ n ∧ q.2.2.2.length ≤ q.1 ∧ q.2.2.2.map (·.r) = ((xs.map (·.r)).take q.1).filter fun r => decide (r.rider = rider)) (fun q => n - q.1) (0, none, 0, []) ⟨rfl, rfl, trivial⟩ (fun w hw => ((mem_nil.2 hw.1).noBag (f := rdParts)).nilRow _ _ _ rfl) rfl ⟨Nat.zero_le _, Nat.le_refl _, rfl⟩ ?_
  rintro ⟨k, oA, oc, ys⟩ g ⟨hk, hyk, hall⟩
  simp only at hk hyk hall
  refine H_seq ?_
  refine R0 ?_
  refine xV (e_lt (q0 rfl) (q0 rfl)) rfl rfl ?_
  refine XN ?_
  refine thenJ_normal ?_
  refine H_seq ?_
  refine H_cond rfl (fun hlt => ?_) (fun hlt => ?_)
  · have hlt' : k < n := by simpa using hlt
    obtain ⟨b, off, y, rfl, hbl, hy, hry⟩ := hx.1.at_ hlt'
    have hym := List.mem_of_getElem? hy
    have hya := hx.2 y hym
    have hys := hs y hym
    have hyr : (xs.map (·.r))[k]? = some y.r := by simp [hy]
    have hst := take_snoc _ _ _ hyr
    refine H_skip ?_
    refine thenJ_normal ?_
    refine H_seq ?_
    refine H_block ?_
    refine H_seq ?_
    refine R0 ?_
    refine xV (e_idx _ Try.underlying32 Try.sizeOf27 (q0 rfl) (q0 rfl) (fun _ => ⟨rfl, by omega⟩)) rfl rfl ?_
    refine xV (eS Try.isAgg27 Try.sizeOf27 (q0 rfl)) rfl rfl ?_
    refine X_alloc Try.zeroValue27 rfl fun b7 => ?_
    refine X_st (v := .agg _) rfl rfl Try.sizeOf27 ?_
    refine XN ?_
    refine thenJ_normal ?_
    refine H_seq ?_
    refine R0 ?_
    refine xV (e_fld Try.underlying27 rfl Try.sizeOf3 rfl (q0 rfl)) rfl rfl ?_
    refine xV (eL Try.isAgg3 (q0 rfl)) rfl rfl ?_
    refine xV (e_mv (v := .int _ _) (q0 rfl)) rfl rfl ?_
    refine xV (e_eq (q0 rfl) (q0 rfl)) rfl rfl ?_
    refine XN ?_
    refine thenJ_normal ?_
    refine H_cond rfl (fun hb => ?_) (fun hb => ?_)
    · have hnew : ∀ z : RPl, (ys ++ [(⟨y.r, z⟩ : RX)]).map (·.r) = ((xs.map (·.r)).take (k + 1)).filter fun r => decide (r.rider = rider) := fun z => by
        rw [hst, List.filter_append, ← hall, List.map_append, List.filter_cons_of_pos (p := fun r : Rd => decide (r.rider = rider)) hb]; rfl
      refine R0 ?_
      refine xV (e_mv (v := .slice _ _ _) (q0 rfl)) rfl rfl ?_
      refine xV (eS Try.isAgg27 Try.sizeOf27 (q0 rfl)) rfl rfl ?_
      refine xCX (en Try.call38 (ha1 (q0 rfl))) (fun w hw => copied_w y w (hya.mem hw) hys.1 hys.2) rfl (fun _ => rfl) fun z => ?_
      refine X_push (k := 13) (i := Try.t27) 3 (⟨y.r, z⟩) Try.underlying32 (by kernel_rfl) rfl rfl rfl rfl Try.sizeOf27 Try.zeroValue27 rfl rfl rfl rfl rfl rfl ⟨by simp only; omega, by decide⟩ rfl rfl fun PB A1 c1 => ?_
      refine xV (e_as (v := .slice _ _ _) (q0 rfl)) rfl rfl ?_
      refine XN ?_
      refine blockJ_normal ?_
      refine thenJ_normal ?_
      refine R0 ?_
      refine xV (e_add (q0 rfl) (q0 rfl) (fun _ => ⟨rfl, by omega, by omega⟩)) rfl rfl ?_
      refine xV (e_mv (v := .int _ _) (q0 rfl)) rfl rfl ?_
      refine XN ?_
      exact loopJ_normal (k + 1, A1, c1, ys ++ [⟨y.r, z⟩]) (by repeat (first | exact agree_self | exact agree_over | refine agree_upd rfl ?_ | refine agree_updL rfl ?_ | refine agree_over2 rfl ?_)) ⟨rfl, rfl, trivial⟩ (fun w hw => by have h1 := hw.pick [0, 1, 4, 3] (by decide); have h2 := Mem.pushed (f := rdParts) (y := ⟨y.r, z⟩) (xs := ys) h1; exact h2.pick [1, 0] (by decide)) rfl ⟨by show k + 1 ≤ _; omega, by simp; omega, hnew z⟩ (by show n - (k + 1) < n - k; omega)
    · have hold : ys.map (·.r) = ((xs.map (·.r)).take (k + 1)).filter fun r => decide (r.rider = rider) := by
        rw [hst, List.filter_append, ← hall, List.filter_cons_of_neg (p := fun r : Rd => decide (r.rider = rider)) (by show ¬ decide (y.r.rider = rider) = true; rw [show decide (y.r.rider = rider) = false from hb]; decide)]; simp
      refine H_skip ?_
      refine blockJ_normal ?_
      refine thenJ_normal ?_
      refine R0 ?_
      refine xV (e_add (q0 rfl) (q0 rfl) (fun _ => ⟨rfl, by omega, by omega⟩)) rfl rfl ?_
      refine xV (e_mv (v := .int _ _) (q0 rfl)) rfl rfl ?_
      refine XN ?_
      exact loopJ_normal (k + 1, oA, oc, ys) (by repeat (first | exact agree_self | exact agree_over | refine agree_upd rfl ?_ | refine agree_updL rfl ?_ | refine agree_over2 rfl ?_)) ⟨rfl, rfl, trivial⟩ (fun w hw => hw.tail) rfl ⟨by show k + 1 ≤ _; omega, by show ys.length ≤ k + 1; omega, hold⟩ (by show n - (k + 1) < n - k; omega)
  · have hend : k = n := by simp at hlt; omega
    have hfin : ys.map (·.r) = (xs.map (·.r)).filter fun r => decide (r.rider = rider) := by rw [hall, hend, ← hl, List.take_of_length_le (by simp)]
    refine H_exit ?_
    refine thenJ_exit ?_
    refine loopJ_exit ?_
    refine blockJ_hit ?_
    refine thenJ_normal ?_
    refine H_seq ?_
    refine R0 ?_
    refine xV (e_mv (v := .slice _ _ _) (q0 rfl)) rfl rfl ?_
    refine xV (e_as (v := .slice _ _ _) (q0 rfl)) rfl rfl ?_
    refine XN ?_
    refine thenJ_normal ?_
    refine H_ret ?_
    exact ret1 (v := .slice _ _ _) rfl rfl rfl fun w' hw => ⟨⟨(oA, oc, ys), hfin⟩, rfl, hw⟩
def finalP (h : Int) (r : Rd) : Bool := !r.open_ && decide (r.end_.lo < h)
set_option maxRecDepth 20000 in
theorem final_w (A : Option Addr) (n c : Nat) (xs : List RX) (h : Int) (w : World) (hx : RdsAt w A n xs) (hs : Short xs) (hn1 : n ≤ 100000) : Calls Try.prog 20 #[.slice A n c, .int .i64 h] w fun e w' => ∃ y : RdsNew ((xs.map (·.r)).filter (finalP h)), e = .returned (.slice y.1.1 y.1.2.2.length y.1.2.1) ∧ Mem w [rdRow y.1.1 y.1.2.1 y.1.2.2, rdBag y.1.2.2] w' := by
  have hl := hx.1.1
  refine H_enter Try.func20 rfl Try.ntmps20 rfl ?_
  refine H_seq ?_
  refine R0 ?_
  refine xV (e_as (v := .slice _ _ _) (q0 rfl)) rfl rfl ?_
  refine XN ?_
  refine thenJ_normal ?_
  refine H_seq ?_
  refine R0 ?_
  refine xV (e_as (v := .slice _ _ _) (q0 rfl)) rfl rfl ?_
  refine XN ?_
  refine thenJ_normal ?_
  refine H_seq ?_
  refine H_seq ?_
  refine R0 ?_
  refine xV (e_mv (v := .slice _ _ _) (q0 rfl)) rfl rfl ?_
  refine xV (e_len Try.underlying32 (q0 rfl)) rfl rfl ?_
  refine xV (e_mv (v := .int _ _) (q0 rfl)) rfl rfl ?_
  refine XN ?_
  refine thenJ_normal ?_
  refine H_block ?_
  refine H_loop [5, 7, 10, 11, 12, 13, 14, 15, 16, 17, 18, 19, 20, 21, 22, 23, 24, 25, 26, 27, 28, 29] (fun q : Nat × Option Addr × Nat × List RX => [(10, .int .i64 q.1), (5, .slice q.2.1 q.2.2.2.length q.2.2.1)]) (fun q => [rdRow q.2.1 q.2.2.1 q.2.2.2, rdBag q.2.2.2]) (fun q => q.1 ≤ n ∧ q.2.2.2.length ≤ q.1 ∧ q.2.2.2.map (·.r) = ((xs.map (·.r)).take q.1).filter (finalP h)) (fun q => n - q.1) (0, none, 0, []) ⟨rfl, rfl, trivial⟩ (fun w hw => ((mem_nil.2 hw.1).noBag (f := rdParts)).nilRow _ _ _ rfl) rfl ⟨Nat.zero_le _, Nat.le_refl _, rfl⟩ ?_
  rintro ⟨k, oA, oc, ys⟩ g ⟨hk, hyk, hall⟩
  simp only at hk hyk hall
  refine H_seq ?_
  refine R0 ?_
  refine xV (e_lt (q0 rfl) (q0 rfl)) rfl rfl ?_
  refine XN ?_
  refine thenJ_normal ?_
  refine H_seq ?_
  refine H_cond rfl (fun hlt => ?_) (fun hlt => ?_)
  · have hlt' : k < n := by simpa using hlt
    obtain ⟨b, off, y, rfl, hbl, hy, hry⟩ := hx.1.at_ hlt'
    have hym := List.mem_of_getElem? hy
    have hya := hx.2 y hym
    have hys := hs y hym
    have hyr : (xs.map (·.r))[k]? = some y.r := by simp [hy]
    have hst := take_snoc _ _ _ hyr
    refine H_skip ?_
    refine thenJ_normal ?_
    refine H_seq ?_
    refine H_block ?_
    refine H_seq ?_
    refine R0 ?_
    refine xV (e_idx _ Try.underlying32 Try.sizeOf27 (q0 rfl) (q0 rfl) (fun _ => ⟨rfl, by omega⟩)) rfl rfl ?_
    refine xV (eS Try.isAgg27 Try.sizeOf27 (q0 rfl)) rfl rfl ?_
    refine X_alloc Try.zeroValue27 rfl fun b7 => ?_
    refine X_st (v := .agg _) rfl rfl Try.sizeOf27 ?_
    refine XN ?_
    refine thenJ_normal ?_
    refine H_seq ?_
    refine R0 ?_
    refine xV (e_fld Try.underlying27 rfl Try.sizeOf4 rfl (q0 rfl)) rfl rfl ?_
    refine xV (eL Try.isAgg4 (q0 rfl)) rfl rfl ?_
    refine xV (e_not (q0 rfl)) rfl rfl ?_
    refine xV (e_mv (v := .bool _) (q0 rfl)) rfl rfl ?_
    refine xVT (e_fld Try.underlying27 rfl Try.sizeOf23 rfl (q0 rfl)) rfl rfl rfl rfl ?_
    refine xVT (e_fld Try.underlying23 rfl Try.sizeOf3 rfl (q1 rfl)) rfl rfl rfl rfl ?_
    refine xVT (eL Try.isAgg3 (q1 rfl)) rfl rfl rfl rfl ?_
    refine xVT (e_mv (v := .int _ _) (q0 rfl)) rfl rfl rfl rfl ?_
    refine xVT (e_lt (q1 rfl) (q1 rfl)) rfl rfl rfl rfl ?_
    refine xV (e_and (q0 rfl) rfl (fun h => by first | rfl | (rw [h]; rfl))) rfl rfl ?_
    refine XN ?_
    refine thenJ_normal ?_
    refine H_cond rfl (fun hb => ?_) (fun hb => ?_)
    · have hnew : ∀ z : RPl, (ys ++ [(⟨y.r, z⟩ : RX)]).map (·.r) = ((xs.map (·.r)).take (k + 1)).filter (finalP h) := fun z => by
        rw [hst, List.filter_append, ← hall, List.map_append, List.filter_cons_of_pos (show finalP h y.r = true from hb)]; rfl
      refine R0 ?_
      refine xV (e_mv (v := .slice _ _ _) (q0 rfl)) rfl rfl ?_
      refine xV (eS Try.isAgg27 Try.sizeOf27 (q0 rfl)) rfl rfl ?_
      refine xCX (en Try.call38 (ha1 (q0 rfl))) (fun w hw => copied_w y w (hya.mem hw) hys.1 hys.2) rfl (fun _ => rfl) fun z => ?_
      refine X_push (k := 13) (i := Try.t27) 3 (⟨y.r, z⟩) Try.underlying32 (by kernel_rfl) rfl rfl rfl rfl Try.sizeOf27 Try.zeroValue27 rfl rfl rfl rfl rfl rfl ⟨by simp only; omega, by decide⟩ rfl rfl fun PB A1 c1 => ?_
      refine xV (e_as (v := .slice _ _ _) (q0 rfl)) rfl rfl ?_
      refine XN ?_
      refine blockJ_normal ?_
      refine thenJ_normal ?_
      refine R0 ?_
      refine xV (e_add (q0 rfl) (q0 rfl) (fun _ => ⟨rfl, by omega, by omega⟩)) rfl rfl ?_
      refine xV (e_mv (v := .int _ _) (q0 rfl)) rfl rfl ?_
      refine XN ?_
      exact loopJ_normal (k + 1, A1, c1, ys ++ [⟨y.r, z⟩]) (by repeat (first | exact agree_self | exact agree_over | refine agree_upd rfl ?_ | refine agree_updL rfl ?_ | refine agree_over2 rfl ?_)) ⟨rfl, rfl, trivial⟩ (fun w hw => by have h1 := hw.pick [0, 1, 4, 3] (by decide); have h2 := Mem.pushed (f := rdParts) (y := ⟨y.r, z⟩) (xs := ys) h1; exact h2.pick [1, 0] (by decide)) rfl ⟨by show k + 1 ≤ _; omega, by simp; omega, hnew z⟩ (by show n - (k + 1) < n - k; omega)
    · have hold : ys.map (·.r) = ((xs.map (·.r)).take (k + 1)).filter (finalP h) := by
        rw [hst, List.filter_append, ← hall, List.filter_cons_of_neg (by rw [show finalP h y.r = false from hb]; decide)]; simp
      refine H_skip ?_
      refine blockJ_normal ?_
      refine thenJ_normal ?_
      refine R0 ?_
      refine xV (e_add (q0 rfl) (q0 rfl) (fun _ => ⟨rfl, by omega, by omega⟩)) rfl rfl ?_
      refine xV (e_mv (v := .int _ _) (q0 rfl)) rfl rfl ?_
      refine XN ?_
      exact loopJ_normal (k + 1, oA, oc, ys) (by repeat (first | exact agree_self | exact agree_over | refine agree_upd rfl ?_ | refine agree_updL rfl ?_ | refine agree_over2 rfl ?_)) ⟨rfl, rfl, trivial⟩ (fun w hw => hw.tail) rfl ⟨by show k + 1 ≤ _; omega, by show ys.length ≤ k + 1; omega, hold⟩ (by show n - (k + 1) < n - k; omega)
  · have hend : k = n := by simp at hlt; omega
    have hfin : ys.map (·.r) = (xs.map (·.r)).filter (finalP h) := by rw [hall, hend, ← hl, List.take_of_length_le (by simp)]
    refine H_exit ?_
    refine thenJ_exit ?_
    refine loopJ_exit ?_
    refine blockJ_hit ?_
    refine thenJ_normal ?_
    refine H_seq ?_
    refine R0 ?_
    refine xV (e_mv (v := .slice _ _ _) (q0 rfl)) rfl rfl ?_
    refine xV (e_as (v := .slice _ _ _) (q0 rfl)) rfl rfl ?_
    refine XN ?_
    refine thenJ_normal ?_
    refine H_ret ?_
    exact ret1 (v := .slice _ _ _) rfl rfl rfl fun w' hw => ⟨⟨(oA, oc, ys), hfin⟩, rfl, hw⟩

end Go.Proofs.Rid
