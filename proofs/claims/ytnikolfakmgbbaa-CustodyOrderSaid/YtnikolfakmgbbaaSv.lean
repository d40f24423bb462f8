/-
  Plain facts: what holds of the states that are reached.
-/
import Derived.Test.YtnikolfakmgbbaaSt
namespace Go.Proofs.Cus

theorem nodup_fst {l : List (Int × PT)} (h : (l.map (·.1)).Nodup) {p q : Int × PT} (hp : p ∈ l) (hq : q ∈ l) (he : p.1 = q.1) : p = q := by
  obtain ⟨i, hi, rfl⟩ := List.getElem_of_mem hp
  obtain ⟨j, hj, rfl⟩ := List.getElem_of_mem hq
  have := List.pairwise_iff_getElem.1 h
  rcases Nat.lt_trichotomy i j with h1 | h1 | h1
  · exact absurd (by rw [List.getElem_map, List.getElem_map]; exact he) (this i j (by simpa using hi) (by simpa using hj) h1)
  · subst h1; rfl
  · exact absurd (by rw [List.getElem_map, List.getElem_map]; exact he.symm) (this j i (by simpa using hj) (by simpa using hi) h1)
theorem mem_eraseKey : ∀ {l : List (Int × PT)}, (l.map (·.1)).Nodup → ∀ {r : Int} {p : Int × PT}, p ∈ l.eraseP (fun q => q.1 == r) ↔ p ∈ l ∧ p.1 ≠ r
  | [], _, r, p => by simp
  | y :: l, h, r, p => by
    simp only [List.map_cons, List.nodup_cons] at h
    by_cases hy : y.1 = r
    · rw [List.eraseP_cons_of_pos (by simpa using hy)]
      refine ⟨fun hp => ⟨List.mem_cons_of_mem _ hp, fun e => h.1 ?_⟩, fun ⟨hp, hne⟩ => ?_⟩
      · rw [hy, ← e]; exact List.mem_map.2 ⟨p, hp, rfl⟩
      · rcases List.mem_cons.1 hp with rfl | hp
        · exact absurd hy hne
        · exact hp
    · rw [List.eraseP_cons_of_neg (by simpa using hy)]
      simp only [List.mem_cons]
      rw [mem_eraseKey h.2]
      constructor
      · rintro (rfl | ⟨h1, h2⟩)
        · exact ⟨.inl rfl, hy⟩
        · exact ⟨.inr h1, h2⟩
      · rintro ⟨rfl | h1, h2⟩
        · exact .inl rfl
        · exact .inr ⟨h1, h2⟩
theorem mem_setTrip {l : List (Int × PT)} {id : Int} {t : PT} {p : Int × PT} : p ∈ setTrip l id t ↔ (∃ q ∈ l, q.1 = id ∧ p = (id, t)) ∨ (p ∈ l ∧ p.1 ≠ id) := by
  unfold setTrip
  rw [List.mem_map]
  constructor
  · rintro ⟨q, hq, rfl⟩
    by_cases h : q.1 = id
    · left; exact ⟨q, hq, h, by simp [h]⟩
    · right; rw [if_neg (by simpa using h)]; exact ⟨hq, h⟩
  · rintro (⟨q, hq, h, rfl⟩ | ⟨hp, hne⟩)
    · exact ⟨q, hq, by simp [h]⟩
    · exact ⟨p, hp, by rw [if_neg (by simpa using hne)]⟩
theorem setTrip_keys (l : List (Int × PT)) (id : Int) (t : PT) : (setTrip l id t).map (·.1) = l.map (·.1) := by
  unfold setTrip
  rw [List.map_map]
  apply List.map_congr_left
  intro p _
  simp only [Function.comp]
  split <;> rfl
theorem lookP_some {l : List (Int × PT)} {id : Int} {t : PT} (h : lookP l id = some t) : (id, t) ∈ l := by
  unfold lookP at h
  cases hf : l.find? (fun p => p.1 == id) with
  | none => rw [hf] at h; cases h
  | some p =>
    rw [hf] at h
    have h1 := List.find?_some hf
    have h2 := List.mem_of_find?_eq_some hf
    simp only [Option.map_some, Option.some.injEq] at h
    simp only [beq_iff_eq] at h1
    rw [← h1, ← h]; exact h2
theorem lookP_of {l : List (Int × PT)} (hn : (l.map (·.1)).Nodup) {id : Int} {t : PT} (h : (id, t) ∈ l) : lookP l id = some t := by
  unfold lookP
  cases hf : l.find? (fun p => p.1 == id) with
  | none => have := List.find?_eq_none.1 hf _ h; simp at this
  | some p =>
    have h1 := List.find?_some hf
    simp only [beq_iff_eq] at h1
    have := nodup_fst hn (List.mem_of_find?_eq_some hf) h h1
    rw [this]; rfl
theorem usedP_mem {l : List Int} {id : Int} : usedP l id = true ↔ id ∈ l := by
  unfold usedP
  rw [List.any_eq_true]
  exact ⟨fun ⟨x, hx, h⟩ => by rw [← eq_of_beq h]; exact hx, fun h => ⟨id, h, by simp⟩⟩
theorem usePut_mem {l : List Int} {id x : Int} : x ∈ usePut l id ↔ x ∈ l ∨ x = id := by
  unfold usePut
  split
  · rename_i h
    exact ⟨.inl, fun h' => h'.elim (fun h => h) fun e => e ▸ usedP_mem.1 h⟩
  · simp

section
variable {n : Nat} {s : PS}
theorem get_of {s : PS} (k : Nat) (h : k < s.spots.length) : ∃ x, s.spots[k]? = some x ∧ s.spots.getD k default = x := by
  refine ⟨_, List.getElem?_eq_getElem h, ?_⟩
  rw [List.getD_eq_getElem?_getD, List.getElem?_eq_getElem h]; rfl

theorem PInv.leave (h : PInv n s) (k : Nat) (hk : k < n) (to : Sp) (hto : to.where_ ≠ 3) : PInv n (leaveP s k to) := by
  obtain ⟨x, hx, hg⟩ := get_of (s := s) k (by rw [h.len]; exact hk)
  have hmem : ∀ p, p ∈ (leaveP s k to).open_ ↔ p ∈ s.open_ ∧ (x.where_ = 3 → p.1 ≠ x.ride) := by
    intro p
    unfold leaveP
    rw [hg]
    by_cases h3 : x.where_ = 3
    · simp only [h3, if_true, true_implies]; exact mem_eraseKey h.keys
    · simp only [h3, if_false, false_implies, and_true]
  have hsp : ∀ j : Nat, (leaveP s k to).spots[j]? = if k = j then some to else s.spots[j]? := by
    intro j
    show (s.spots.set k to)[j]? = _
    rw [List.getElem?_set]
    by_cases e : k = j
    · subst e; simp; rw [h.len]; exact hk
    · simp [e]
  refine ⟨by show (s.spots.set k to).length = n; rw [List.length_set]; exact h.len, ?_, fun p hp => h.used p ((hmem p).1 hp).1, fun p hp => ?_, fun j y hy h3 => ?_⟩
  · unfold leaveP
    rw [hg]
    by_cases h3 : x.where_ = 3
    · simp only [h3, if_true]
      exact h.keys.sublist (List.eraseP_sublist.map _)
    · simp only [h3, if_false]; exact h.keys
  · obtain ⟨hp1, hp2⟩ := (hmem p).1 hp
    obtain ⟨hb, y, hy, y3, yr, yp⟩ := h.bike p hp1
    refine ⟨hb, y, ?_, y3, yr, yp⟩
    rw [hsp, if_neg (fun e => ?_)]
    · exact hy
    · rw [← e, hx] at hy
      cases hy
      exact hp2 y3 yr.symm
  · rw [hsp] at hy
    split at hy
    · cases hy; exact absurd h3 hto
    · rename_i hne
      obtain ⟨t, ht, hb⟩ := h.spot j y hy h3
      refine ⟨t, (hmem _).2 ⟨ht, fun x3 e => hne ?_⟩, hb⟩
      obtain ⟨t2, ht2, hb2⟩ := h.spot k x hx x3
      have := nodup_fst h.keys ht ht2 e
      simp only [Prod.mk.injEq] at this
      rw [this.2, hb2] at hb
      omega

theorem PInv.start (h : PInv n s) (k : Nat) (hk : k < n) (ride rider : Int) (hx3 : (s.spots.getD k default).where_ ≠ 3) (hu : usedP s.used ride = false) :
    PInv n { spots := s.spots.set k ⟨3, 0, ride, false⟩, open_ := s.open_ ++ [(ride, ⟨rider, k, false⟩)], used := usePut s.used ride } := by
  obtain ⟨x, hx, hg⟩ := get_of (s := s) k (by rw [h.len]; exact hk)
  rw [hg] at hx3
  have hsp : ∀ j : Nat, (s.spots.set k ⟨3, 0, ride, false⟩)[j]? = if k = j then some ⟨3, 0, ride, false⟩ else s.spots[j]? := by
    intro j
    rw [List.getElem?_set]
    by_cases e : k = j
    · subst e; simp; rw [h.len]; exact hk
    · simp [e]
  have hnew : ∀ p ∈ s.open_, p.1 ≠ ride := fun p hp e => by
    have := h.used p hp
    rw [e, hu] at this; cases this
  refine ⟨by simpa using h.len, ?_, ?_, ?_, ?_⟩
  · simp only [List.map_append, List.map_cons, List.map_nil]
    refine List.nodup_append.2 ⟨h.keys, by simp, fun a ha b hb => ?_⟩
    simp only [List.mem_singleton] at hb
    obtain ⟨p, hp, rfl⟩ := List.mem_map.1 ha
    rw [hb]; exact hnew p hp
  · intro p hp
    rw [usedP_mem, usePut_mem]
    rcases List.mem_append.1 hp with hp | hp
    · left; exact usedP_mem.1 (h.used p hp)
    · right; simp only [List.mem_singleton] at hp; rw [hp]
  · intro p hp
    rcases List.mem_append.1 hp with hp | hp
    · obtain ⟨hb, y, hy, y3, yr⟩ := h.bike p hp
      refine ⟨hb, y, ?_, y3, yr⟩
      rw [hsp, if_neg (fun e => ?_)]
      · exact hy
      · rw [← e, hx] at hy; cases hy; exact hx3 y3
    · simp only [List.mem_singleton] at hp
      subst hp
      exact ⟨by simp, ⟨3, 0, ride, false⟩, by rw [hsp]; simp, rfl, rfl, rfl⟩
  · intro j y hy h3
    simp only at hy
    rw [hsp] at hy
    split at hy
    · rename_i e
      cases hy
      exact ⟨⟨rider, k, false⟩, List.mem_append.2 (.inr (by simp)), by simp [e]⟩
    · obtain ⟨t, ht, hb⟩ := h.spot j y hy h3
      exact ⟨t, List.mem_append.2 (.inl ht), hb⟩

theorem PInv.swap (h : PInv n s) (k : Nat) (hk : k < n) (ride : Int) (t : PT) (ht : (ride, t) ∈ s.open_) (hx3 : (s.spots.getD k default).where_ ≠ 3) (hp : t.paused = false) :
    PInv n { s with spots := (s.spots.set t.bike.toNat (s.spots.getD k default)).set k ⟨3, 0, ride, false⟩, open_ := setTrip s.open_ ride { t with bike := (k : Int) } } := by
  obtain ⟨x, hx, hg⟩ := get_of (s := s) k (by rw [h.len]; exact hk)
  rw [hg] at hx3 ⊢
  obtain ⟨hb0, y, hy, y3, yr, yp⟩ := h.bike _ ht
  simp only at hb0 hy yr yp
  obtain ⟨j, hj⟩ : ∃ j, j = t.bike.toNat := ⟨_, rfl⟩
  rw [← hj] at hy ⊢
  have hjk : j ≠ k := fun e => by rw [e, hx] at hy; cases hy; exact hx3 y3
  have hjn : j < s.spots.length := (List.getElem?_eq_some_iff.1 hy).1
  have hsp : ∀ i : Nat, ((s.spots.set j x).set k ⟨3, 0, ride, false⟩)[i]? = if k = i then some ⟨3, 0, ride, false⟩ else if j = i then some x else s.spots[i]? := by
    intro i
    rw [List.getElem?_set, List.getElem?_set]
    by_cases e : k = i
    · subst e; simp; rw [h.len]; exact hk
    · simp only [e, if_false]
      by_cases e2 : j = i
      · subst e2; simp [hjn]
      · simp [e2]
  refine ⟨by simpa using h.len, by simp only [setTrip_keys]; exact h.keys, ?_, ?_, ?_⟩
  · intro p hp
    rcases mem_setTrip.1 hp with ⟨q, hq, hq1, rfl⟩ | ⟨hp, _⟩
    · have := h.used q hq; rw [hq1] at this; exact this
    · exact h.used p hp
  · intro p hp'
    rcases mem_setTrip.1 hp' with ⟨q, hq, hq1, rfl⟩ | ⟨hp', hne⟩
    · exact ⟨by simp, ⟨3, 0, ride, false⟩, by rw [hsp]; simp, rfl, rfl, hp.symm⟩
    · obtain ⟨hb, z, hz, z3, zr, zp⟩ := h.bike p hp'
      refine ⟨hb, z, ?_, z3, zr, zp⟩
      rw [hsp, if_neg (fun e => ?_), if_neg (fun e => ?_)]
      · exact hz
      · rw [← e, hy] at hz; cases hz; exact hne (zr.symm.trans yr)
      · rw [← e, hx] at hz; cases hz; exact hx3 z3
  · intro i z hz h3
    simp only at hz
    rw [hsp] at hz
    split at hz
    · rename_i e
      cases hz
      exact ⟨_, mem_setTrip.2 (.inl ⟨_, ht, rfl, rfl⟩), by simp [e]⟩
    · rename_i hki
      split at hz
      · cases hz; exact absurd h3 hx3
      · rename_i hji
        obtain ⟨t2, ht2, hb2⟩ := h.spot i z hz h3
        refine ⟨t2, mem_setTrip.2 (.inr ⟨ht2, fun e => hji ?_⟩), hb2⟩
        have := nodup_fst h.keys ht2 ht e
        simp only [Prod.mk.injEq] at this
        rw [this.2] at hb2
        omega

theorem PInv.pause (h : PInv n s) (k : Nat) (hk : k < n) (pa : Bool) (t : PT) (hx3 : (s.spots.getD k default).where_ = 3) (ht : ((s.spots.getD k default).ride, t) ∈ s.open_) :
    PInv n { s with spots := s.spots.set k { (s.spots.getD k default) with paused := pa }, open_ := setTrip s.open_ (s.spots.getD k default).ride { t with paused := pa } } := by
  obtain ⟨x, hx, hg⟩ := get_of (s := s) k (by rw [h.len]; exact hk)
  rw [hg] at hx3 ht ⊢
  obtain ⟨t2, ht2, hb2⟩ := h.spot k x hx hx3
  have htt := nodup_fst h.keys ht2 ht rfl
  simp only [Prod.mk.injEq, true_and] at htt
  subst htt
  have hsp : ∀ i : Nat, (s.spots.set k { x with paused := pa })[i]? = if k = i then some { x with paused := pa } else s.spots[i]? := by
    intro i
    rw [List.getElem?_set]
    by_cases e : k = i
    · subst e; simp; rw [h.len]; exact hk
    · simp [e]
  refine ⟨by simpa using h.len, by simp only [setTrip_keys]; exact h.keys, ?_, ?_, ?_⟩
  · intro p hp
    rcases mem_setTrip.1 hp with ⟨q, hq, hq1, rfl⟩ | ⟨hp, _⟩
    · have := h.used q hq; rw [hq1] at this; exact this
    · exact h.used p hp
  · intro p hp'
    rcases mem_setTrip.1 hp' with ⟨q, hq, hq1, rfl⟩ | ⟨hp', hne⟩
    · refine ⟨by show 0 ≤ t2.bike; omega, { x with paused := pa }, ?_, hx3, rfl, rfl⟩
      show (s.spots.set k { x with paused := pa })[t2.bike.toNat]? = _
      rw [hsp, if_pos (by omega)]
    · obtain ⟨hb, z, hz, z3, zr, zp⟩ := h.bike p hp'
      refine ⟨hb, z, ?_, z3, zr, zp⟩
      rw [hsp, if_neg (fun e => ?_)]
      · exact hz
      · rw [← e, hx] at hz; cases hz; exact hne zr.symm
  · intro i z hz h3
    simp only at hz
    rw [hsp] at hz
    split at hz
    · rename_i e
      cases hz
      exact ⟨_, mem_setTrip.2 (.inl ⟨_, ht2, rfl, rfl⟩), by show t2.bike = _; omega⟩
    · rename_i hki
      obtain ⟨t3, ht3, hb3⟩ := h.spot i z hz h3
      refine ⟨t3, mem_setTrip.2 (.inr ⟨ht3, fun e => hki ?_⟩), hb3⟩
      have := nodup_fst h.keys ht3 ht2 e
      simp only [Prod.mk.injEq] at this
      rw [this.2] at hb3
      omega

theorem refuse_ok {no : Bool} {e : Int} (he : e ≠ 0) (h : refuse no e = 0) : no = false := by
  unfold refuse at h
  cases no with
  | false => rfl
  | true => rw [if_pos rfl] at h; exact absurd h he
theorem parked_no3 {x : Sp} (h : parkedS x = true) : x.where_ ≠ 3 := by
  unfold parkedS at h
  simp at h
  omega
theorem PInv.step (h : PInv n s) {tr : List Int} {e : Ev} (hb : 0 ≤ e.bike ∧ e.bike < n) (hc : checkP tr s e = 0) : PInv n (doP s e) := by
  have hk : e.bike.toNat < n := by omega
  have hbk : ((e.bike.toNat : Nat) : Int) = e.bike := by omega
  unfold checkP at hc
  unfold doP
  simp only at hc ⊢
  by_cases h1 : e.kind = 1
  · rw [if_pos h1]; exact h.leave _ hk _ (by simp)
  rw [if_neg h1] at hc ⊢
  by_cases h2 : e.kind = 2
  · rw [if_pos h2]; exact h.leave _ hk _ (by simp)
  rw [if_neg h2] at hc ⊢
  by_cases h3 : e.kind = 3
  · rw [if_pos h3] at hc ⊢
    split at hc
    · cases hc
    · rename_i hp
      split at hc
      · cases hc
      · rename_i hu
        have := h.start e.bike.toNat hk e.ride e.rider (parked_no3 (by simpa using hp)) (by simpa using hu)
        rw [hbk] at this
        exact this
  rw [if_neg h3] at hc ⊢
  by_cases h4 : e.kind = 4
  · rw [if_pos h4] at hc ⊢
    cases hl : lookP s.open_ e.ride with
    | none => exact h
    | some t =>
      rw [hl] at hc
      simp only at hc ⊢
      split at hc
      · cases hc
      · rename_i hp
        have := h.swap e.bike.toNat hk e.ride t (lookP_some hl) (parked_no3 (by simpa using hp)) (refuse_ok (by decide) hc)
        rw [hbk] at this
        exact this
  rw [if_neg h4] at hc ⊢
  by_cases h5 : e.kind = 5 ∨ e.kind = 6
  · rw [if_pos h5] at hc ⊢
    split at hc
    · cases hc
    · rename_i hw
      have hw' : (s.spots.getD e.bike.toNat default).where_ = 3 := Decidable.of_not_not hw
      obtain ⟨x, hx, hg⟩ := get_of (s := s) e.bike.toNat (by rw [h.len]; exact hk)
      obtain ⟨t, ht, _⟩ := h.spot _ x hx (by rw [← hg]; exact hw')
      rw [← hg] at ht
      rw [lookP_of h.keys ht]
      exact h.pause e.bike.toNat hk (decide (e.kind = 5)) t hw' ht
  rw [if_neg h5] at hc ⊢
  by_cases h7 : e.kind = 7
  · rw [if_pos h7]; exact h.leave _ hk _ (by simp)
  rw [if_neg h7] at hc ⊢
  by_cases h8 : e.kind = 8
  · rw [if_pos h8]; exact h.leave _ hk _ (by simp)
  rw [if_neg h8] at hc ⊢
  by_cases h9 : e.kind = 9
  · rw [if_pos h9]; exact h.leave _ hk _ (by simp)
  rw [if_neg h9]
  exact h
theorem PInv.begin (n : Nat) : PInv n (beginP n) := by
  refine ⟨by simp [beginP], by simp [beginP], fun p hp => by simp [beginP] at hp, fun p hp => by simp [beginP] at hp, fun k x hx h3 => ?_⟩
  simp only [beginP, List.getElem?_replicate] at hx
  split at hx
  · cases hx; simp at h3
  · cases hx
end

end Go.Proofs.Cus
