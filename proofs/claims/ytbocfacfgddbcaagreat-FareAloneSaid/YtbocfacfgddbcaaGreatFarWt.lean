import Derived.Test.YtbocfacfgddbcaaGreatFarW
set_option linter.unusedVariables false
set_option linter.unusedSimpArgs false
/-
  Plain facts: what is paid for the rides of a rider and day is at most the limit.
-/
namespace Go.Proofs.Far
open Go.Proofs.Cus Go.Proofs.Rid

theorem bil_same {f : Fl} {p : Pr} {rs : List Rd} {vs : List Pen.V} (h : allErr f p rs vs = 0) {x y : Bil} (hx : x ∈ allR f p rs vs) (hy : y ∈ allR f p rs vs) (he : x.ride = y.ride) : x = y := by
  have hn2 := List.pairwise_map.1 (allR_nodup h)
  obtain ⟨i1, hi1⟩ := List.getElem?_of_mem hx
  obtain ⟨i2, hi2⟩ := List.getElem?_of_mem hy
  obtain ⟨j1, j2⟩ := List.getElem?_eq_some_iff.1 hi1
  obtain ⟨k1, k2⟩ := List.getElem?_eq_some_iff.1 hi2
  have : i1 = i2 := by
    rcases Nat.lt_trichotomy i1 i2 with hlt | heq | hlt
    · exact absurd (by rw [j2, k2]; omega) (List.pairwise_iff_getElem.1 hn2 i1 i2 j1 k1 hlt)
    · exact heq
    · exact absurd (by rw [j2, k2]; omega) (List.pairwise_iff_getElem.1 hn2 i2 i1 k1 j1 hlt)
  subst this
  rw [hi1] at hi2
  cases hi2
  rfl
/-- what is paid for a ride, apart from penalties -/
def pdOf (l : List Bil) (id : Int) : Int := match l.find? fun c => decide (c.ride = id) with | some c => c.total - fiA c.items | none => 0
theorem pd_closed {f : Fl} {p : Pr} {rs : List Rd} {vs : List Pen.V} (h : allErr f p rs vs = 0) {r : Rd} (hr : r ∈ rs) (ho : r.open_ = false) :
    ∃ (i : Nat) (v : Int) (B : List Bil), FS p ((cntS rs).zip (useOf p (cntS rs))) (cntS rs).length = some B ∧ (cntS rs)[i]? = some r ∧ (paidOf p (cntS rs) B)[i]? = some v ∧ pdOf (allR f p rs vs) r.id = v ∧ 0 ≤ v ∧ v ≤ 1000000000000 := by
  obtain ⟨i, v, B, c, hFS, _, hi, hv, hm, hcr, _, _, _, _, hct, hv0, hv1⟩ := fare_at h hr ho
  refine ⟨i, v, B, hFS, hi, hv, ?_, hv0, hv1⟩
  unfold pdOf
  cases hf : (allR f p rs vs).find? fun c => decide (c.ride = r.id) with
  | none => exact absurd (List.find?_eq_none.1 hf c hm) (by simp [hcr])
  | some c2 =>
    have h1 : c2.ride = r.id := by simpa using List.find?_some hf
    rw [bil_same h (List.mem_of_find?_eq_some hf) hm (h1.trans hcr.symm)]
    exact hct
theorem pd_open {f : Fl} {p : Pr} {rs : List Rd} {vs : List Pen.V} (h : allErr f p rs vs = 0) {r : Rd} (hr : r ∈ rs) (ho : r.open_ = true) : pdOf (allR f p rs vs) r.id = 0 := by
  unfold pdOf
  cases hf : (allR f p rs vs).find? fun c => decide (c.ride = r.id) with
  | none => rfl
  | some c2 =>
    have h1 : c2.ride = r.id := by simpa using List.find?_some hf
    obtain ⟨r2, hr2, ho2, hi2⟩ := allR_ride h (List.mem_of_find?_eq_some hf)
    have := same_id (all_ok h).2.1 hr2 hr (hi2.trans h1)
    rw [this, ho] at ho2
    cases ho2
theorem pd_range {f : Fl} {p : Pr} {rs : List Rd} {vs : List Pen.V} (h : allErr f p rs vs = 0) {r : Rd} (hr : r ∈ rs) : 0 ≤ pdOf (allR f p rs vs) r.id ∧ pdOf (allR f p rs vs) r.id ≤ 1000000000000 := by
  cases ho : r.open_ with
  | true => rw [pd_open h hr ho]; omega
  | false =>
    obtain ⟨_, v, _, _, _, _, hv, h0, h1⟩ := pd_closed h hr ho
    omega
theorem sum_perm {l m : List Int} (h : l.Perm m) : l.sum = m.sum := by
  induction h with
  | nil => rfl
  | cons x _ ih => rw [List.sum_cons, List.sum_cons, ih]
  | swap x y l => simp only [List.sum_cons]; omega
  | trans _ _ h1 h2 => exact h1.trans h2
theorem sum_skip {c q : Rd → Bool} {g : Rd → Int} : ∀ {l : List Rd}, (∀ r ∈ l, c r = false → g r = 0) → (((l.filter c).filter q).map g).sum = ((l.filter q).map g).sum
  | [], _ => rfl
  | r :: l, h => by
    have ih := sum_skip (c := c) (q := q) (g := g) (l := l) fun r hr => h r (List.mem_cons_of_mem _ hr)
    by_cases hc : c r = true
    · rw [List.filter_cons_of_pos hc]
      by_cases hq : q r = true
      · rw [List.filter_cons_of_pos hq, List.filter_cons_of_pos hq, List.map_cons, List.map_cons, List.sum_cons, List.sum_cons, ih]
      · rw [List.filter_cons_of_neg hq, List.filter_cons_of_neg hq, ih]
    · rw [List.filter_cons_of_neg hc, ih]
      by_cases hq : q r = true
      · rw [List.filter_cons_of_pos hq, List.map_cons, List.sum_cons, h r (List.mem_cons_self ..) (by simpa using hc)]; omega
      · rw [List.filter_cons_of_neg hq]
def keyD (x : Dy × Int) : Int × Int × Int := (x.1.rider, x.1.day, x.2)
theorem sumD_key (X : List (Dy × Int)) (r d : Int) : sumD X r d = (((X.map keyD).filter fun t => t.1 == r && t.2.1 == d).map (·.2.2)).sum := by
  unfold sumD
  rw [List.filter_map, List.map_map]
  rfl
/-- rides of a rider and day -/
def ofDay (rd d : Int) (r : Rd) : Bool := decide (r.rider = rd) && decide (r.start.lo / 86400 = d)
def pdSum (l : List Bil) (rs : List Rd) (rd d : Int) (k : Nat) : Int := (((rs.take k).filter (ofDay rd d)).map fun r => pdOf l r.id).sum
theorem pdSum_zero (l : List Bil) (rs : List Rd) (rd d : Int) : pdSum l rs rd d 0 = 0 := rfl
theorem pdSum_succ {l : List Bil} {rs : List Rd} {rd d : Int} {k : Nat} {r : Rd} (h : rs[k]? = some r) : pdSum l rs rd d (k + 1) = pdSum l rs rd d k + if ofDay rd d r = true then pdOf l r.id else 0 := by
  unfold pdSum
  rw [snocT _ _ _ h, List.filter_append, List.map_append, List.sum_append]
  congr 1
  by_cases hb : ofDay rd d r = true
  · rw [List.filter_cons_of_pos hb, if_pos hb]; simp
  · rw [List.filter_cons_of_neg hb, if_neg hb]; rfl
theorem pdSum_range {f : Fl} {p : Pr} {rs : List Rd} {vs : List Pen.V} (h : allErr f p rs vs = 0) (rd d : Int) : ∀ k, k ≤ rs.length → 0 ≤ pdSum (allR f p rs vs) rs rd d k ∧ pdSum (allR f p rs vs) rs rd d k ≤ 1000000000000 * (k : Int)
  | 0, _ => by rw [pdSum_zero]; simp
  | k + 1, hk => by
    have ih := pdSum_range h rd d k (by omega)
    obtain ⟨r, hr⟩ : ∃ r, rs[k]? = some r := ⟨_, List.getElem?_eq_getElem (by omega)⟩
    have hp := pd_range h (List.mem_of_getElem? hr)
    rw [pdSum_succ hr]
    split <;> omega
theorem limit_le {f : Fl} {p : Pr} {rs : List Rd} {vs : List Pen.V} (h : allErr f p rs vs = 0) (hcap : 0 < p.cap) (rd d : Int) {k : Nat} (hk : rs.length = k) : pdSum (allR f p rs vs) rs rd d k ≤ p.cap := by
  obtain ⟨h1, h2, _, B, hFS, hrich, _, _⟩ := all_ok h
  have hlen := hrich.len
  have hg := rdsErr_good h2
  obtain ⟨X, hX⟩ : ∃ X, X = dayS p.cap (((cntS rs).zip B).map dyOf) := ⟨_, rfl⟩
  have hpo : paidOf p (cntS rs) B = X.map (·.2) := by rw [hX]; rfl
  have hfst : X.map (·.1) = ((cntS rs).zip B).map dyOf := by rw [hX]; exact dayS_fst _ _
  have hXl : X.length = (cntS rs).length := by
    have := congrArg List.length hfst
    rw [List.length_map, List.length_map, List.length_zip] at this
    omega
  have hkey : X.map keyD = (cntS rs).map fun r => (r.rider, r.start.lo / 86400, pdOf (allR f p rs vs) r.id) := by
    refine List.ext_getElem? fun i => ?_
    rw [List.getElem?_map, List.getElem?_map]
    by_cases hi : i < (cntS rs).length
    · obtain ⟨r, hr⟩ : ∃ r, (cntS rs)[i]? = some r := ⟨_, List.getElem?_eq_getElem hi⟩
      obtain ⟨x, hx⟩ : ∃ x, X[i]? = some x := ⟨_, List.getElem?_eq_getElem (by omega)⟩
      obtain ⟨b, hb⟩ : ∃ b, B[i]? = some b := ⟨_, List.getElem?_eq_getElem (by omega)⟩
      have hx1 : x.1 = dyOf (r, b) := by
        have := congrArg (fun l => l[i]?) hfst
        simp only [List.getElem?_map, hx, zip_get hr hb, Option.map_some] at this
        exact Option.some.inj this
      obtain ⟨hm, ho⟩ := cntS_closed (List.mem_of_getElem? hr)
      obtain ⟨j, v, B2, hFS2, hj, hv, hpd, _⟩ := pd_closed h hm ho
      rw [hFS] at hFS2
      cases hFS2
      have hji : j = i := by
        have hs := cntS_strict hg
        obtain ⟨a1, a2⟩ := List.getElem?_eq_some_iff.1 hj
        obtain ⟨b1, b2⟩ := List.getElem?_eq_some_iff.1 hr
        rcases Nat.lt_trichotomy j i with hlt | heq | hlt
        · have := List.pairwise_iff_getElem.1 hs j i a1 b1 hlt
          rw [a2, b2] at this
          unfold rideLt at this
          simp at this
        · exact heq
        · have := List.pairwise_iff_getElem.1 hs i j b1 a1 hlt
          rw [a2, b2] at this
          unfold rideLt at this
          simp at this
      rw [hji, hpo, List.getElem?_map, hx] at hv
      have hv2 : x.2 = v := Option.some.inj hv
      rw [hx, hr]
      show some (x.1.rider, x.1.day, x.2) = some (r.rider, r.start.lo / 86400, pdOf (allR f p rs vs) r.id)
      rw [hx1, hv2, hpd]
      rfl
    · rw [List.getElem?_eq_none (by omega), List.getElem?_eq_none (by omega)]; rfl
  have hsum : sumD X rd d = pdSum (allR f p rs vs) rs rd d k := by
    rw [sumD_key, hkey, List.filter_map, List.map_map]
    unfold pdSum
    rw [← hk, List.take_length]
    show (((cntS rs).filter (ofDay rd d)).map fun r => pdOf (allR f p rs vs) r.id).sum = _
    refine Eq.trans (sum_perm ((((cntS_perm rs).filter (ofDay rd d))).map (f := fun r : Rd => pdOf (allR f p rs vs) r.id))) ?_
    exact sum_skip fun r hr hc => pd_open h hr (by simpa using hc)
  rw [← hsum, hX]
  have hok := DS_ok (limit := p.cap) (xs := ((cntS rs).zip B).map dyOf) (by omega) (fun x hx => by
    obtain ⟨y, hy, rfl⟩ := List.mem_map.1 hx
    obtain ⟨i, hi⟩ := List.getElem?_of_mem hy
    rw [List.getElem?_zip_eq_some] at hi
    have := hrich.ride i y.2 y.1 hi.2 hi.1
    exact ⟨this.1, this.2.1⟩) _ (Nat.le_refl _)
  have hds : DS p.cap (((cntS rs).zip B).map dyOf) (((cntS rs).zip B).map dyOf).length = dayS p.cap (((cntS rs).zip B).map dyOf) := by
    unfold DS
    rw [List.take_length]; rfl
  rw [hds] at hok
  exact hok.most hcap rd d
/-- penalties among the first items -/
theorem fiA_succ {l : List Itm} {k : Nat} {i : Itm} (h : l[k]? = some i) : fiA (l.take (k + 1)) = fiA (l.take k) + if i.kind = 7 then i.amount else 0 := by
  unfold fiA
  rw [snocT _ _ _ h, List.filter_append, List.map_append, List.sum_append]
  congr 1
  by_cases hb : i.kind = 7
  · rw [List.filter_cons_of_pos (by simpa using hb), if_pos hb]; simp
  · rw [List.filter_cons_of_neg (by simpa using hb), if_neg hb]; rfl
theorem fiA_bd {l : List Itm} (h : Ab l) : ∀ k, k ≤ l.length → -1000000000000 * (k : Int) ≤ fiA (l.take k) ∧ fiA (l.take k) ≤ 1000000000000 * (k : Int)
  | 0, _ => by unfold fiA; simp
  | k + 1, hk => by
    have ih := fiA_bd h k (by omega)
    obtain ⟨i, hi⟩ : ∃ i, l[k]? = some i := ⟨_, List.getElem?_eq_getElem (by omega)⟩
    have hb := h i (List.mem_of_getElem? hi)
    unfold amBad at hb
    simp at hb
    rw [fiA_succ hi]
    split <;> omega
theorem sumA_bd : ∀ {l : List Itm}, Ab l → -1000000000000 * (l.length : Int) ≤ sumA l ∧ sumA l ≤ 1000000000000 * (l.length : Int)
  | [], _ => by unfold sumA; simp
  | i :: l, h => by
    have ih := sumA_bd (l := l) fun i hi => h i (List.mem_cons_of_mem _ hi)
    have hb := h i (List.mem_cons_self ..)
    unfold amBad at hb
    simp at hb
    have he : sumA (i :: l) = i.amount + sumA l := by unfold sumA; rw [List.map_cons, List.sum_cons]
    rw [he, List.length_cons]
    omega

end Go.Proofs.Far
