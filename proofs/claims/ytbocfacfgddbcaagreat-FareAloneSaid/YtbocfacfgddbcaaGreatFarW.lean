import Derived.Test.YtbocfacfgddbcaaGreatFarU
set_option linter.unusedVariables false
set_option linter.unusedSimpArgs false
/-
  Plain functions: what the items of a fare are.
-/
namespace Go.Proofs.Far
open Go.Proofs.Cus Go.Proofs.Rid

/-- kinds up to k, each greater than the one before it; no amount is 0 -/
structure Kd (k : Int) (l : List Itm) : Prop where
  all : ∀ i ∈ l, i.kind ≤ k ∧ i.amount ≠ 0
  asc : l.Pairwise fun a b => a.kind < b.kind
theorem Kd.nil (k : Int) : Kd k [] := ⟨fun i hi => (by cases hi), List.Pairwise.nil⟩
theorem addB_Kd {b : Bil} {k : Int} (h : Kd k b.items) {k' r a : Int} (hk : k < k') : Kd k' (addB b k' r a).items := by
  unfold addB
  split
  · exact ⟨fun i hi => ⟨by have := (h.all i hi).1; omega, (h.all i hi).2⟩, h.asc⟩
  · rename_i ha
    refine ⟨fun i hi => ?_, List.pairwise_append.2 ⟨h.asc, by simp, fun x hx y hy => ?_⟩⟩
    · rcases List.mem_append.1 hi with hi | hi
      · exact ⟨by have := (h.all i hi).1; omega, (h.all i hi).2⟩
      · simp at hi; subst hi; exact ⟨Int.le_refl _, ha⟩
    · simp at hy; subst hy
      have := (h.all x hx).1
      simp only; omega
/-- amounts that Sum takes -/
def Ab (l : List Itm) : Prop := ∀ i ∈ l, amBad i = false
theorem Ab.nil : Ab [] := fun i hi => by cases hi
theorem addB_Ab {b : Bil} (h : Ab b.items) {k r a : Int} (ha : -1000000000000 ≤ a ∧ a ≤ 1000000000000) : Ab (addB b k r a).items := by
  unfold addB
  split
  · exact h
  · intro i hi
    rcases List.mem_append.1 hi with hi | hi
    · exact h i hi
    · simp at hi; subst hi
      unfold amBad
      simp; omega
def sumA (l : List Itm) : Int := (l.map (·.amount)).sum
theorem addB_sumA {b : Bil} (h : sumA b.items = b.total) (k r a : Int) : sumA (addB b k r a).items = (addB b k r a).total := by
  unfold addB
  split
  · exact h
  · unfold sumA at *
    simp only [List.map_append, List.map_cons, List.map_nil, List.sum_append, List.sum_cons, List.sum_nil]
    omega
/-- the first item for time -/
def tmOf (l : List Itm) : Int := match l.find? fun i => decide (i.kind = 2) with | some i => i.amount | none => 0
theorem tm_other {b : Bil} {k r a : Int} (hk : k ≠ 2) : tmOf (addB b k r a).items = tmOf b.items := by
  unfold addB
  split
  · rfl
  · unfold tmOf
    rw [List.find?_append]
    cases hf : b.items.find? fun i => decide (i.kind = 2) with
    | some i => rfl
    | none =>
      have : ([(⟨k, r, a⟩ : Itm)].find? fun i => decide (i.kind = 2)) = none := by simp [hk]
      rw [this]; rfl
theorem tm_two {b : Bil} {r a : Int} (h : ∀ i ∈ b.items, i.kind ≠ 2) : tmOf (addB b 2 r a).items = a := by
  have hn : (b.items.find? fun i => decide (i.kind = 2)) = none := by
    rw [List.find?_eq_none]
    intro i hi
    simpa using h i hi
  unfold addB
  split
  · rename_i ha
    unfold tmOf
    rw [hn]; simp only; omega
  · unfold tmOf
    rw [List.find?_append, hn]
    rfl
/-- what is paid apart from penalties -/
def fiA (l : List Itm) : Int := ((l.filter fun i => decide (i.kind = 7)).map (·.amount)).sum
theorem fi_other {b : Bil} {k r a : Int} (hk : k ≠ 7) : fiA (addB b k r a).items = fiA b.items := by
  unfold addB
  split
  · rfl
  · unfold fiA
    rw [List.filter_append]
    simp [hk]
theorem fi_seven {b : Bil} {r a : Int} : fiA (addB b 7 r a).items = fiA b.items + a := by
  unfold addB
  split
  · rename_i ha; omega
  · unfold fiA
    rw [List.filter_append]
    simp
/-- the pieces of a fare before the limit -/
theorem first_parts {f : Fl} {p : Pr} {r : Rd} {u : Int} {b : Bil} (he : prErr f p = 0) (hc : checkR r = 0) (h : firstP p r u = some b) : Kd 5 b.items ∧ Ab b.items ∧ sumA b.items = b.total ∧ tmOf b.items = ridP (verT p r) (ridS r) ∧ fiA b.items = 0 ∧ ridP (verT p r) (ridS r) ≤ 1000000000000 := by
  obtain ⟨_, htf, hpas, _⟩ := prErr_parts he
  obtain ⟨hvk, hvt⟩ := ver_ok (r := r) htf
  have hvi := tfOk_iff.1 hvt
  have hrs := ridS_range hc
  have hps := pauS_range hc
  have hrn := ridP_nn hvt (s := ridS r) hrs.2
  have hpn := pauP_nn hvt (s := pauS r) hps.2
  have hfee := place_fee he r
  have hbt := base_total p r
  have hplt := plc_total p r
  unfold firstP at h
  split at h
  · cases h
  · split at h
    · cases h
    · split at h
      · cases h
      · split at h
        · cases h
        · rename_i g1 g2 g3 g4
          cases h
          have k1 : Kd 1 (addB ⟨r.id, r.rider, [], 0⟩ 1 (verO p r) (verT p r).unlock).items := addB_Kd (k := 0) (Kd.nil 0) (by decide)
          have h3 : Kd 3 (baseB p r).items ∧ Ab (baseB p r).items ∧ sumA (baseB p r).items = (baseB p r).total ∧ tmOf (baseB p r).items = ridP (verT p r) (ridS r) ∧ fiA (baseB p r).items = 0 := by
            unfold baseB
            refine ⟨addB_Kd (addB_Kd k1 (by decide)) (by decide), addB_Ab (addB_Ab (addB_Ab Ab.nil (by omega)) (by omega)) (by omega), addB_sumA (addB_sumA (addB_sumA rfl _ _ _) _ _ _) _ _ _, ?_, ?_⟩
            · rw [tm_other (by decide), tm_two]
              intro i hi
              have := (k1.all i hi).1
              omega
            · rw [fi_other (by decide), fi_other (by decide), fi_other (by decide)]; rfl
          obtain ⟨a1, a2, a3, a4, a5⟩ := h3
          have h4 : Kd 4 (plcB p r).items ∧ Ab (plcB p r).items ∧ sumA (plcB p r).items = (plcB p r).total ∧ tmOf (plcB p r).items = ridP (verT p r) (ridS r) ∧ fiA (plcB p r).items = 0 := by
            unfold plcB
            exact ⟨addB_Kd a1 (by decide), addB_Ab a2 (by omega), addB_sumA a3 _ _ _, by rw [tm_other (by decide)]; exact a4, by rw [fi_other (by decide)]; exact a5⟩
          obtain ⟨b1, b2, b3, b4, b5⟩ := h4
          refine ⟨?_, ?_, ?_, ?_, ?_, by omega⟩ <;> unfold passB
          · split
            · exact addB_Kd b1 (by decide)
            · exact ⟨fun i hi => ⟨by have := (b1.all i hi).1; omega, (b1.all i hi).2⟩, b1.asc⟩
          · split
            · rename_i hu
              refine addB_Ab b2 ?_
              have hsec : (p.passes.getD u.toNat default).secs ≤ 86400 := by
                rw [List.getD_eq_getElem?_getD]
                cases hq : p.passes[u.toNat]? with
                | none => show (default : Pas).secs ≤ 86400; decide
                | some q =>
                  have hb : p.passes.any pasBad = false := by
                    unfold pasErr at hpas
                    split at hpas
                    · cases hpas
                    · split at hpas
                      · cases hpas
                      · rename_i h8; simpa using h8
                  rw [List.any_eq_false] at hb
                  have h10 := hb q (List.mem_of_getElem? hq)
                  unfold pasBad pasBad1 at h10
                  simp only [Bool.or_eq_true, not_or, Bool.not_eq_true, Bool.not_eq_true', Bool.not_eq_false, inI_iff] at h10
                  exact h10.1.2.2
              have hmn : min (ridS r) (p.passes.getD u.toNat default).secs ≤ 86400 := by omega
              have hnn := ridP_nn hvt (s := min (ridS r) (p.passes.getD u.toNat default).secs) (by omega)
              have hpp : partP p r u ≤ 86400000000 := by
                have hst : stepsP (verT p r) (min (ridS r) (p.passes.getD u.toNat default).secs - (verT p r).free) ≤ 86400 := by
                  unfold stepsP
                  rw [Int.ediv_le_iff_le_mul (by omega)]
                  have h86 : (86400 : Int) * 1 ≤ 86400 * (verT p r).step := Int.mul_le_mul_of_nonneg_left hvi.2.2.2.2.1.1 (by decide)
                  omega
                have hs0 := (steps_nn hvt (s := min (ridS r) (p.passes.getD u.toNat default).secs - (verT p r).free) (by omega)).1
                unfold partP ridP
                have h1 : (verT p r).price * stepsP (verT p r) (min (ridS r) (p.passes.getD u.toNat default).secs - (verT p r).free) ≤ 1000000 * stepsP (verT p r) (min (ridS r) (p.passes.getD u.toNat default).secs - (verT p r).free) := Int.mul_le_mul_of_nonneg_right hvi.2.2.1.2 hs0
                omega
              have hp0 : 0 ≤ partP p r u := by unfold partP; exact hnn
              omega
            · exact b2
          · split
            · exact addB_sumA b3 _ _ _
            · exact b3
          · split
            · rw [tm_other (by decide)]; exact b4
            · exact b4
          · split
            · rw [fi_other (by decide)]; exact b5
            · exact b5
theorem fin_parts {p : Pr} {vs : List Pen.V} {b : Bil} {v : Int} (h1 : Pen.pErr p.fines p.days = 0) (hk : Kd 5 b.items) (hab : Ab b.items) (hs : sumA b.items = b.total) (hf : fiA b.items = 0) (hb : 0 ≤ b.total ∧ b.total ≤ 1000000000000) (hv : 0 ≤ v ∧ v ≤ 1000000000000) :
    Kd 7 (finB p vs b (v - b.total)).items ∧ Ab (finB p vs b (v - b.total)).items ∧ sumA (finB p vs b (v - b.total)).items = (finB p vs b (v - b.total)).total ∧ tmOf (finB p vs b (v - b.total)).items = tmOf b.items ∧ (finB p vs b (v - b.total)).total - fiA (finB p vs b (v - b.total)).items = v ∧ 0 ≤ (finB p vs b (v - b.total)).total := by
  have hfr := fineR_range (vs := vs) (i := vIdx vs b.ride) h1
  have c1 : Kd 6 (addB b 6 0 (v - b.total)).items := addB_Kd hk (by decide)
  have c2 : Ab (addB b 6 0 (v - b.total)).items := addB_Ab hab (by omega)
  have c3 := addB_sumA hs 6 0 (v - b.total)
  have c4 : (addB b 6 0 (v - b.total)).total = v := by rw [addB_total]; omega
  have c5 : fiA (addB b 6 0 (v - b.total)).items = 0 := by rw [fi_other (by decide)]; exact hf
  have c6 : tmOf (addB b 6 0 (v - b.total)).items = tmOf b.items := tm_other (by decide)
  unfold finB
  split
  · exact ⟨⟨fun i hi => ⟨by have := (c1.all i hi).1; omega, (c1.all i hi).2⟩, c1.asc⟩, c2, c3, c6, by omega, by omega⟩
  · refine ⟨addB_Kd c1 (by decide), addB_Ab c2 (by omega), addB_sumA c3 _ _ _, by rw [tm_other (by decide)]; exact c6, ?_, ?_⟩
    · rw [addB_total, fi_seven]; omega
    · rw [addB_total]; omega
/-- a fare among all -/
structure FareOk (c : Bil) : Prop where
  kinds : Kd 7 c.items
  amounts : Ab c.items
  sums : sumA c.items = c.total
  nn : 0 ≤ c.total
  len : c.items.length ≤ 7
theorem fare_at {f : Fl} {p : Pr} {rs : List Rd} {vs : List Pen.V} (h : allErr f p rs vs = 0) {r : Rd} (hr : r ∈ rs) (ho : r.open_ = false) : ∃ (i : Nat) (v : Int) (B : List Bil) (c : Bil), FS p ((cntS rs).zip (useOf p (cntS rs))) (cntS rs).length = some B ∧ Rich (cntS rs) B ∧ (cntS rs)[i]? = some r ∧ (paidOf p (cntS rs) B)[i]? = some v ∧ c ∈ allR f p rs vs ∧ c.ride = r.id ∧ c.rider = r.rider ∧ FareOk c ∧ tmOf c.items = ridP (verT p r) (ridS r) ∧ ridP (verT p r) (ridS r) ≤ 1000000000000 ∧ c.total - fiA c.items = v ∧ 0 ≤ v ∧ v ≤ 1000000000000 := by
  obtain ⟨h1, h2, _⟩ := all_ok h
  obtain ⟨B, i, u, b, v, c, hFS, hrich, hi, hu, hb, hfp, hv, hc, hcm, hcr, hcd, hct, hv0, hv1⟩ := all_at h hr ho
  have hck : checkR r = 0 := (rdsErr_good h2).ok r hr
  obtain ⟨a1, a2, a3, a4, a5, a6⟩ := first_parts h1 hck hfp
  have hrr := hrich.ride i b r hb hi
  obtain ⟨d1, d2, d3, d4, d5, d6⟩ := fin_parts (vs := vs) (v := v) (prErr_parts h1).2.2.2.2.2.2.2.2 a1 a2 a3 a5 ⟨hrr.1, hrr.2.1⟩ ⟨hv0, hv1⟩
  rw [← hc] at d1 d2 d3 d4 d5 d6
  exact ⟨i, v, B, c, hFS, hrich, hi, hv, hcm, hcr, hcd, ⟨d1, d2, d3, d6, allR_items c hcm⟩, d4.trans a4, a6, d5, hv0, hv1⟩
theorem fare_all {f : Fl} {p : Pr} {rs : List Rd} {vs : List Pen.V} {c : Bil} (hc : c ∈ allR f p rs vs) : FareOk c := by
  by_cases h : allErr f p rs vs = 0
  · obtain ⟨r, hr, ho, hid⟩ := allR_ride h hc
    obtain ⟨i, v, B, c2, _, _, _, _, hm, hcr, _, hok, _⟩ := fare_at h hr ho
    have hn := allR_nodup h
    have h2 : (allR f p rs vs).Pairwise fun a b => a.ride ≠ b.ride := List.pairwise_map.1 hn
    obtain ⟨j, hj⟩ := List.getElem?_of_mem hc
    obtain ⟨k, hk⟩ := List.getElem?_of_mem hm
    obtain ⟨j1, j2⟩ := List.getElem?_eq_some_iff.1 hj
    obtain ⟨k1, k2⟩ := List.getElem?_eq_some_iff.1 hk
    have : j = k := by
      rcases Nat.lt_trichotomy j k with hlt | heq | hlt
      · exact absurd (by rw [j2, k2]; omega) (List.pairwise_iff_getElem.1 h2 j k j1 k1 hlt)
      · exact heq
      · exact absurd (by rw [j2, k2]; omega) (List.pairwise_iff_getElem.1 h2 k j k1 j1 hlt)
    subst this
    rw [hj] at hk
    cases hk
    exact hok
  · rw [allR_nil h] at hc; cases hc
theorem allR_asc {f : Fl} {p : Pr} {rs : List Rd} {vs : List Pen.V} : (allR f p rs vs).Pairwise fun a b => a.ride < b.ride := by
  by_cases h : allErr f p rs vs = 0
  · obtain ⟨_, _, _, B, _, _, _, hall⟩ := all_ok h
    have hn : (allR f p rs vs).Pairwise fun a b => a.ride ≠ b.ride := List.pairwise_map.1 (allR_nodup h)
    have hs : (allR f p rs vs).Pairwise fun a b => a.ride ≤ b.ride := by
      rw [hall]
      have := List.pairwise_mergeSort (le := fun a b : Bil => decide (a.ride ≤ b.ride)) (fun a b c h1 h2 => by simp at *; omega) (fun a b => by simp; omega) ((B.zip (paidOf p (cntS rs) B)).map fun x => finB p vs x.1 (x.2 - x.1.total))
      exact this.imp fun h => by simpa using h
    exact (hs.and hn).imp fun h => by omega
  · rw [allR_nil h]; exact List.Pairwise.nil
/-- the sum that Sum answers -/
theorem sum_fare {c : Bil} (h : FareOk c) : sumR c.items = (c.total, 0) := by
  have hl := h.len
  unfold sumR
  rw [if_neg (by omega), if_neg]
  · rw [show (c.items.map (·.amount)).sum = sumA c.items from rfl, h.sums]
  · intro hh
    obtain ⟨i, hi, hb⟩ := List.any_eq_true.1 hh
    rw [h.amounts i hi] at hb; cases hb

end Go.Proofs.Far

/-
  Plain facts for the laws: the world rebased; how many fares a ride has.
-/
namespace Go.Proofs.Far
open Go Go.RowKit Go.Proofs.E Go.Proofs.Cus Go.Proofs.Rid

/-- the world as it is now is taken as the start -/
theorem H_rebase {c : Cx} {k : Code} {PQ : PJ} {w0 : World} {L : List E.Item} {f : Fr} (hm : marks L = []) (h : ∀ w1, Mem w0 L w1 → H c k PQ w1 [] f) : H c k PQ w0 L f := fun a w ha hw => h w hw a w (by rw [hm] at ha; exact ha) (Mem.start w)
def fitsB (r : Rd) (c : Bil) : Bool := decide (c.ride = r.id) && decide (c.rider = r.rider)
/-- fares of a ride among the first ones -/
def fitN (l : List Bil) (r : Rd) (j : Nat) : Nat := ((l.take j).filter (fitsB r)).length
theorem fitN_zero (l : List Bil) (r : Rd) : fitN l r 0 = 0 := rfl
theorem fitN_succ {l : List Bil} {r : Rd} {j : Nat} {c : Bil} (h : l[j]? = some c) : fitN l r (j + 1) = fitN l r j + if fitsB r c = true then 1 else 0 := by
  unfold fitN
  rw [snocT _ _ _ h, List.filter_append, List.length_append]
  congr 1
  by_cases hb : fitsB r c = true
  · rw [List.filter_cons_of_pos hb, if_pos hb]; rfl
  · rw [List.filter_cons_of_neg hb, if_neg hb]; rfl
theorem fitN_le (l : List Bil) (r : Rd) (j : Nat) : fitN l r j ≤ j := by
  unfold fitN
  have := List.length_filter_le (fitsB r) (l.take j)
  rw [List.length_take] at this
  omega
theorem fitN_all {l : List Bil} {r : Rd} {j : Nat} (h : l.length = j) : fitN l r j = (l.filter (fitsB r)).length := by unfold fitN; rw [← h, List.take_length]
theorem one_of {l : List Bil} {P : Bil → Bool} {c : Bil} (hc : c ∈ l) (hp : P c = true) (hn : l.Pairwise fun a b => ¬ (P a = true ∧ P b = true)) : (l.filter P).length = 1 := by
  induction l with
  | nil => cases hc
  | cons x l ih =>
    rw [List.pairwise_cons] at hn
    rcases List.mem_cons.1 hc with rfl | hc
    · rw [List.filter_cons_of_pos hp, List.filter_eq_nil_iff.2 fun a ha hq => hn.1 a ha ⟨hp, hq⟩]; rfl
    · rw [List.filter_cons_of_neg fun hq => hn.1 c hc ⟨hq, hp⟩]
      exact ih hc hn.2
theorem fit_one {f : Fl} {p : Pr} {rs : List Rd} {vs : List Pen.V} (h : allErr f p rs vs = 0) {r : Rd} (hr : r ∈ rs) (ho : r.open_ = false) : ((allR f p rs vs).filter (fitsB r)).length = 1 := by
  obtain ⟨i, v, B, c, _, _, _, _, hm, hcr, hcd, _⟩ := fare_at h hr ho
  refine one_of hm (by unfold fitsB; simp [hcr, hcd]) ((List.pairwise_map.1 (allR_nodup h)).imp fun hab => ?_)
  intro hh
  unfold fitsB at hh
  simp at hh
  omega
/-- closed rides among the first ones -/
def cloN (rs : List Rd) (k : Nat) : Nat := ((rs.take k).filter fun r => !r.open_).length
theorem cloN_zero (rs : List Rd) : cloN rs 0 = 0 := rfl
theorem cloN_succ {rs : List Rd} {k : Nat} {r : Rd} (h : rs[k]? = some r) : cloN rs (k + 1) = cloN rs k + if r.open_ = true then 0 else 1 := by
  unfold cloN
  rw [snocT _ _ _ h, List.filter_append, List.length_append]
  congr 1
  by_cases hb : r.open_ = true
  · rw [List.filter_cons_of_neg (by simp [hb]), if_pos hb]; rfl
  · rw [List.filter_cons_of_pos (by simp [hb]), if_neg hb]; rfl
theorem cloN_le (rs : List Rd) (k : Nat) : cloN rs k ≤ k := by
  unfold cloN
  have := List.length_filter_le (fun r : Rd => !r.open_) (rs.take k)
  rw [List.length_take] at this
  omega
theorem cloN_all {f : Fl} {p : Pr} {rs : List Rd} {vs : List Pen.V} (h : allErr f p rs vs = 0) {k : Nat} (hk : rs.length = k) : cloN rs k = (allR f p rs vs).length := by
  have h1 := (allR_perm h).length_eq
  rw [List.length_map, List.length_map] at h1
  unfold cloN
  rw [← hk, List.take_length, h1]

end Go.Proofs.Far
