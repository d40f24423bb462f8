import Derived.Test.YtbocfacfgddbcaaGreatFarWt
import Derived.Test.YtbocfacfgddbcaaGreatFarEb
set_option linter.unusedVariables false
set_option linter.unusedSimpArgs false
/-
  Plain facts: a fare does not depend on other riders, nor on later rides.
-/
namespace Go.Proofs.Far
open Go.Proofs.Cus Go.Proofs.Rid

/-! lists that are made one by one, each from those before it -/
section
variable {α β : Type}
def scanL (step : List (α × β) → α → β) (l : List α) : List (α × β) := l.foldl (fun acc x => acc ++ [(x, step acc x)]) []
theorem scan_snoc (step : List (α × β) → α → β) (l : List α) (x : α) : scanL step (l ++ [x]) = scanL step l ++ [(x, step (scanL step l) x)] := by
  unfold scanL
  rw [List.foldl_append]; rfl
theorem snoc_ind {P : List α → Prop} (h0 : P []) (hs : ∀ l x, P l → P (l ++ [x])) (l : List α) : P l := by
  have : ∀ m : List α, P m.reverse := fun m => by
    induction m with
    | nil => exact h0
    | cons x m ih => rw [List.reverse_cons]; exact hs _ _ ih
  have h := this l.reverse
  rwa [List.reverse_reverse] at h
theorem scan_fst (step : List (α × β) → α → β) (l : List α) : (scanL step l).map (·.1) = l := by
  refine snoc_ind (P := fun l => (scanL step l).map (·.1) = l) rfl (fun l x ih => ?_) l
  rw [scan_snoc, List.map_append, ih]; rfl
theorem scan_len (step : List (α × β) → α → β) (l : List α) : (scanL step l).length = l.length := by
  have := congrArg List.length (scan_fst step l)
  rwa [List.length_map] at this
theorem scan_take (step : List (α × β) → α → β) (l : List α) : ∀ k, scanL step (l.take k) = (scanL step l).take k := by
  refine snoc_ind (P := fun l => ∀ k, scanL step (l.take k) = (scanL step l).take k) (fun k => by simp [scanL]) (fun l x ih k => ?_) l
  rw [scan_snoc]
  by_cases hk : k ≤ l.length
  · rw [List.take_append_of_le_length hk, List.take_append_of_le_length (by rw [scan_len]; exact hk)]
    exact ih k
  · rw [List.take_of_length_le (by simp; omega), List.take_of_length_le (by simp [scan_len]; omega), scan_snoc]
theorem scan_inv {step : List (α × β) → α → β} {inv : α × β → Prop} (h : ∀ acc x, inv (x, step acc x)) (l : List α) : ∀ t ∈ scanL step l, inv t := by
  refine snoc_ind (P := fun l => ∀ t ∈ scanL step l, inv t) (fun t ht => by cases ht) (fun l x ih t ht => ?_) l
  rw [scan_snoc] at ht
  rcases List.mem_append.1 ht with ht | ht
  · exact ih t ht
  · simp at ht; subst ht; exact h _ _
theorem scan_key {step : List (α × β) → α → β} {inv : α × β → Prop} {key : α → Int} (h : ∀ acc x, inv (x, step acc x)) (hl : ∀ acc x, (∀ t ∈ acc, inv t) → step acc x = step (acc.filter fun t => decide (key t.1 = key x)) x) (ρ : Int) (l : List α) :
    (scanL step l).filter (fun t => decide (key t.1 = ρ)) = scanL step (l.filter fun x => decide (key x = ρ)) := by
  refine snoc_ind (P := fun l => (scanL step l).filter (fun t => decide (key t.1 = ρ)) = scanL step (l.filter fun x => decide (key x = ρ))) rfl (fun l x ih => ?_) l
  rw [scan_snoc, List.filter_append, List.filter_append, ih]
  by_cases hx : key x = ρ
  · rw [List.filter_cons_of_pos (by simpa using hx), List.filter_cons_of_pos (by simpa using hx), List.filter_nil, List.filter_nil, scan_snoc, hl _ _ (scan_inv h l), hx, ih]
  · rw [List.filter_cons_of_neg (by simpa using hx), List.filter_cons_of_neg (by simpa using hx), List.filter_nil, List.filter_nil, List.append_nil, List.append_nil]
theorem sel {X : List α} {g : α → Bool} {G : Nat → Bool} (d : α) : ∀ {k : Nat}, k ≤ X.length → (∀ j x, X[j]? = some x → j < k → g x = G j) → (X.take k).filter g = ((List.range k).filter G).map fun j => X.getD j d
  | 0, _, _ => rfl
  | k + 1, hk, h => by
    obtain ⟨x, hx⟩ : ∃ x, X[k]? = some x := ⟨_, List.getElem?_eq_getElem (by omega)⟩
    rw [snocT _ _ _ hx, List.range_succ, List.filter_append, List.filter_append, List.map_append, sel d (k := k) (by omega) fun j y hy hj => h j y hy (by omega)]
    have hg := h k x hx (by omega)
    congr 1
    have hd : X.getD k d = x := by rw [List.getD_eq_getElem?_getD, hx]; rfl
    by_cases hb : g x = true
    · rw [List.filter_cons_of_pos hb, List.filter_cons_of_pos (by rw [← hg]; exact hb), List.filter_nil, List.filter_nil, List.map_cons, hd]; rfl
    · rw [List.filter_cons_of_neg hb, List.filter_cons_of_neg (by rw [← hg]; exact hb), List.filter_nil, List.filter_nil]; rfl
end

/-! what pays a ride -/
def usedL (acc : List (Rq × Int)) : List (Int × Int) := (acc.filter fun t => decide (0 ≤ t.2)).map fun t => (t.2, t.1.day)
def uStep (P : List Pas) (acc : List (Rq × Int)) (q : Rq) : Int := pickP P (usedL acc) q
theorem useS_scan (P : List Pas) (qs : List Rq) : useS P qs = ((scanL (uStep P) qs).map (·.2), usedL (scanL (uStep P) qs)) := by
  refine snoc_ind (P := fun qs => useS P qs = ((scanL (uStep P) qs).map (·.2), usedL (scanL (uStep P) qs))) rfl (fun l x ih => ?_) qs
  have h1 : useS P (l ++ [x]) = useStep P (useS P l) x := by unfold useS; rw [List.foldl_append]; rfl
  rw [h1, ih, scan_snoc]
  unfold useStep
  rw [List.map_append]
  simp only
  unfold usedL
  rw [List.filter_append, List.map_append]
  have h2 : uStep P (scanL (uStep P) l) x = pickP P (((scanL (uStep P) l).filter fun t => decide (0 ≤ t.2)).map fun t => (t.2, t.1.day)) x := rfl
  rw [h2]
  congr 1
  split
  · rename_i hp
    rw [List.filter_cons_of_pos (by simpa using hp)]; rfl
  · rename_i hp
    rw [List.filter_cons_of_neg (by simpa using hp)]; simp
def invU (P : List Pas) (t : Rq × Int) : Prop := 0 ≤ t.2 → (P.getD t.2.toNat default).rider = t.1.rider
theorem use_inv (P : List Pas) (acc : List (Rq × Int)) (x : Rq) : invU P (x, uStep P acc x) := fun h => by
  simp only at h ⊢
  unfold uStep pickP at h ⊢
  cases hf : (List.range P.length).find? fun k => validP (P.getD k default) x && decide ((paidN (usedL acc) k x.day : Int) < (P.getD k default).perDay) with
  | none => rw [hf] at h; exact absurd h (by decide)
  | some k =>
    simp only
    have := List.find?_some hf
    simp only [Bool.and_eq_true] at this
    have hv := this.1
    unfold validP at hv
    simp only [Bool.and_eq_true, decide_eq_true_eq] at hv
    rw [Int.toNat_natCast]
    exact hv.1
theorem paid_countP (acc : List (Rq × Int)) (k d : Int) : paidN (usedL acc) k d = acc.countP fun t => (t.2 == k && t.1.day == d) && decide (0 ≤ t.2) := by
  unfold paidN usedL
  rw [List.countP_map, List.countP_filter]
  rfl
theorem use_local (P : List Pas) (acc : List (Rq × Int)) (x : Rq) (h : ∀ t ∈ acc, invU P t) : uStep P acc x = uStep P (acc.filter fun t => decide (t.1.rider = x.rider)) x := by
  unfold uStep pickP
  have hk : (fun k : Nat => validP (P.getD k default) x && decide ((paidN (usedL acc) k x.day : Int) < (P.getD k default).perDay)) = fun k : Nat => validP (P.getD k default) x && decide ((paidN (usedL (acc.filter fun t => decide (t.1.rider = x.rider))) k x.day : Int) < (P.getD k default).perDay) := by
    funext k
    cases hv : validP (P.getD k default) x with
    | false => rfl
    | true =>
      have hr : (P.getD k default).rider = x.rider := by
        unfold validP at hv
        simp only [Bool.and_eq_true, decide_eq_true_eq] at hv
        exact hv.1
      have hc : paidN (usedL acc) k x.day = paidN (usedL (acc.filter fun t => decide (t.1.rider = x.rider))) k x.day := by
        rw [paid_countP, paid_countP, List.countP_filter]
        refine List.countP_congr fun t ht => ?_
        have hi := h t ht
        unfold invU at hi
        constructor
        · intro hp
          simp only [Bool.and_eq_true, beq_iff_eq, decide_eq_true_eq] at hp ⊢
          refine ⟨hp, ?_⟩
          rw [← hi hp.2, hp.1.1, Int.toNat_natCast]
          exact hr
        · intro hp
          simp only [Bool.and_eq_true] at hp ⊢
          exact hp.1
      rw [hc]
  rw [hk]
theorem pay_local (limit : Int) (acc : List (Dy × Int)) (x : Dy) : payD limit acc x = payD limit (acc.filter fun t => decide (t.1.rider = x.rider)) x := by
  unfold payD
  have : sumD acc x.rider x.day = sumD (acc.filter fun t => decide (t.1.rider = x.rider)) x.rider x.day := by
    unfold sumD
    rw [List.filter_filter]
    congr 2
    refine List.filter_congr fun t _ => ?_
    by_cases h1 : t.1.rider = x.rider
    · simp [h1]
    · simp [h1]
  rw [this]
theorem fsAll_map {p : Pr} {a : Nat → Rd × Int} {b : Nat → Bil} : ∀ (J : List Nat) (acc : List Bil), (∀ j ∈ J, firstP p (a j).1 (a j).2 = some (b j)) → (J.map a).foldl (fsStep p) (some acc) = some (acc ++ J.map b)
  | [], acc, _ => by simp
  | j :: J, acc, h => by
    rw [List.map_cons, List.foldl_cons, show fsStep p (some acc) (a j) = some (acc ++ [b j]) by unfold fsStep; simp only; rw [h j (List.mem_cons_self ..)], fsAll_map J _ fun k hk => h k (List.mem_cons_of_mem _ hk)]
    simp
theorem fnAll_map {p : Pr} {vs : List Pen.V} {a : Nat → Bil × Int} : ∀ (J : List Nat) (acc : List Bil), (∀ j ∈ J, ¬ 1000000000000 < (finB p vs (a j).1 ((a j).2 - (a j).1.total)).total) → (J.map a).foldl (fnStep p vs) (some acc) = some (acc ++ J.map fun j => finB p vs (a j).1 ((a j).2 - (a j).1.total))
  | [], acc, _ => by simp
  | j :: J, acc, h => by
    rw [List.map_cons, List.foldl_cons, show fnStep p vs (some acc) (a j) = some (acc ++ [finB p vs (a j).1 ((a j).2 - (a j).1.total)]) by unfold fnStep; simp only; rw [if_neg (h j (List.mem_cons_self ..))], fnAll_map J _ fun k hk => h k (List.mem_cons_of_mem _ hk)]
    simp
/-! the rides that are kept -/
def lateR (a b : Rd) : Bool :=
  if a.rider ≠ b.rider ∨ a.start.lo ≠ b.start.lo then decide (a.rider ≠ b.rider) || decide (b.start.lo < a.start.lo)
  else if a.end_.lo ≠ b.end_.lo then decide (b.end_.lo < a.end_.lo) else decide (b.id < a.id)
theorem late_eq (a b : Rd) : lateR a b = (decide (a.rider ≠ b.rider) || rideLt b a) := by
  unfold lateR rideLt
  by_cases h1 : a.rider = b.rider
  · by_cases h2 : a.start.lo = b.start.lo
    · rw [if_neg (by omega)]
      by_cases h3 : a.end_.lo = b.end_.lo
      · rw [if_neg (by omega)]; simp [h1, h2, h3]
      · rw [if_pos (by omega)]
        have : b.end_.lo = a.end_.lo ↔ False := ⟨fun h => h3 h.symm, fun h => h.elim⟩
        simp [h1, h2, this]
    · rw [if_pos (by omega)]
      have : b.start.lo = a.start.lo ↔ False := ⟨fun h => h2 h.symm, fun h => h.elim⟩
      simp [h1, this]
  · rw [if_pos (.inl h1)]
    simp [h1]
def keepB (r x : Rd) : Bool := decide (x.id = r.id) || !lateR x r
theorem rdsErr_of {rs : List Rd} (h : Good rs) : rdsErr rs = 0 := by
  have hl : ∀ l : List Rd, (∀ r ∈ l, checkR r = 0) → rdsErrL l = 0 := fun l => by
    induction l with
    | nil => intro _; rfl
    | cons x l ih =>
      intro hx
      unfold rdsErrL
      rw [if_neg (by rw [hx x (List.mem_cons_self ..)]; omega), ih fun r hr => hx r (List.mem_cons_of_mem _ hr)]
  have := h.few
  unfold rdsErr
  rw [if_neg (by omega), if_neg (by rw [hl rs h.ok]; omega), h.ids, if_neg (by decide)]
theorem good_filter {rs : List Rd} (h : Good rs) (q : Rd → Bool) : Good (rs.filter q) :=
  ⟨fun r hr => h.ok r (List.mem_filter.1 hr).1, nodup_twice _ _ ((twice_nodup _ _ h.ids).1.sublist (List.filter_sublist.map _)) (fun x _ => by simp), Nat.le_trans (List.length_filter_le _ _) h.few⟩
theorem cntS_filter {rs : List Rd} (h : Good rs) (q : Rd → Bool) : cntS (rs.filter q) = (cntS rs).filter q := by
  refine (cntS_unique (good_filter h q) ?_ ?_).symm
  · refine ((cntS_perm rs).filter q).trans ?_
    rw [List.filter_filter, List.filter_filter]
    refine List.Perm.of_eq (List.filter_congr fun r _ => Bool.and_comm _ _)
  · have := (cntS_strict h).sublist (List.filter_sublist (p := q))
    refine this.imp fun h1 => ?_
    unfold rideLt at *
    simp at *
    omega
theorem rideLt_irr (r : Rd) : rideLt r r = false := by unfold rideLt; simp
theorem cntS_keep {rs : List Rd} (h : Good rs) {r : Rd} {i : Nat} (hi : (cntS rs)[i]? = some r) : cntS (rs.filter (keepB r)) = ((cntS rs).take (i + 1)).filter fun x => decide (x.rider = r.rider) := by
  rw [cntS_filter h]
  have hs := cntS_strict h
  have hn : ((cntS rs).map (·.id)).Nodup := ((cntS_perm rs).map _).nodup_iff.2 (good_ids h)
  have hne := List.pairwise_map.1 hn
  obtain ⟨i1, i2⟩ := List.getElem?_eq_some_iff.1 hi
  conv => lhs; rw [← List.take_append_drop (i + 1) (cntS rs), List.filter_append]
  have h2 : ((cntS rs).drop (i + 1)).filter (keepB r) = [] := by
    rw [List.filter_eq_nil_iff]
    intro x hx
    obtain ⟨j, hj⟩ := List.getElem?_of_mem hx
    rw [List.getElem?_drop] at hj
    obtain ⟨j1, j2⟩ := List.getElem?_eq_some_iff.1 hj
    have h3 := List.pairwise_iff_getElem.1 hs i (i + 1 + j) i1 j1 (by omega)
    have h4 := List.pairwise_iff_getElem.1 hne i (i + 1 + j) i1 j1 (by omega)
    rw [i2, j2] at h3 h4
    unfold keepB
    rw [late_eq, h3]
    simp
    exact fun h => h4 h.symm
  rw [h2, List.append_nil]
  refine List.filter_congr fun x hx => ?_
  obtain ⟨j, hj⟩ := List.getElem?_of_mem hx
  have hji : j < i + 1 := by
    have := (List.getElem?_eq_some_iff.1 hj).1
    rw [List.length_take] at this
    omega
  rw [List.getElem?_take_of_lt hji] at hj
  obtain ⟨j1, j2⟩ := List.getElem?_eq_some_iff.1 hj
  by_cases he : j = i
  · subst he
    rw [hi] at hj
    cases hj
    unfold keepB
    simp
  · have h3 := List.pairwise_iff_getElem.1 hs j i j1 i1 (by omega)
    have h4 := List.pairwise_iff_getElem.1 hne j i j1 i1 (by omega)
    rw [j2, i2] at h3 h4
    have h5 : rideLt r x = false := by
      cases hb : rideLt r x with
      | false => rfl
      | true => have := rideLt_trans hb h3; rw [rideLt_irr] at this; cases this
    unfold keepB
    rw [late_eq, h5]
    simp [h4]

end Go.Proofs.Far

/-
  Plain facts: the fare among the kept rides is the fare among all.
-/
namespace Go.Proofs.Far
open Go.Proofs.Cus Go.Proofs.Rid

theorem oneR_mem {f : Fl} {p : Pr} {rs : List Rd} {vs : List Pen.V} (h : allErr f p rs vs = 0) {c : Bil} (hc : c ∈ allR f p rs vs) : oneR f p rs vs c.ride = (c, 0) := by
  unfold oneR
  rw [if_neg (by omega)]
  cases hf : (allR f p rs vs).find? fun b => decide (b.ride = c.ride) with
  | none => exact absurd (List.find?_eq_none.1 hf c hc) (by simp)
  | some d =>
    have h1 : d.ride = c.ride := by simpa using List.find?_some hf
    rw [bil_same h (List.mem_of_find?_eq_some hf) hc h1]
theorem getD_of {α : Type} {l : List α} {k : Nat} {x d : α} (h : l[k]? = some x) : l.getD k d = x := by rw [List.getD_eq_getElem?_getD, h]; rfl
theorem zip_maps {α β : Type} {a : Nat → α} {b : Nat → β} : ∀ J : List Nat, (J.map a).zip (J.map b) = J.map fun j => (a j, b j)
  | [] => rfl
  | j :: J => by rw [List.map_cons, List.map_cons, List.zip_cons_cons, zip_maps J]; rfl
theorem alone_mem {f : Fl} {p : Pr} {rs : List Rd} (h : allErr f p rs [] = 0) {r : Rd} (hr : r ∈ rs) (ho : r.open_ = false) : ∃ c : Bil, c.ride = r.id ∧ c ∈ allR f p rs [] ∧ allErr f p (rs.filter (keepB r)) [] = 0 ∧ c ∈ allR f p (rs.filter (keepB r)) [] := by
  obtain ⟨h1, h2, h3, B0, hFS0, hrich0, hle, hall⟩ := all_ok h
  obtain ⟨B, i, u, b, v, c, hFS, hrich, hi, hu, hb, hfp, hv, hc, hcm, hcr, _, _, _⟩ := all_at h hr ho
  rw [hFS0] at hFS
  cases hFS
  have hg := rdsErr_good h2
  refine ⟨c, hcr, hcm, ?_⟩
  have hlen := hrich.len
  obtain ⟨L, hL⟩ : ∃ L, L = cntS rs := ⟨_, rfl⟩
  obtain ⟨U, hU⟩ : ∃ U, U = scanL (uStep p.passes) (L.map reqR) := ⟨_, rfl⟩
  obtain ⟨D, hD⟩ : ∃ D, D = scanL (payD p.cap) ((L.zip B0).map dyOf) := ⟨_, rfl⟩
  have hUo : ∀ l : List Rd, useOf p l = (scanL (uStep p.passes) (l.map reqR)).map (·.2) := fun l => by unfold useOf; rw [useS_scan]
  have hDo : ∀ (l : List Rd) (bs : List Bil), paidOf p l bs = (scanL (payD p.cap) ((l.zip bs).map dyOf)).map (·.2) := fun l bs => rfl
  have hkeep := cntS_keep hg hi
  rw [← hL] at hi hlen hFS0 hu hv hkeep hle
  have hil := (List.getElem?_eq_some_iff.1 hi).1
  have hUl : U.length = L.length := by rw [hU, scan_len, List.length_map]
  have hDl : D.length = L.length := by rw [hD, scan_len, List.length_map, List.length_zip]; omega
  have hUf : U.map (·.1) = L.map reqR := by rw [hU]; exact scan_fst _ _
  have hDf : D.map (·.1) = (L.zip B0).map dyOf := by rw [hD]; exact scan_fst _ _
  obtain ⟨G, hG⟩ : ∃ G : Nat → Bool, ∀ j, G j = decide ((L.getD j default).rider = r.rider) := ⟨_, fun _ => rfl⟩
  obtain ⟨J, hJ⟩ : ∃ J, J = (List.range (i + 1)).filter G := ⟨_, rfl⟩
  have hJm : ∀ j ∈ J, j < L.length := fun j hj => by
    rw [hJ] at hj
    have := List.mem_range.1 (List.mem_filter.1 hj).1
    omega
  have hiJ : i ∈ J := by
    rw [hJ]
    refine List.mem_filter.2 ⟨List.mem_range.2 (by omega), ?_⟩
    rw [hG, getD_of hi]; simp
  -- what lies at a place
  have hat : ∀ j, j < L.length → ∃ (x : Rd) (y : Bil) (t : Rq × Int) (s : Dy × Int), L[j]? = some x ∧ B0[j]? = some y ∧ U[j]? = some t ∧ D[j]? = some s ∧ t.1 = reqR x ∧ s.1 = dyOf (x, y) := fun j hj => by
    obtain ⟨x, hx⟩ : ∃ x, L[j]? = some x := ⟨_, List.getElem?_eq_getElem hj⟩
    obtain ⟨y, hy⟩ : ∃ y, B0[j]? = some y := ⟨_, List.getElem?_eq_getElem (by omega)⟩
    obtain ⟨t, ht⟩ : ∃ t, U[j]? = some t := ⟨_, List.getElem?_eq_getElem (by omega)⟩
    obtain ⟨s, hs⟩ : ∃ s, D[j]? = some s := ⟨_, List.getElem?_eq_getElem (by omega)⟩
    refine ⟨x, y, t, s, hx, hy, ht, hs, ?_, ?_⟩
    · have := congrArg (fun l => l[j]?) hUf
      simp only [List.getElem?_map, ht, hx, Option.map_some] at this
      exact Option.some.inj this
    · have := congrArg (fun l => l[j]?) hDf
      simp only [List.getElem?_map, hs, zip_get hx hy, Option.map_some] at this
      exact Option.some.inj this
  have hfirst : ∀ (j : Nat) (x : Rd) (y : Bil) (t : Rq × Int), L[j]? = some x → B0[j]? = some y → U[j]? = some t → firstP p x t.2 = some y := fun j x y t hx hy ht => by
    have hul := useOf_len p L
    have hzl : L.length ≤ (L.zip (useOf p L)).length := by rw [List.length_zip]; omega
    refine (FS_facts hzl hFS0).2 j y (x, t.2) hy (zip_get hx ?_)
    rw [hUo, ← hU, List.getElem?_map, ht]; rfl
  -- the kept rides
  have hL' : cntS (rs.filter (keepB r)) = J.map fun j => L.getD j default := by
    rw [hkeep, hJ]
    exact sel default (by omega) fun j x hx _ => by rw [hG, getD_of hx]
  have hU' : useOf p (cntS (rs.filter (keepB r))) = J.map fun j => (U.getD j default).2 := by
    rw [hUo, hkeep]
    have hm : (((L.take (i + 1)).filter fun x => decide (x.rider = r.rider)).map reqR) = ((L.map reqR).take (i + 1)).filter fun q => decide (q.rider = r.rider) := by
      rw [← List.map_take, List.filter_map]; rfl
    rw [hm, ← scan_key (inv := invU p.passes) (key := fun q : Rq => q.rider) (use_inv p.passes) (use_local p.passes), scan_take, ← hU]
    rw [sel (G := G) default (by omega) fun j t ht hj => by
      obtain ⟨x, y, t2, s, hx, hy, ht2, hs, e1, e2⟩ := hat j (by omega)
      rw [ht] at ht2
      cases ht2
      rw [hG, getD_of hx, e1]; rfl]
    rw [← hJ, List.map_map]; rfl
  have hB' : ((cntS (rs.filter (keepB r))).zip (J.map fun j => B0.getD j default)).map dyOf = (((L.zip B0).map dyOf).take (i + 1)).filter fun x => decide (x.rider = r.rider) := by
    rw [hL', zip_maps, List.map_map, ← hDf]
    rw [sel (G := G) default (by rw [List.length_map]; omega) fun j t ht hj => by
      obtain ⟨x, y, t2, s, hx, hy, ht2, hs, e1, e2⟩ := hat j (by omega)
      rw [List.getElem?_map, hs] at ht
      cases ht
      rw [hG, getD_of hx, show (fun x : Dy × Int => x.1) s = s.1 from rfl, e2]; rfl]
    rw [← hJ]
    refine List.map_congr_left fun j hj => ?_
    obtain ⟨x, y, t2, s, hx, hy, ht2, hs, e1, e2⟩ := hat j (hJm j hj)
    have h5 : (D.map (·.1))[j]? = some s.1 := by rw [List.getElem?_map, hs]; rfl
    rw [getD_of h5, e2]
    show dyOf (L.getD j default, B0.getD j default) = dyOf (x, y)
    rw [getD_of hx, getD_of hy]
  have hP' : paidOf p (cntS (rs.filter (keepB r))) (J.map fun j => B0.getD j default) = J.map fun j => (D.getD j default).2 := by
    rw [hDo, hB', ← scan_key (inv := fun _ => True) (key := fun q : Dy => q.rider) (fun _ _ => trivial) (fun acc x _ => pay_local p.cap acc x), scan_take, ← hD]
    rw [sel (G := G) default (by omega) fun j t ht hj => by
      obtain ⟨x, y, t2, s, hx, hy, ht2, hs, e1, e2⟩ := hat j (by omega)
      rw [ht] at hs
      cases hs
      rw [hG, getD_of hx, e2]; rfl]
    rw [← hJ, List.map_map]; rfl
  have hfs : fsAll p ((cntS (rs.filter (keepB r))).zip (useOf p (cntS (rs.filter (keepB r))))) = some (J.map fun j => B0.getD j default) := by
    rw [hU', hL', zip_maps]
    unfold fsAll
    rw [fsAll_map (b := fun j => B0.getD j default) J [] fun j hj => by
      obtain ⟨x, y, t, s, hx, hy, ht, hs, e1, e2⟩ := hat j (hJm j hj)
      simp only
      rw [getD_of hx, getD_of hy, getD_of ht]
      exact hfirst j x y t hx hy ht]
    rfl
  have hfn : fnAll p [] ((J.map fun j => B0.getD j default).zip (paidOf p (cntS (rs.filter (keepB r))) (J.map fun j => B0.getD j default))) = some (J.map fun j => finB p [] (B0.getD j default) ((D.getD j default).2 - (B0.getD j default).total)) := by
    rw [hP', zip_maps]
    unfold fnAll
    rw [fnAll_map J [] fun j hj => by
      obtain ⟨x, y, t, s, hx, hy, ht, hs, e1, e2⟩ := hat j (hJm j hj)
      simp only
      rw [getD_of hy, getD_of hs]
      have h6 : (paidOf p L B0)[j]? = some s.2 := by rw [hDo, ← hD, List.getElem?_map, hs]; rfl
      have := hle (finB p [] y (s.2 - y.total)) (List.mem_map.2 ⟨(y, s.2), List.mem_of_getElem? (zip_get hy h6), rfl⟩)
      omega]
    rfl
  have hap : allP p (rs.filter (keepB r)) [] = some (byRide (J.map fun j => finB p [] (B0.getD j default) ((D.getD j default).2 - (B0.getD j default).total))) := by
    unfold allP
    rw [hfs]
    simp only
    rw [hfn]
  have hr2 : rdsErr (rs.filter (keepB r)) = 0 := rdsErr_of (good_filter hg _)
  constructor
  · unfold allErr
    rw [if_neg (by omega), if_neg (by omega), if_neg (by omega), hap, if_neg (by simp)]
  · unfold allR
    rw [if_neg (by omega), hap]
    refine (byRide_perm _).mem_iff.2 (List.mem_map.2 ⟨i, hiJ, ?_⟩)
    obtain ⟨x, y, t, s, hx, hy, ht, hs, e1, e2⟩ := hat i hil
    rw [hb] at hy
    cases hy
    have h6 : (paidOf p L B0)[i]? = some s.2 := by rw [hDo, ← hD, List.getElem?_map, hs]; rfl
    rw [hv] at h6
    cases h6
    rw [getD_of hb, getD_of hs, hc]
theorem alone_eq {f : Fl} {p : Pr} {rs : List Rd} {r : Rd} (hr : r ∈ rs) (h : (oneR f p rs [] r.id).2 = 0) : oneR f p (rs.filter (keepB r)) [] r.id = ((oneR f p rs [] r.id).1, 0) := by
  by_cases he : allErr f p rs [] = 0
  · have h2 := (all_ok he).2.1
    cases ho : r.open_ with
    | true =>
      exfalso
      have hf : findR rs r.id = some r := by
        cases hf : findR rs r.id with
        | none =>
          unfold findR at hf
          exact absurd (List.find?_eq_none.1 hf r hr) (by simp)
        | some x =>
          obtain ⟨a1, a2⟩ := findR_some hf
          rw [same_id h2 a1 hr a2]
      rw [one_open he hf ho] at h
      cases h
    | false =>
      obtain ⟨c, hcr, hcm, he2, hcm2⟩ := alone_mem he hr ho
      rw [← hcr, oneR_mem he hcm, oneR_mem he2 hcm2]
  · exfalso
    rw [one_err he] at h
    exact he h

end Go.Proofs.Far

/-
  The walks: later; the law Alone.
-/
namespace Go.Proofs.Far
open Go Go.RowKit Go.Proofs.E Go.Proofs.Cus Go.Proofs.Rid

set_option maxHeartbeats 1000000 in
set_option maxRecDepth 20000 in
theorem later_w (x y : RX) (w : World) : Calls Tryz.prog 21 #[.agg x.cells.toArray, .agg y.cells.toArray] w fun e w' => e = .returned (.bool (lateR x.r y.r)) ∧ Bel w w' := by
  refine H_enter Tryz.func21 rfl Tryz.ntmps21 rfl (H_seq (R0 (X_box (v := .agg _) rfl rfl fun b2 => (X_box (v := .agg _) rfl rfl fun b3 => (xv (asB rfl) (XN (thenJ_normal (H_seq (H_seq ?_)))))))))
  refine R0 (xv (e_fld Tryz.underlying54 rfl Tryz.sizeOf3 rfl (q0 rfl)) (xv (eL Tryz.isAgg3 (q0 rfl)) ?_))
  refine xv (e_fld Tryz.underlying54 rfl Tryz.sizeOf3 rfl (q0 rfl)) (xv (eL Tryz.isAgg3 (q0 rfl)) ?_)
  refine xv (e_ne (q0 rfl) (q0 rfl)) (xv (mvB rfl) (xf (e_fld Tryz.underlying54 rfl Tryz.sizeOf50 rfl (q0 rfl)) rfl rfl (xf (e_fld Tryz.underlying50 rfl Tryz.sizeOf3 rfl (q1 rfl)) rfl rfl (xf (eL Tryz.isAgg3 (q1 rfl)) rfl rfl ?_))))
  refine xf (e_fld Tryz.underlying54 rfl Tryz.sizeOf50 rfl (q0 rfl)) rfl rfl (xf (e_fld Tryz.underlying50 rfl Tryz.sizeOf3 rfl (q1 rfl)) rfl rfl (xf (eL Tryz.isAgg3 (q1 rfl)) rfl rfl ?_))
  refine xf (e_ne (q1 rfl) (q1 rfl)) rfl rfl (xv (e_or (q0 rfl) rfl (fun h => by first | rfl | (rw [h]; rfl))) ?_)
  refine XN (thenJ_normal (H_cond rfl (fun h1 => ?_) (fun h1 => ?_)))
  · have h1' : x.r.rider ≠ y.r.rider ∨ x.r.start.lo ≠ y.r.start.lo := by simpa using h1
    rw [show lateR x.r y.r = (decide (x.r.rider ≠ y.r.rider) || decide (y.r.start.lo < x.r.start.lo)) by unfold lateR; rw [if_pos h1']]
    refine H_seq (R0 (xv (e_fld Tryz.underlying54 rfl Tryz.sizeOf3 rfl (q0 rfl)) (xv (eL Tryz.isAgg3 (q0 rfl)) ?_)))
    refine xv (e_fld Tryz.underlying54 rfl Tryz.sizeOf3 rfl (q0 rfl)) (xv (eL Tryz.isAgg3 (q0 rfl)) ?_)
    refine xv (e_ne (q0 rfl) (q0 rfl)) (xv (mvB rfl) (xf (e_fld Tryz.underlying54 rfl Tryz.sizeOf50 rfl (q0 rfl)) rfl rfl (xf (e_fld Tryz.underlying50 rfl Tryz.sizeOf3 rfl (q1 rfl)) rfl rfl (xf (eL Tryz.isAgg3 (q1 rfl)) rfl rfl ?_))))
    refine xf (e_fld Tryz.underlying54 rfl Tryz.sizeOf50 rfl (q0 rfl)) rfl rfl (xf (e_fld Tryz.underlying50 rfl Tryz.sizeOf3 rfl (q1 rfl)) rfl rfl (xf (eL Tryz.isAgg3 (q1 rfl)) rfl rfl ?_))
    refine xf (e_gt (q1 rfl) (q1 rfl)) rfl rfl (xv (e_or (q0 rfl) rfl (fun h => by first | rfl | (rw [h]; rfl))) ?_)
    refine xv (asB rfl) (XN (thenJ_normal (H_ret (thenJ_ret ?_))))
    exact ret1 (v := .bool _) rfl rfl rfl fun w' hw => ⟨ret_bool (by simp), hw.1⟩
  · have h1' : ¬ (x.r.rider ≠ y.r.rider ∨ x.r.start.lo ≠ y.r.start.lo) := by simpa using h1
    refine H_skip (thenJ_normal (H_seq (H_seq (R0 (xv (e_fld Tryz.underlying54 rfl Tryz.sizeOf50 rfl (q0 rfl)) (xv (e_fld Tryz.underlying50 rfl Tryz.sizeOf3 rfl (q0 rfl)) (xv (eL Tryz.isAgg3 (q0 rfl)) ?_)))))))
    refine xv (e_fld Tryz.underlying54 rfl Tryz.sizeOf50 rfl (q0 rfl)) (xv (e_fld Tryz.underlying50 rfl Tryz.sizeOf3 rfl (q0 rfl)) (xv (eL Tryz.isAgg3 (q0 rfl)) ?_))
    refine xv (e_ne (q0 rfl) (q0 rfl)) (XN (thenJ_normal (H_cond rfl (fun h2 => ?_) (fun h2 => ?_))))
    · have h2' : x.r.end_.lo ≠ y.r.end_.lo := by simpa using h2
      rw [show lateR x.r y.r = decide (y.r.end_.lo < x.r.end_.lo) by unfold lateR; rw [if_neg h1', if_pos h2']]
      refine H_seq (R0 (xv (e_fld Tryz.underlying54 rfl Tryz.sizeOf50 rfl (q0 rfl)) (xv (e_fld Tryz.underlying50 rfl Tryz.sizeOf3 rfl (q0 rfl)) (xv (eL Tryz.isAgg3 (q0 rfl)) ?_))))
      refine xv (e_fld Tryz.underlying54 rfl Tryz.sizeOf50 rfl (q0 rfl)) (xv (e_fld Tryz.underlying50 rfl Tryz.sizeOf3 rfl (q0 rfl)) (xv (eL Tryz.isAgg3 (q0 rfl)) ?_))
      refine xv (e_gt (q0 rfl) (q0 rfl)) (xv (asB rfl) (XN (thenJ_normal (H_ret (thenJ_ret ?_)))))
      exact ret1 (v := .bool _) rfl rfl rfl fun w' hw => ⟨rfl, hw.1⟩
    · have h2' : ¬ x.r.end_.lo ≠ y.r.end_.lo := by simpa using h2
      rw [show lateR x.r y.r = decide (y.r.id < x.r.id) by unfold lateR; rw [if_neg h1', if_neg h2']]
      refine H_skip (thenJ_normal (H_seq (R0 (xv (e_fld Tryz.underlying54 rfl Tryz.sizeOf3 rfl (q0 rfl)) (xv (eL Tryz.isAgg3 (q0 rfl)) ?_)))))
      refine xv (e_fld Tryz.underlying54 rfl Tryz.sizeOf3 rfl (q0 rfl)) (xv (eL Tryz.isAgg3 (q0 rfl)) ?_)
      refine xv (e_gt (q0 rfl) (q0 rfl)) (xv (asB rfl) (XN (thenJ_normal (H_ret ?_))))
      exact ret1 (v := .bool _) rfl rfl rfl fun w' hw => ⟨rfl, hw.1⟩

attribute [local irreducible] allR allErr oneR fewB lateR keepB
set_option maxHeartbeats 4000000 in
set_option maxRecDepth 20000 in
theorem aloneLaw_w (f : Fl) (fa : FA) (p : Pr) (a : PrA) (A : Option Addr) (n c : Nat) (rs : List RX) (q : Int) (w : World) (hf : FlAt w f fa) (hp : PrAt w p a) (hr : RdsAt w A n rs) (hpl : ∀ x ∈ rs, x.r.pl ≤ 9223372036854775807) (hq : 0 ≤ q ∧ q ≤ 255) :
    Calls Tryz.prog 6 #[.agg (ctCells f fa p a).toArray, .slice A n c, .int .u8 q] w fun e w' => e = .returned (.bool true) ∧ Bel w w' := by
  have hl := hr.1.1
  refine H_enter Tryz.func6 rfl Tryz.ntmps6 rfl (H_seq (R0 (X_box (v := .agg _) rfl rfl fun b3 => (xv (asB rfl) (XN (thenJ_normal (H_seq (H_seq (R0 ?_)))))))))
  refine xv (eS Tryz.isAgg30 Tryz.sizeOf30 (q0 rfl)) ?_
  refine xv (mvS rfl) (xC (en Tryz.call11 (ha3 (q0 rfl) (q0 rfl) (q0 rfl))) (fun _ w hw => few_w f fa p a A n c rs none 0 0 w (hr.mem hw)) rfl rfl (xv (e_not (q0 rfl)) (xv (mvB rfl) (xf (mvS rfl) rfl rfl (xf (e_len Tryz.underlying36 (q1 rfl)) rfl rfl (xf (e_eq (q1 rfl) (q0 rfl)) rfl rfl (xv (e_or (q0 rfl) rfl (fun h => by first | rfl | (rw [h]; rfl))) ?_)))))))
  refine XN (thenJ_normal (H_cond rfl (fun h1 => ?_) (fun h1 => ?_)))
  · refine H_seq (R0 (xC (en Tryz.call14 (ha0)) (fun _ w _ => awake_w w) rfl rfl (xv (asB rfl) (XN (thenJ_normal (H_ret (thenJ_ret ?_)))))))
    exact ret1 (v := .bool _) rfl rfl rfl fun w' hw => ⟨rfl, hw.1⟩
  · have h1' : fewB n 0 fa a (rs.map (·.r)) = true ∧ 0 < n := by
      have h : (!fewB n 0 fa a (rs.map (·.r)) || decide ((n : Int) = 0)) = false := h1
      simp at h
      exact ⟨h.1, by omega⟩
    obtain ⟨hn40, _, _⟩ := few_parts h1'.1
    obtain ⟨hs1, hs2⟩ := few_short h1'.1
    have hn0 := h1'.2
    obtain ⟨k0, hk0⟩ : ∃ k0 : Nat, q % (n : Int) = (k0 : Int) := ⟨(q % (n : Int)).toNat, (Int.toNat_of_nonneg (Int.emod_nonneg q (by omega))).symm⟩
    have hk0n : k0 < n := by
      have := Int.emod_lt_of_pos q (show (0 : Int) < (n : Int) by omega)
      omega
    obtain ⟨b, off, x, rfl, hbl, hxk, hrx⟩ := hr.1.at_ hk0n
    have hxm := List.mem_of_getElem? hxk
    obtain ⟨o, ho⟩ : ∃ o, o = oneR f p (rs.map (·.r)) [] x.r.id := ⟨_, rfl⟩
    have hit : o.1.items.length ≤ 7 := by rw [ho]; exact oneR_items
    have hO1 : ∀ {L : List E.Item} (w' : World), Mem w L w' → Calls Tryz.prog 18 #[.agg (f.cells fa).toArray, .agg (p.cells a).toArray, .slice (some ⟨b, off, none⟩) n c, .slice none 0 0, .int .i64 x.r.id] w' fun e w'' => ∃ z : Option Addr × Nat, e = .returned (.tuple #[.agg (o.1.cells z.1 z.2).toArray, .int .i64 o.2]) ∧ Mem w' [itRow z.1 z.2 o.1.items] w'' := fun w' hw => by
      have h := one_w f fa p a (some ⟨b, off, none⟩) n c rs none 0 0 [] x.r.id w' (hf.mem hw) (hp.mem hw) (hr.mem hw) hs1 (slAt_nil w' 4 Pen.V.cells) hpl
      rw [← ho] at h
      exact h
    obtain ⟨Q, hQ⟩ : ∃ Q : Nat → List RX, ∀ k, Q k = (rs.take k).filter fun y => keepB x.r y.r := ⟨_, fun _ => rfl⟩
    have hQ0 : Q 0 = [] := by rw [hQ]; rfl
    have hQn : Q n = rs.filter fun y => keepB x.r y.r := by rw [hQ, ← hl, List.take_length]
    have hQl : ∀ k, (Q k).length ≤ n := fun k => by
      rw [hQ]
      exact Nat.le_trans (List.length_filter_le _ _) (by rw [List.length_take]; omega)
    have hQs : ∀ k y, rs[k]? = some y → Q (k + 1) = if keepB x.r y.r = true then Q k ++ [y] else Q k := fun k y h => by
      rw [hQ, hQ, snocT _ _ _ h, List.filter_append]
      split
      · rename_i ho; rw [List.filter_cons_of_pos (p := fun y : RX => keepB x.r y.r) ho]; rfl
      · rename_i ho; rw [List.filter_cons_of_neg (p := fun y : RX => keepB x.r y.r) ho]; simp
    have hQm : ∀ y ∈ Q n, y ∈ rs := fun y hy => by
      rw [hQn] at hy
      exact (List.mem_filter.1 hy).1
    have hal : o.2 = 0 → oneR f p ((Q n).map (·.r)) [] x.r.id = (o.1, 0) := fun h0 => by
      rw [hQn, filter_map_r, ho]
      exact alone_eq (List.mem_map.2 ⟨x, hxm, rfl⟩) (by rw [← ho]; exact h0)
    clear ho
    obtain ⟨ob, oe⟩ := o
    simp only at hit hO1 hal
    refine H_skip (thenJ_normal (H_seq (R0 (xv (mvS rfl) (xv (mvI rfl) (xv (e_cvt (k := .u8) Tryz.underlying5 Tryz.underlying3 (q0 rfl) (fun _ => by omega)) (xv (mvS rfl) (xv (e_len Tryz.underlying36 (q0 rfl)) (xv (v := .int .i64 (k0 : Int)) (by rw [← hk0]; exact e_rem (q0 rfl) (q0 rfl) (fun _ => ⟨hq.1, by omega⟩)) ?_)))))))))
    refine xv (e_idx k0 Tryz.underlying36 Tryz.sizeOf54 (q0 rfl) (q0 rfl) (fun _ => ⟨rfl, hk0n⟩)) (xv (e_lds (vs := x.cells) Tryz.isAgg54 Tryz.sizeOf54 (q0 rfl) (rcs hrx hbl) rfl) (X_alloc Tryz.zeroValue54 rfl fun b7 => (X_st (v := .agg _) rfl rfl Tryz.sizeOf54 ?_)))
    refine XN (thenJ_normal (H_seq (R0 (xv (e_fld Tryz.underlying30 rfl Tryz.sizeOf24 rfl (q0 rfl)) (xv (eP (vs := f.cells fa) Tryz.isAgg24 Tryz.sizeOf24 (q0 rfl) (bpv 1 rfl rfl rfl)) ?_)))))
    refine xv (e_fld Tryz.underlying30 rfl Tryz.sizeOf28 rfl (q0 rfl)) (xv (eP (vs := p.cells a) Tryz.isAgg28 Tryz.sizeOf28 (q0 rfl) (bpv 1 rfl rfl rfl)) ?_)
    refine xv (mvS rfl) (xv (e_fld Tryz.underlying54 rfl Tryz.sizeOf3 rfl (q0 rfl)) (xv (e_ld (v := .int .i64 x.r.id) Tryz.isAgg3 (q0 rfl) (bx 0 rfl rfl)) (xCX (en (al := [.agg (f.cells fa).toArray, .agg (p.cells a).toArray, .slice (some ⟨b, off, none⟩) n c, .slice none 0 0, .int .i64 x.r.id]) Tryz.call18 (fun _ => rfl)) (fun w hw => hO1 w hw) rfl (fun _ => rfl) fun z1 => (xv (e_mv (q0 rfl)) (xv (e_ext (q0 rfl) rfl) (xv (e_ext (q0 rfl) rfl) (X_alloc Tryz.zeroValue44 rfl fun b8 => (X_st (v := .agg _) rfl rfl Tryz.sizeOf44 ?_))))))))
    refine xv (asI rfl) (XN (thenJ_normal (H_seq (H_seq (R0 (xv (mvI rfl) (xv (e_ne (q0 rfl) (q0 rfl)) (XN (thenJ_normal ?_)))))))))
    refine H_cond rfl (fun h2 => ?_) (fun h2 => ?_)
    · refine H_seq (R0 (xC (en Tryz.call14 (ha0)) (fun _ w _ => awake_w w) rfl rfl (xv (asB rfl) (XN (thenJ_normal (H_ret (thenJ_ret ?_)))))))
      exact ret1 (v := .bool _) rfl rfl rfl fun w' hw => ⟨rfl, hw.1⟩
    · have h2' : oe = 0 := by simpa using h2
      have hoq := hal h2'
      refine H_skip (thenJ_normal (H_seq (R0 (xv (asS rfl) (XN (thenJ_normal (H_seq (H_seq (H_mem (L' := [rdRow none 0 [], box b8 44 (ob.cells z1.1 z1.2), itRow z1.1 z1.2 ob.items, box b7 54 x.cells, box b3 30 (ctCells f fa p a)]) (fun w hw => hw.nilRow 54 13 RX.cells rfl) rfl ?_)))))))))
      refine R0 (xv (asI rfl) (XN (thenJ_normal (H_block (H_loop [10, 11, 46, 47, 48, 49, 50, 51, 52, 53, 54, 55, 56, 57, 58, 59, 60, 61, 62, 63, 64, 65, 66, 67, 68, 69, 70, 71, 72, 73, 74, 75] (fun s : Nat × Option Addr × Nat => [(11, .int .i64 s.1), (10, .slice s.2.1 (Q s.1).length s.2.2)]) (fun s => [rdRow s.2.1 s.2.2 (Q s.1), box b8 44 (ob.cells z1.1 z1.2), itRow z1.1 z1.2 ob.items, box b7 54 x.cells, box b3 30 (ctCells f fa p a)]) (fun s => s.1 ≤ n) (fun s => n - s.1) (0, none, 0) ⟨rfl, by rw [hQ0]; rfl, trivial⟩ (fun w hw => by rw [hQ0]; exact hw) rfl (Nat.zero_le _) ?_)))))
      rintro ⟨k, cA, cc⟩ g hk
      simp only at hk
      refine H_seq (H_seq (R0 (xv (mvI rfl) (xv (mvS rfl) (xv (e_len Tryz.underlying36 (q0 rfl)) (xv (e_lt (q0 rfl) (q0 rfl)) (XN (thenJ_normal (H_cond rfl (fun hlt => ?_) (fun hlt => ?_))))))))))
      · have hlt' : k < n := by simpa using hlt
        obtain ⟨y, hyk, hry⟩ := hr.1.row hlt'
        have hst := hQs k y hyk
        have hql := hQl k
        refine H_skip (thenJ_normal (H_seq (H_block (H_seq (R1 rfl (by decide +kernel) (xv (mvS rfl) (xv (mvI rfl) (xv (e_idx k Tryz.underlying36 Tryz.sizeOf54 (q0 rfl) (q0 rfl) (fun _ => ⟨rfl, hlt'⟩)) (xv (e_fld Tryz.underlying54 rfl Tryz.sizeOf3 rfl (q0 rfl)) ?_)))))))))
        refine xv (e_ld (v := .int .i64 y.r.id) Tryz.isAgg3 (q0 rfl) (by exact rc (j := 0) hry hbl rfl)) ?_
        refine xv (e_fld Tryz.underlying54 rfl Tryz.sizeOf3 rfl (q0 rfl)) (xv (e_ld (v := .int .i64 x.r.id) Tryz.isAgg3 (q0 rfl) (bx 3 rfl rfl)) (xv (e_eq (q0 rfl) (q0 rfl)) (xv (mvB rfl) (xf (mvS rfl) rfl rfl (xf (mvI rfl) rfl rfl (xf (e_idx k Tryz.underlying36 Tryz.sizeOf54 (q1 rfl) (q1 rfl) (fun _ => ⟨rfl, hlt'⟩)) rfl rfl (xf (e_lds (vs := y.cells) Tryz.isAgg54 Tryz.sizeOf54 (q1 rfl) (rcs hry hbl) rfl) rfl rfl (xf (e_lds (vs := x.cells) Tryz.isAgg54 Tryz.sizeOf54 (q0 rfl) (bxs 3 rfl) rfl) rfl rfl (xCF (en Tryz.call21 (ha2 (q1 (v := .agg _) rfl) (q1 (v := .agg _) rfl))) (fun _ w _ => later_w y x w) rfl rfl rfl rfl ?_)))))))))
        refine xf (e_not (q1 rfl)) rfl rfl (xv (e_or (q0 rfl) rfl (fun h => by first | rfl | (rw [h]; rfl))) ?_)
        refine XN (thenJ_normal (H_cond rfl (fun h3 => ?_) (fun h3 => ?_)))
        · have h3' : keepB x.r y.r = true := by unfold keepB; exact h3
          rw [if_pos h3'] at hst
          refine R0 (xv (mvS rfl) (xv (mvS rfl) (xv (mvI rfl) (xv (e_idx k Tryz.underlying36 Tryz.sizeOf54 (q0 rfl) (q0 rfl) (fun _ => ⟨rfl, hlt'⟩)) (xv (e_lds (vs := y.cells) Tryz.isAgg54 Tryz.sizeOf54 (q0 rfl) (rcs hry hbl) rfl) (X_push (k := 13) (i := Tryz.t54) 0 (y) Tryz.underlying36 (by kernel_rfl) rfl rfl rfl rfl Tryz.sizeOf54 Tryz.zeroValue54 rfl rfl rfl rfl rfl rfl ⟨by simp only; omega, by decide⟩ rfl rfl fun B0 A1 c1 => (xv (asS rfl) (XN (blockJ_normal ?_)))))))))
          refine thenJ_normal (R0 (xv (mvI rfl) (xv (e_add (q0 rfl) (q0 rfl) (fun _ => ⟨rfl, by omega, by omega⟩)) (xv (asI rfl) (XN ?_)))))
          exact loopJ_normal (k + 1, A1, c1) agr ⟨rfl, by rw [hst]; rfl, trivial⟩ (fun w hw => by rw [hst]; exact hw) rfl (by show k + 1 ≤ n; omega) (by show n - (k + 1) < n - k; omega)
        · have h3' : keepB x.r y.r = false := by unfold keepB; exact h3
          rw [if_neg (by rw [h3']; decide)] at hst
          refine H_skip (blockJ_normal (thenJ_normal (R0 (xv (mvI rfl) (xv (e_add (q0 rfl) (q0 rfl) (fun _ => ⟨rfl, by omega, by omega⟩)) (xv (asI rfl) (XN ?_)))))))
          exact loopJ_normal (k + 1, cA, cc) agr ⟨rfl, by rw [hst]; rfl, trivial⟩ (fun w hw => by rw [hst]; exact hw) rfl (by show k + 1 ≤ n; omega) (by show n - (k + 1) < n - k; omega)
      · have hend : k = n := by simp at hlt; omega
        subst hend
        have hql := hQl k
        have hO2 : ∀ (w' : World), Mem w [rdRow cA cc (Q k), box b8 44 (ob.cells z1.1 z1.2), itRow z1.1 z1.2 ob.items, box b7 54 x.cells, box b3 30 (ctCells f fa p a)] w' → Calls Tryz.prog 18 #[.agg (f.cells fa).toArray, .agg (p.cells a).toArray, .slice cA (Q k).length cc, .slice none 0 0, .int .i64 x.r.id] w' fun e w'' => ∃ z : Option Addr × Nat, e = .returned (.tuple #[.agg (ob.cells z.1 z.2).toArray, .int .i64 0]) ∧ Mem w' [itRow z.1 z.2 ob.items] w'' := fun w' hw => by
          have h := one_w f fa p a cA (Q k).length cc (Q k) none 0 0 [] x.r.id w' (hf.mem hw) (hp.mem hw) ⟨slAt_row hw (j := 0) rfl (fun _ => rfl) (by omega), fun y hy => (hr.2 y (hQm y hy)).mem hw⟩ (fun y hy => hs1 y (hQm y hy)) (slAt_nil w' 4 Pen.V.cells) (fun y hy => hpl y (hQm y hy))
          rw [hoq] at h
          exact h
        refine H_exit (thenJ_exit (loopJ_exit (blockJ_hit (thenJ_normal (H_seq (R0 (xv (e_fld Tryz.underlying30 rfl Tryz.sizeOf24 rfl (q0 rfl)) (xv (eP (vs := f.cells fa) Tryz.isAgg24 Tryz.sizeOf24 (q0 rfl) (bpv 4 rfl rfl rfl)) ?_))))))))
        refine xv (e_fld Tryz.underlying30 rfl Tryz.sizeOf28 rfl (q0 rfl)) (xv (eP (vs := p.cells a) Tryz.isAgg28 Tryz.sizeOf28 (q0 rfl) (bpv 4 rfl rfl rfl)) ?_)
        refine xv (mvS rfl) (xv (e_fld Tryz.underlying54 rfl Tryz.sizeOf3 rfl (q0 rfl)) (xv (e_ld (v := .int .i64 x.r.id) Tryz.isAgg3 (q0 rfl) (bx 3 rfl rfl)) (xCX (en (al := [.agg (f.cells fa).toArray, .agg (p.cells a).toArray, .slice cA (Q k).length cc, .slice none 0 0, .int .i64 x.r.id]) Tryz.call18 (fun _ => rfl)) (fun w hw => hO2 w hw) rfl (fun _ => rfl) fun z2 => (xv (e_mv (q0 rfl)) (xv (e_ext (q0 rfl) rfl) (xv (e_ext (q0 rfl) rfl) (X_alloc Tryz.zeroValue44 rfl fun b12 => (X_st (v := .agg _) rfl rfl Tryz.sizeOf44 ?_))))))))
        refine xv (asI rfl) (XN (thenJ_normal (H_seq (R0 (xv (mvI rfl) (xv (e_eq (q0 rfl) (q0 rfl)) (xv (mvB rfl) (xt (e_lds (vs := ob.cells z1.1 z1.2) Tryz.isAgg44 Tryz.sizeOf44 (q0 rfl) (bxs 3 rfl) rfl) rfl rfl (xt (e_lds (vs := ob.cells z2.1 z2.2) Tryz.isAgg44 Tryz.sizeOf44 (q0 rfl) (bxs 0 rfl) rfl) rfl rfl ?_)))))))))
        refine xCT (en Tryz.call20 (ha2 (q1 (v := .agg _) rfl) (q1 (v := .agg _) rfl))) (fun _ w hw => same_t ob z1.1 z2.1 z1.2 z2.2 w (slAt_row hw (j := 4) rfl (fun _ => rfl) (by omega)) (slAt_row hw (j := 1) rfl (fun _ => rfl) (by omega))) rfl rfl rfl rfl (xv (e_and (q0 rfl) rfl (fun h => by first | rfl | (rw [h]; rfl))) ?_)
        refine xv (mvB rfl) (xCT (en Tryz.call14 (ha0)) (fun _ w _ => awake_w w) rfl rfl rfl rfl (xv (e_and (q0 rfl) rfl (fun h => by first | rfl | (rw [h]; rfl))) ?_))
        refine xv (asB rfl) (XN (thenJ_normal (H_ret ?_)))
        exact ret1 (v := .bool _) rfl rfl rfl fun w' hw => ⟨ret_bool (by simp), hw.1⟩

end Go.Proofs.Far
