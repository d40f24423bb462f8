import Derived.Test.YtbocfacfgddbcaaGreatFarE
import Derived.Test.YtbocfacfgddbcaaGreatFarEb
import Derived.Test.YtbocfacfgddbcaaGreatFarF
import Derived.Test.YtbocfacfgddbcaaGreatFarEa
import Derived.OpenShut
set_option linter.unusedVariables false
set_option linter.unusedSimpArgs false
/-
  Plain functions: what is known of fares that are right; the fare of one ride; sums of items.
-/
namespace Go.Proofs.Far
open Go.Proofs.Cus Go.Proofs.Rid

theorem all_ok {f : Fl} {p : Pr} {rs : List Rd} {vs : List Pen.V} (h : allErr f p rs vs = 0) : prErr f p = 0 ∧ rdsErr rs = 0 ∧ Pen.vErr vs = 0 ∧ ∃ B : List Bil, FS p ((cntS rs).zip (useOf p (cntS rs))) (cntS rs).length = some B ∧ Rich (cntS rs) B ∧
    (∀ c ∈ (B.zip (paidOf p (cntS rs) B)).map (fun x => finB p vs x.1 (x.2 - x.1.total)), c.total ≤ 1000000000000) ∧ allR f p rs vs = byRide ((B.zip (paidOf p (cntS rs) B)).map fun x => finB p vs x.1 (x.2 - x.1.total)) := by
  have h1 : prErr f p = 0 := by
    apply Classical.byContradiction
    intro hn
    unfold allErr at h
    rw [if_pos hn] at h
    exact hn h
  have h2 : rdsErr rs = 0 := by
    apply Classical.byContradiction
    intro hn
    unfold allErr at h
    rw [if_neg (by omega), if_pos hn] at h
    exact hn h
  have h3 : Pen.vErr vs = 0 := by
    apply Classical.byContradiction
    intro hn
    unfold allErr at h
    rw [if_neg (by omega), if_neg (by omega), if_pos hn] at h
    exact hn h
  have h4 : allP p rs vs ≠ none := by
    intro hn
    unfold allErr at h
    rw [if_neg (by omega), if_neg (by omega), if_neg (by omega), if_pos hn] at h
    cases h
  have hg := cntS_good (rdsErr_good h2)
  refine ⟨h1, h2, h3, ?_⟩
  have hR : allR f p rs vs = (allP p rs vs).getD [] := by unfold allR; rw [if_neg (by omega)]
  rw [hR]
  unfold allP at h4 ⊢
  have hzl : ((cntS rs).zip (useOf p (cntS rs))).length = (cntS rs).length := by rw [List.length_zip, useOf_len]; omega
  cases hfs : fsAll p ((cntS rs).zip (useOf p (cntS rs))) with
  | none => rw [hfs] at h4; exact absurd rfl h4
  | some B =>
    rw [hfs] at h4
    simp only at h4 ⊢
    cases hfn : fnAll p vs (B.zip (paidOf p (cntS rs) B)) with
    | none => rw [hfn] at h4; exact absurd rfl h4
    | some C =>
      have hFS : FS p ((cntS rs).zip (useOf p (cntS rs))) (cntS rs).length = some B := by rw [FS_all (by omega)]; exact hfs
      have hrich := rich_of h1 hg (useOf_len p _) hFS
      have hFN : FN p vs (B.zip (paidOf p (cntS rs) B)) (B.zip (paidOf p (cntS rs) B)).length = some C := by rw [FN_all (Nat.le_refl _)]; exact hfn
      have hC := FN_facts (Nat.le_refl _) hFN
      rw [List.take_length] at hC
      have hle := FN_le (Nat.le_refl _) hFN
      refine ⟨B, hFS, hrich, ?_, ?_⟩
      · rw [← hC]; exact hle
      · rw [← hC]; rfl
theorem byRide_perm (C : List Bil) : (byRide C).Perm C := List.mergeSort_perm _ _
theorem allR_perm {f : Fl} {p : Pr} {rs : List Rd} {vs : List Pen.V} (h : allErr f p rs vs = 0) : ((allR f p rs vs).map (·.ride)).Perm ((rs.filter fun r => !r.open_).map (·.id)) := by
  obtain ⟨h1, h2, h3, B, hFS, hrich, _, hall⟩ := all_ok h
  rw [hall]
  refine ((byRide_perm _).map _).trans ?_
  rw [fin_rides (by rw [paidOf_len hrich.len]; exact Nat.le_refl _), rides_of hrich]
  exact (cntS_perm rs).map _
theorem allR_nodup {f : Fl} {p : Pr} {rs : List Rd} {vs : List Pen.V} (h : allErr f p rs vs = 0) : ((allR f p rs vs).map (·.ride)).Nodup := by
  obtain ⟨h1, h2, _⟩ := all_ok h
  exact (allR_perm h).nodup_iff.2 (good_ids (rdsErr_good h2))
/-- the fare of a ride that has ended -/
theorem all_at {f : Fl} {p : Pr} {rs : List Rd} {vs : List Pen.V} (h : allErr f p rs vs = 0) {r : Rd} (hr : r ∈ rs) (ho : r.open_ = false) :
    ∃ (B : List Bil) (i : Nat) (u : Int) (b : Bil) (v : Int) (c : Bil), FS p ((cntS rs).zip (useOf p (cntS rs))) (cntS rs).length = some B ∧ Rich (cntS rs) B ∧ (cntS rs)[i]? = some r ∧ (useOf p (cntS rs))[i]? = some u ∧ B[i]? = some b ∧ firstP p r u = some b ∧ (paidOf p (cntS rs) B)[i]? = some v ∧ c = finB p vs b (v - b.total) ∧ c ∈ allR f p rs vs ∧ c.ride = r.id ∧ c.rider = r.rider ∧ c.total ≤ 1000000000000 ∧ 0 ≤ v ∧ v ≤ 1000000000000 := by
  obtain ⟨h1, h2, h3, B, hFS, hrich, hle, hall⟩ := all_ok h
  have hm : r ∈ cntS rs := (cntS_perm rs).mem_iff.2 (List.mem_filter.2 ⟨hr, by rw [ho]; rfl⟩)
  obtain ⟨i, hi⟩ := List.getElem?_of_mem hm
  have hil := (List.getElem?_eq_some_iff.1 hi).1
  have hlen := hrich.len
  have hul := useOf_len p (cntS rs)
  have hpl := paidOf_len (p := p) hrich.len
  obtain ⟨u, hu⟩ : ∃ u, (useOf p (cntS rs))[i]? = some u := ⟨_, List.getElem?_eq_getElem (by omega)⟩
  obtain ⟨b, hb⟩ : ∃ b, B[i]? = some b := ⟨_, List.getElem?_eq_getElem (by omega)⟩
  obtain ⟨v, hv⟩ : ∃ v, (paidOf p (cntS rs) B)[i]? = some v := ⟨_, List.getElem?_eq_getElem (by omega)⟩
  have hzl : (cntS rs).length ≤ ((cntS rs).zip (useOf p (cntS rs))).length := by rw [List.length_zip]; omega
  have hfp := (FS_facts hzl hFS).2 i b (r, u) hb (zip_get hi hu)
  have hrr := hrich.ride i b r hb hi
  have hcm : finB p vs b (v - b.total) ∈ (B.zip (paidOf p (cntS rs) B)).map fun x => finB p vs x.1 (x.2 - x.1.total) := List.mem_map.2 ⟨(b, v), List.mem_of_getElem? (zip_get hb hv), rfl⟩
  have hfr := finB_ride p vs b (v - b.total)
  have hpr := paid_range h1 hrich (List.mem_of_getElem? hv)
  exact ⟨B, i, u, b, v, _, hFS, hrich, hi, hu, hb, hfp, hv, rfl, by rw [hall]; exact (byRide_perm _).mem_iff.2 hcm, hfr.1.trans hrr.2.2.2.1, hfr.2.trans hrr.2.2.2.2, hle _ hcm, hpr.1, hpr.2⟩
theorem allR_ride {f : Fl} {p : Pr} {rs : List Rd} {vs : List Pen.V} (h : allErr f p rs vs = 0) {c : Bil} (hc : c ∈ allR f p rs vs) : ∃ r ∈ rs, r.open_ = false ∧ r.id = c.ride := by
  have h1 := (allR_perm h).mem_iff.1 (List.mem_map.2 ⟨c, hc, rfl⟩)
  obtain ⟨r, hr, he⟩ := List.mem_map.1 h1
  have h2 := List.mem_filter.1 hr
  exact ⟨r, h2.1, by simpa using h2.2, he⟩
theorem same_id {rs : List Rd} (h : rdsErr rs = 0) {x y : Rd} (hx : x ∈ rs) (hy : y ∈ rs) (he : x.id = y.id) : x = y := by
  have hn := (twice_nodup _ _ (rdsErr_good h).ids).1
  have h2 : rs.Pairwise fun a b => a.id ≠ b.id := List.pairwise_map.1 hn
  obtain ⟨i, hi⟩ := List.getElem?_of_mem hx
  obtain ⟨j, hj⟩ := List.getElem?_of_mem hy
  obtain ⟨i1, i2⟩ := List.getElem?_eq_some_iff.1 hi
  obtain ⟨j1, j2⟩ := List.getElem?_eq_some_iff.1 hj
  rcases Nat.lt_trichotomy i j with hij | hij | hij
  · exact absurd (by rw [i2, j2]; exact he) (List.pairwise_iff_getElem.1 h2 i j i1 j1 hij)
  · subst hij; rw [← i2, ← j2]
  · exact absurd (by rw [i2, j2]; exact he.symm) (List.pairwise_iff_getElem.1 h2 j i j1 i1 hij)

/-! the fare of one ride -/
def zBil : Bil := ⟨0, 0, [], 0⟩
def oneR (f : Fl) (p : Pr) (rs : List Rd) (vs : List Pen.V) (id : Int) : Bil × Int :=
  if allErr f p rs vs ≠ 0 then (zBil, allErr f p rs vs)
  else match (allR f p rs vs).find? fun b => decide (b.ride = id) with
    | some b => (b, 0)
    | none => if (rs.any fun r => decide (r.id = id)) = true then (zBil, 26) else (zBil, 7)
theorem one_err {f : Fl} {p : Pr} {rs : List Rd} {vs : List Pen.V} {id : Int} (h : allErr f p rs vs ≠ 0) : oneR f p rs vs id = (zBil, allErr f p rs vs) := by unfold oneR; rw [if_pos h]
theorem one_none {f : Fl} {p : Pr} {rs : List Rd} {vs : List Pen.V} {id : Int} (h : allErr f p rs vs = 0) (hf : findR rs id = none) : oneR f p rs vs id = (zBil, 7) := by
  have hno : ∀ r ∈ rs, r.id ≠ id := fun r hr => by
    unfold findR at hf
    rw [List.find?_eq_none] at hf
    simpa using hf r hr
  have hfn : ((allR f p rs vs).find? fun b => decide (b.ride = id)) = none := by
    rw [List.find?_eq_none]
    intro c hc
    obtain ⟨r, hr, _, he⟩ := allR_ride h hc
    have := hno r hr
    simp
    omega
  have han : (rs.any fun r => decide (r.id = id)) = false := by
    rw [List.any_eq_false]
    intro r hr
    simpa using hno r hr
  unfold oneR
  rw [if_neg (by omega), hfn]
  simp only
  rw [han, if_neg (by decide)]
theorem findR_some {rs : List Rd} {id : Int} {r : Rd} (h : findR rs id = some r) : r ∈ rs ∧ r.id = id := by
  unfold findR at h
  exact ⟨List.mem_of_find?_eq_some h, by simpa using List.find?_some h⟩
theorem one_open {f : Fl} {p : Pr} {rs : List Rd} {vs : List Pen.V} {id : Int} {r : Rd} (h : allErr f p rs vs = 0) (hf : findR rs id = some r) (ho : r.open_ = true) : oneR f p rs vs id = (zBil, 26) := by
  obtain ⟨_, h2, _⟩ := all_ok h
  obtain ⟨hm, hid⟩ := findR_some hf
  have hfn : ((allR f p rs vs).find? fun b => decide (b.ride = id)) = none := by
    rw [List.find?_eq_none]
    intro c hc
    obtain ⟨r2, hr2, ho2, he⟩ := allR_ride h hc
    simp
    intro hh
    have := same_id h2 hm hr2 (by omega)
    subst this
    rw [ho] at ho2; cases ho2
  have han : (rs.any fun r => decide (r.id = id)) = true := List.any_eq_true.2 ⟨r, hm, by simp [hid]⟩
  unfold oneR
  rw [if_neg (by omega), hfn]
  simp only
  rw [han, if_pos rfl]
theorem one_some {f : Fl} {p : Pr} {rs : List Rd} {vs : List Pen.V} {id : Int} {r : Rd} (h : allErr f p rs vs = 0) (hf : findR rs id = some r) (ho : r.open_ = false) : ∃ (k : Nat) (c : Bil), (allR f p rs vs)[k]? = some c ∧ c.ride = id ∧ (∀ j d, j < k → (allR f p rs vs)[j]? = some d → d.ride ≠ id) ∧ oneR f p rs vs id = (c, 0) := by
  obtain ⟨hm, hid⟩ := findR_some hf
  obtain ⟨B, i, u, b, v, c, _, _, _, _, _, _, _, _, hc, hcr, _⟩ := all_at h hm ho
  cases hfd : (allR f p rs vs).find? fun b => decide (b.ride = id) with
  | none =>
    rw [List.find?_eq_none] at hfd
    exact absurd (by simp [hcr, hid]) (hfd c hc)
  | some d =>
    obtain ⟨h1, la, lb, h2, h3⟩ := List.find?_eq_some_iff_append.1 hfd
    refine ⟨la.length, d, ?_, by simpa using h1, fun j e hj he => ?_, ?_⟩
    · rw [h2, List.getElem?_append_right (Nat.le_refl _), Nat.sub_self]; rfl
    · rw [h2, List.getElem?_append_left hj] at he
      have := h3 e (List.mem_of_getElem? he)
      simpa using this
    · unfold oneR
      rw [if_neg (by omega), hfd]

/-! sums of items -/
def amBad (i : Itm) : Bool := decide (i.amount < -1000000000000) || decide (1000000000000 < i.amount)
def sumR (l : List Itm) : Int × Int := if 16 < l.length then (0, 8) else if l.any amBad = true then (0, 1) else ((l.map (·.amount)).sum, 0)

end Go.Proofs.Far

/-
  The walks: the fare of one ride; sums; equal fares.
-/
namespace Go.Proofs.Far
open Go Go.RowKit Go.Proofs.E Go.Proofs.Cus Go.Proofs.Rid

def faVal (o : Bil × Int) (z : Option Addr × Nat) : Value := .tuple #[.agg (o.1.cells z.1 z.2).toArray, .int .i64 o.2]
theorem fa_front {w0 w : World} {L : List E.Item} {A : Option Addr} {c : Nat} {z : List FX} {k : Nat} {x : FX} (h : Mem w0 (faRow A c z :: bag (z.flatMap faParts) :: L) w) (hk : z[k]? = some x) : Mem w0 [itRow x.A x.c x.b.items] w := by
  have h1 : Mem w0 (bag (z.flatMap faParts) :: L) w := h.tail
  exact (h1.apart hk).pickN 1 [0] (by decide) (by decide) |>.sublist (List.sublist_append_left ..)
attribute [local irreducible] allR allErr oneR findR
set_option maxRecDepth 20000 in
theorem fone1_w (x : FX) (b9 : Nat) (id : Int) (w : World) (hb : RowAt w b9 0 [.int .i64 id]) (hl : b9 < w.heap.size) : Calls Tryz.prog 71 #[.agg x.cells.toArray, .pointer (some ⟨b9, 0, none⟩)] w fun e w' => e = .returned (.bool (decide (x.b.ride = id))) ∧ Bel w w' := by
  refine H_enter Tryz.func71 rfl Tryz.ntmps71 rfl (H_seq (R0 (X_box (v := .agg _) rfl rfl fun b2 => (xv (asB rfl) (XN (thenJ_normal (H_seq (R0 (xv (e_fld Tryz.underlying44 rfl Tryz.sizeOf3 rfl (q0 rfl)) ?_)))))))))
  refine xv (eL Tryz.isAgg3 (q0 rfl)) ?_
  refine xv (e_ld (v := .int .i64 id) Tryz.isAgg3 (q0 rfl) (rc0 hb hl rfl)) (xv (e_eq (q0 rfl) (q0 rfl)) (xv (asB rfl) (XN (thenJ_normal (H_ret ?_)))))
  exact ret1 (v := .bool _) rfl rfl rfl fun w' hw => ⟨rfl, hw.1⟩
set_option maxRecDepth 20000 in
theorem fidx_w (A : Option Addr) (n c : Nat) (z : List FX) (b9 : Nat) (id : Int) (w : World) (hx : SlAt w 4 FX.cells A n z) (hb : RowAt w b9 0 [.int .i64 id]) (hl : b9 < w.heap.size) {k : Nat} {x : FX} (hk : z[k]? = some x) (hid : x.b.ride = id) (hbef : ∀ j y, j < k → z[j]? = some y → y.b.ride ≠ id) :
    Calls Tryz.prog 70 #[.slice A n c, .func (.func 71) #[] #[.pointer (some ⟨b9, 0, none⟩)]] w fun e w' => e = .returned (.int .i64 k) ∧ Bel w w' := by
  have hl2 := hx.1
  have hn := hx.2.1
  have hkn := (List.getElem?_eq_some_iff.1 hk).1
  refine H_enter Tryz.func70 rfl Tryz.ntmps70 rfl (H_seq (R0 (xv (asI rfl) (XN (thenJ_normal (H_seq (H_seq (R0 (xv (mvS rfl) ?_)))))))))
  refine xv (e_len Tryz.underlying38 (q0 rfl)) (xv (mvI rfl) (XN (thenJ_normal (H_block (H_loop [4, 5, 8, 9, 10, 11, 12, 13, 14, 15, 16, 17, 18] (fun i : Nat => [(8, .int .i64 i)]) (fun _ => []) (fun i => i ≤ k) (fun i => n - i) 0 ⟨rfl, trivial⟩ (fun w hw => hw) rfl (Nat.zero_le _) ?_)))))
  rintro i g hi
  refine H_seq (R0 (xv (e_lt (q0 rfl) (q0 rfl)) (XN (thenJ_normal (H_seq (H_cond rfl (fun hlt => ?_) (fun hlt => ?_)))))))
  · have hlt' : i < n := by simpa using hlt
    obtain ⟨pb, off, v, rfl, hpbl, hpk, hrp⟩ := hx.at_ hlt'
    refine H_skip (thenJ_normal (H_seq (H_block (H_seq (R0 (xv (mvI rfl) (xv (asI rfl) (XN (thenJ_normal ?_)))))))))
    refine H_seq (R0 (xv (e_mv (q0 rfl)) (xv (mvS rfl) (xv (mvI rfl) (xv (e_idx _ Tryz.underlying38 Tryz.sizeOf44 (q0 rfl) (q0 rfl) (fun _ => ⟨rfl, by omega⟩)) (xv (eS Tryz.isAgg44 Tryz.sizeOf44 (q0 rfl)) ?_))))))
    refine xC (enV (cap := [.pointer (some ⟨b9, 0, none⟩)]) (al := [.agg v.cells.toArray, .pointer (some ⟨b9, 0, none⟩)]) Tryz.call71 (q0 rfl) (fun hg => by rw [ha1 (q0 (v := .agg _) rfl) hg]; rfl)) (fun _ w hw => fone1_w v b9 id w (fun j u hu => rcs hb hl rfl w hw j u hu) (Nat.lt_of_lt_of_le hl hw.1.size)) rfl rfl (XN (thenJ_normal (H_cond rfl (fun hv => ?_) (fun hv => ?_))))
    · have hv' : v.b.ride = id := of_decide_eq_true hv
      have hik : i = k := by
        rcases Nat.lt_or_ge i k with h | h
        · exact absurd hv' (hbef i v h hpk)
        · omega
      rw [hik]
      refine H_seq (R0 (xv (mvI rfl) (xv (asI rfl) (XN (thenJ_normal (H_ret (blockJ_ret (thenJ_ret (loopJ_ret ?_)))))))))
      refine blockJ_ret (thenJ_ret ?_)
      exact ret1 (v := .int _ _) rfl rfl rfl fun w' hw => ⟨rfl, hw.1⟩
    · have hv' : ¬ v.b.ride = id := of_decide_eq_false hv
      have hik : i ≠ k := fun h => by
        subst h
        rw [hpk] at hk
        cases hk
        exact hv' hid
      refine H_skip (blockJ_normal (thenJ_normal (R0 (xv (e_add (q0 rfl) (q0 rfl) (fun _ => ⟨rfl, by omega, by omega⟩)) (xv (mvI rfl) (XN ?_))))))
      exact loopJ_normal (i + 1) agr ⟨rfl, trivial⟩ (fun w hw => hw) rfl (by show i + 1 ≤ k; omega) (by show n - (i + 1) < n - i; omega)
  · exfalso; simp at hlt; omega
set_option maxHeartbeats 1000000 in
set_option maxRecDepth 20000 in
theorem one_w (f : Fl) (fa : FA) (p : Pr) (a : PrA) (A : Option Addr) (n c : Nat) (rs : List RX) (V : Option Addr) (vn vc : Nat) (vs : List Pen.V) (id : Int) (w : World) (hf : FlAt w f fa) (hp : PrAt w p a) (hr : RdsAt w A n rs) (hs : Short rs) (hv : Pen.VsAt w V vn vs) (hpl : ∀ x ∈ rs, x.r.pl ≤ 9223372036854775807) :
    Calls Tryz.prog 18 #[.agg (f.cells fa).toArray, .agg (p.cells a).toArray, .slice A n c, .slice V vn vc, .int .i64 id] w fun e w' => ∃ z : Option Addr × Nat, e = .returned (faVal (oneR f p (rs.map (·.r)) vs id) z) ∧ Mem w [itRow z.1 z.2 (oneR f p (rs.map (·.r)) vs id).1.items] w' := by
  have hl := hr.1.1
  refine H_enter Tryz.func18 rfl Tryz.ntmps18 rfl (H_seq (R0 (X_box (v := .agg _) rfl rfl fun b5 => (X_box (v := .agg _) rfl rfl fun b6 => (X_box (v := .int _ _) rfl rfl fun b9 => (X_alloc Tryz.zeroValue44 rfl fun b10 => (xv (asI rfl) (XN (thenJ_normal ?_)))))))))
  refine H_seq (R0 (xv (eS Tryz.isAgg24 Tryz.sizeOf24 (q0 rfl)) ?_))
  refine xv (eS Tryz.isAgg28 Tryz.sizeOf28 (q0 rfl)) ?_
  refine xv (mvS rfl) (xv (mvS rfl) (xCX (en Tryz.call15 (ha4 (q0 rfl) (q0 rfl) (q0 rfl) (q0 rfl))) (fun w hw => all_w f fa p a A n c rs V vn vc vs w (hf.mem hw) (hp.mem hw) (hr.mem hw) hs (hv.mem hw) hpl) rfl (fun _ => rfl) fun z => ?_))
  obtain ⟨⟨fs, ⟨fA, fc⟩⟩, hfs⟩ := z
  dsimp only at hfs ⊢
  refine xv (e_mv (q0 rfl)) (xv (e_ext (q0 rfl) rfl) (xv (e_ext (q0 rfl) rfl) (xv (asS rfl) (xv (asI rfl) (XN (thenJ_normal (H_seq (H_seq (R0 ?_)))))))))
  refine xv (mvI rfl) (xv (e_ne (q0 rfl) (q0 rfl)) (XN (thenJ_normal (H_cond rfl (fun h1 => ?_) (fun h1 => ?_)))))
  · have h1' : allErr f p (rs.map (·.r)) vs ≠ 0 := by simpa using h1
    rw [one_err h1']
    refine H_seq (R0 (xv (e_build Tryz.underlying44 fl44 Tryz.zeroValue44 E.p0 rfl) (xv (mvI rfl) (X_st (v := .agg _) rfl rfl Tryz.sizeOf44 ?_))))
    refine xv (asI rfl) (XN (thenJ_normal (H_ret (thenJ_ret ?_))))
    exact ret_of rfl (resc2 2 rfl rfl rfl Tryz.isAgg44 Tryz.sizeOf44 rfl rfl) fun w' hw => ⟨(none, 0), rfl, (mem_nil.2 hw.1).nilRow 69 3 Itm.cells rfl⟩
  · have h1' : allErr f p (rs.map (·.r)) vs = 0 := by simpa using h1
    have hfl : fs.length ≤ n := by
      have h := (allR_perm h1').length_eq
      rw [← hfs, List.length_map, List.length_map, List.length_map] at h
      have := List.length_filter_le (fun r : Rd => !r.open_) (rs.map (·.r))
      rw [List.length_map] at this
      omega
    have hn := hr.1.2.1
    refine H_skip (thenJ_normal (H_seq (R0 (xv (mvS rfl) (xv (eL Tryz.isAgg3 (q0 rfl)) ?_)))))
    refine xCX (en Tryz.call69 (ha2 (q0 rfl) (q0 rfl))) (fun w hw => find_w A n c rs id w (hr.mem hw) hs) rfl (fun _ => rfl) fun y => ?_
    cases hfr : findR (rs.map (·.r)) id with
    | none =>
      rw [one_none h1' hfr]
      dsimp only [Option.getD, Option.isSome]
      refine xv (e_mv (q0 rfl)) (xv (e_ext (q0 rfl) rfl) (xv (e_ext (q0 rfl) rfl) (X_alloc Tryz.zeroValue54 rfl fun b14 => (X_st (v := .agg _) rfl rfl Tryz.sizeOf54 ?_))))
      refine xv (asB rfl) (XN (thenJ_normal (H_seq (H_seq (R0 (xv (mvB rfl) (xv (e_not (q0 rfl)) (XN (thenJ_normal ?_)))))))))
      refine H_cond rfl (fun h2 => ?_) (fun h2 => ?_)
      · refine H_seq (R0 (xv (e_build Tryz.underlying44 fl44 Tryz.zeroValue44 E.p0 rfl) (X_st (v := .agg _) rfl rfl Tryz.sizeOf44 ?_)))
        refine xv (asI rfl) (XN (thenJ_normal (H_ret (thenJ_ret ?_))))
        exact ret_of rfl (resc2 5 rfl rfl rfl Tryz.isAgg44 Tryz.sizeOf44 rfl rfl) fun w' hw => ⟨(none, 0), rfl, (mem_nil.2 hw.1).nilRow 69 3 Itm.cells rfl⟩
      · exfalso; simp at h2
    | some r =>
      dsimp only [Option.getD, Option.isSome]
      refine xv (e_mv (q0 rfl)) (xv (e_ext (q0 rfl) rfl) (xv (e_ext (q0 rfl) rfl) (X_alloc Tryz.zeroValue54 rfl fun b14 => (X_st (v := .agg _) rfl rfl Tryz.sizeOf54 ?_))))
      refine xv (asB rfl) (XN (thenJ_normal (H_seq (H_seq (R0 (xv (mvB rfl) (xv (e_not (q0 rfl)) (XN (thenJ_normal ?_)))))))))
      refine H_cond rfl (fun h2 => ?_) (fun h2 => ?_)
      · exfalso; simp at h2
      · refine H_skip (thenJ_normal (H_seq (H_seq (R0 (xv (e_fld Tryz.underlying54 rfl Tryz.sizeOf4 rfl (q0 rfl)) (xv (eL Tryz.isAgg4 (q0 rfl)) ?_))))))
        refine XN (thenJ_normal (H_cond rfl (fun h3 => ?_) (fun h3 => ?_)))
        · have h3' : r.open_ = true := h3
          rw [one_open h1' hfr h3']
          refine H_seq (R0 (xv (e_build Tryz.underlying44 fl44 Tryz.zeroValue44 E.p0 rfl) (X_st (v := .agg _) rfl rfl Tryz.sizeOf44 ?_)))
          refine xv (asI rfl) (XN (thenJ_normal (H_ret (thenJ_ret ?_))))
          exact ret_of rfl (resc2 5 rfl rfl rfl Tryz.isAgg44 Tryz.sizeOf44 rfl rfl) fun w' hw => ⟨(none, 0), rfl, (mem_nil.2 hw.1).nilRow 69 3 Itm.cells rfl⟩
        · have h3' : r.open_ = false := h3
          obtain ⟨k, cb, hck, hcr, hcb, hone⟩ := one_some h1' hfr h3'
          rw [hone]
          rw [← hfs] at hck hcb
          obtain ⟨x, hxk, hxb⟩ : ∃ x, fs[k]? = some x ∧ x.b = cb := by
            rw [List.getElem?_map] at hck
            cases hq : fs[k]? with
            | none => rw [hq] at hck; cases hck
            | some x => rw [hq] at hck; exact ⟨x, rfl, Option.some.inj hck⟩
          subst hxb
          have hkl := (List.getElem?_eq_some_iff.1 hxk).1
          have hbef : ∀ j y, j < k → fs[j]? = some y → y.b.ride ≠ id := fun j y hj hy => hcb j y.b hj (by rw [List.getElem?_map, hy]; rfl)
          refine H_know (fun w hw => rowT_at (j := 3) hw rfl (by omega)) fun ⟨fb, hfb⟩ => ?_
          subst hfb
          refine H_skip (thenJ_normal (H_seq (R0 (xv (mvS rfl) (xV e_fn rfl rfl (xC (v := .int .i64 k) (en (al := [.slice (some ⟨fb, 0, none⟩) fs.length fc, .func (.func 71) #[] #[.pointer (some ⟨b9, 0, none⟩)]]) Tryz.call70 (ha2 (q0 (v := .slice _ _ _) rfl) (q0 rfl))) (fun _ w hw => fidx_w _ fs.length fc fs b9 id w (slAt_row hw (j := 3) rfl (fun _ => rfl) (by omega)) (fun j u hu => by rw [Nat.zero_add]; exact box_cell hw (k := 6) rfl hu) (hw.itemLt (k := 6) rfl rfl).2 hxk hcr hbef) rfl rfl (xv (asI rfl) (XN (thenJ_normal ?_)))))))))
          refine H_seq (R0 (xv (mvS rfl) (xv (mvI rfl) (xv (e_idx k Tryz.underlying38 Tryz.sizeOf44 (q0 rfl) (q0 rfl) (fun _ => ⟨rfl, by first | exact hkl | (simp only; omega)⟩)) ?_))))
          refine xv (e_lds (vs := x.cells) Tryz.isAgg44 Tryz.sizeOf44 (q0 rfl) (by exact rrs 3 rfl hxk) rfl) ?_
          refine X_st (v := .agg _) rfl rfl Tryz.sizeOf44 ?_
          refine xv (asI rfl) (XN (thenJ_normal (H_ret ?_)))
          exact ret_of rfl (resc2 5 rfl rfl rfl Tryz.isAgg44 Tryz.sizeOf44 rfl rfl) fun w' hw => ⟨(x.A, x.c), rfl, fa_front (hw.pickN 5 [3, 4] (by decide) (by decide)) hxk⟩

end Go.Proofs.Far

/-
  The walks: sums; equal fares.
-/
namespace Go.Proofs.Far
open Go Go.RowKit Go.Proofs.E Go.Proofs.Cus Go.Proofs.Rid

/-! sums -/
def sT2 (l : List Itm) (k : Nat) : Int := ((l.take k).map (·.amount)).sum
theorem sT2_succ {l : List Itm} {k : Nat} {x : Itm} (h : l[k]? = some x) : sT2 l (k + 1) = sT2 l k + x.amount := by
  unfold sT2
  rw [snocT _ _ _ h, List.map_append, List.sum_append]; simp
theorem sumR_bad {l : List Itm} {k : Nat} {x : Itm} (hl : ¬ 16 < l.length) (h : l[k]? = some x) (hb : amBad x = true) : sumR l = (0, 1) := by
  unfold sumR
  rw [if_neg hl, if_pos (List.any_eq_true.2 ⟨x, List.mem_of_getElem? h, hb⟩)]
theorem sumR_good {l : List Itm} {n : Nat} (hl : ¬ 16 < l.length) (hn : l.length = n) (h : ∀ x ∈ l.take n, amBad x = false) : sumR l = (sT2 l n, 0) := by
  rw [← hn, List.take_length] at h
  unfold sumR sT2
  rw [if_neg hl, if_neg, ← hn, List.take_length]
  intro hh
  obtain ⟨x, hx, hb⟩ := List.any_eq_true.1 hh
  rw [h x hx] at hb; cases hb
attribute [local irreducible] sT2
set_option maxRecDepth 20000 in
theorem sum_w (A : Option Addr) (n c : Nat) (l : List Itm) (w : World) (hx : ItsAt w A n l) : Calls Tryz.prog 27 #[.slice A n c] w fun e w' => e = .returned (.tuple #[.int .i64 (sumR l).1, .int .i64 (sumR l).2]) ∧ Bel w w' := by
  have hl := hx.1
  have hn := hx.2.1
  refine H_enter Tryz.func27 rfl Tryz.ntmps27 rfl (H_seq (R0 (xv (asI rfl) (xv (asI rfl) (XN (thenJ_normal (H_seq (H_seq (R0 ?_)))))))))
  refine xv (mvS rfl) (xv (e_len Tryz.underlying42 (q0 rfl)) (xv (e_gt (q0 rfl) (q0 rfl)) (XN (thenJ_normal (H_cond rfl (fun h1 => ?_) (fun h1 => ?_))))))
  · have h1' : 16 < l.length := by
      have h : (16 : Int) < (n : Int) := of_decide_eq_true h1
      omega
    rw [show sumR l = (0, 8) by unfold sumR; rw [if_pos h1']]
    refine H_seq (R0 (xv (asI rfl) (xv (asI rfl) (XN (thenJ_normal (H_ret (thenJ_ret ?_)))))))
    exact ret2 (v := .int _ _) (x := .int _ _) rfl rfl rfl rfl fun w' hw => ⟨rfl, hw.1⟩
  · have h1' : ¬ 16 < l.length := by
      have h : ¬ (16 : Int) < (n : Int) := of_decide_eq_false h1
      omega
    refine H_skip (thenJ_normal (H_seq (R0 (xv (asI rfl) (XN (thenJ_normal (H_seq (H_seq (R0 ?_)))))))))
    refine xv (mvS rfl) (xv (e_len Tryz.underlying42 (q0 rfl)) (xv (mvI rfl) (XN (thenJ_normal (H_block (H_loop [2, 3, 4, 6, 12, 13, 14, 15, 16, 17, 18, 19, 20, 21, 22, 23, 24, 25, 26, 27, 28] (fun k : Nat => [(12, .int .i64 k), (4, .int .i64 (sT2 l k))]) (fun _ => []) (fun k => (k ≤ n ∧ ∀ x ∈ l.take k, amBad x = false) ∧ -1000000000000 * (k : Int) ≤ sT2 l k ∧ sT2 l k ≤ 1000000000000 * (k : Int)) (fun k => n - k) 0 ⟨rfl, by unfold sT2; rfl, trivial⟩ (fun w hw => hw) rfl ⟨⟨Nat.zero_le _, fun x hx => by simp at hx⟩, by unfold sT2; simp⟩ ?_))))))
    rintro k g ⟨⟨hk, hgood⟩, hbd⟩
    refine H_seq (R0 (xv (e_lt (q0 rfl) (q0 rfl)) (XN (thenJ_normal (H_seq (H_cond rfl (fun hlt => ?_) (fun hlt => ?_)))))))
    · have hlt' : k < n := by simpa using hlt
      obtain ⟨b, off, x, rfl, hbl, hxk, hrx⟩ := hx.at_ hlt'
      have hs := sT2_succ hxk
      refine H_skip (thenJ_normal (H_seq (H_block (H_seq (R0 (xv (e_idx _ Tryz.underlying42 Tryz.sizeOf69 (q0 rfl) (q0 rfl) (fun _ => ⟨rfl, by omega⟩)) (xv (eS Tryz.isAgg69 Tryz.sizeOf69 (q0 rfl)) ?_)))))))
      refine X_alloc Tryz.zeroValue69 rfl fun b6 => (X_st (v := .agg _) rfl rfl Tryz.sizeOf69 ?_)
      refine XN (thenJ_normal (H_seq (H_seq (R0 (xv (e_fld Tryz.underlying69 rfl Tryz.sizeOf3 rfl (q0 rfl)) (xv (eL Tryz.isAgg3 (q0 rfl)) ?_))))))
      refine xv (e_lt (q0 rfl) (q0 rfl)) (xv (mvB rfl) (xf (e_fld Tryz.underlying69 rfl Tryz.sizeOf3 rfl (q0 rfl)) rfl rfl (xf (eL Tryz.isAgg3 (q1 rfl)) rfl rfl ?_)))
      refine xf (e_gt (q1 rfl) (q0 rfl)) rfl rfl (xv (e_or (q0 rfl) rfl (fun h => by first | rfl | (rw [h]; rfl))) ?_)
      refine XN (thenJ_normal (H_cond rfl (fun h2 => ?_) (fun h2 => ?_)))
      · have h2' : amBad x = true := h2
        rw [sumR_bad h1' hxk h2']
        refine H_seq (R0 (xv (asI rfl) (xv (asI rfl) (XN (thenJ_normal (H_ret (thenJ_ret (blockJ_ret (thenJ_ret ?_)))))))))
        refine loopJ_ret (blockJ_ret (thenJ_ret ?_))
        exact ret2 (v := .int _ _) (x := .int _ _) rfl rfl rfl rfl fun w' hw => ⟨rfl, hw.1⟩
      · have h2' : amBad x = false := h2
        have h2b : -1000000000000 ≤ x.amount ∧ x.amount ≤ 1000000000000 := by unfold amBad at h2'; simp at h2'; omega
        refine H_skip (thenJ_normal (R0 (xv (mvI rfl) (xv (e_fld Tryz.underlying69 rfl Tryz.sizeOf3 rfl (q0 rfl)) (xv (eL Tryz.isAgg3 (q0 rfl)) ?_)))))
        refine xv (e_add (r := sT2 l (k + 1)) (q0 rfl) (q0 rfl) (fun _ => ⟨by rw [hs], by omega, by omega⟩)) (xv (asI rfl) (XN (blockJ_normal (thenJ_normal (R0 (xv (e_add (q0 rfl) (q0 rfl) (fun _ => ⟨rfl, by omega, by omega⟩)) (xv (mvI rfl) (XN ?_))))))))
        exact loopJ_normal (k + 1) agr ⟨rfl, rfl, trivial⟩ (fun w hw => hw.tail) rfl ⟨⟨by omega, fun y hy => by
          rw [snocT _ _ _ hxk] at hy
          rcases List.mem_append.1 hy with hy | hy
          · exact hgood y hy
          · simp at hy; subst hy; exact h2'⟩, by omega⟩ (by show n - (k + 1) < n - k; omega)
    · have hend : k = n := by simp at hlt; omega
      rw [hend] at hgood
      rw [sumR_good h1' hl hgood, hend]
      refine H_exit (thenJ_exit (loopJ_exit (blockJ_hit (thenJ_normal (H_seq (R0 (xv (mvI rfl) (xv (asI rfl) (xv (asI rfl) ?_)))))))))
      refine XN (thenJ_normal (H_ret ?_))
      exact ret2 (v := .int _ _) (x := .int _ _) rfl rfl rfl rfl fun w' hw => ⟨rfl, hw.1⟩
set_option maxRecDepth 20000 in
theorem rsum_w (A : Option Addr) (n c : Nat) (l : List Itm) (w : World) (hx : ItsAt w A n l) : Calls Tryz.prog 28 #[.slice A n c] w fun e w' => e = .returned (.tuple #[.int .i64 (sumR l).1, .int .i64 (sumR l).2]) ∧ Bel w w' := by
  have hl := hx.1
  have hn := hx.2.1
  refine H_enter Tryz.func28 rfl Tryz.ntmps28 rfl (H_seq (R0 (xv (asI rfl) (xv (asI rfl) (XN (thenJ_normal (H_seq (H_seq (R0 ?_)))))))))
  refine xv (mvS rfl) (xv (e_len Tryz.underlying42 (q0 rfl)) (xv (e_gt (q0 rfl) (q0 rfl)) (XN (thenJ_normal (H_cond rfl (fun h1 => ?_) (fun h1 => ?_))))))
  · have h1' : 16 < l.length := by
      have h : (16 : Int) < (n : Int) := of_decide_eq_true h1
      omega
    rw [show sumR l = (0, 8) by unfold sumR; rw [if_pos h1']]
    refine H_seq (R0 (xv (asI rfl) (xv (asI rfl) (XN (thenJ_normal (H_ret (thenJ_ret ?_)))))))
    exact ret2 (v := .int _ _) (x := .int _ _) rfl rfl rfl rfl fun w' hw => ⟨rfl, hw.1⟩
  · have h1' : ¬ 16 < l.length := by
      have h : ¬ (16 : Int) < (n : Int) := of_decide_eq_false h1
      omega
    refine H_skip (thenJ_normal (H_seq (R0 (xv (asI rfl) (XN (thenJ_normal (H_seq (H_seq (R0 ?_)))))))))
    refine xv (asI rfl) (XN (thenJ_normal (H_block (H_loop [2, 3, 4, 5, 9, 10, 11, 12, 13, 14, 15, 16, 17, 18, 19, 20, 21, 22, 23, 24, 25, 26, 27, 28, 29, 30, 31, 32, 33, 34, 35] (fun k : Nat => [(5, .int .i64 k), (4, .int .i64 (sT2 l k))]) (fun _ => []) (fun k => (k ≤ n ∧ ∀ x ∈ l.take k, amBad x = false) ∧ -1000000000000 * (k : Int) ≤ sT2 l k ∧ sT2 l k ≤ 1000000000000 * (k : Int)) (fun k => n - k) 0 ⟨rfl, by unfold sT2; rfl, trivial⟩ (fun w hw => hw) rfl ⟨⟨Nat.zero_le _, fun x hx => by simp at hx⟩, by unfold sT2; simp⟩ ?_))))
    rintro k g ⟨⟨hk, hgood⟩, hbd⟩
    refine H_seq (H_seq (R0 (xv (mvI rfl) (xv (mvS rfl) (xv (e_len Tryz.underlying42 (q0 rfl)) (xv (e_lt (q0 rfl) (q0 rfl)) (XN (thenJ_normal (H_cond rfl (fun hlt => ?_) (fun hlt => ?_))))))))))
    · have hlt' : k < n := by simpa using hlt
      obtain ⟨b, off, x, rfl, hbl, hxk, hrx⟩ := hx.at_ hlt'
      have hs := sT2_succ hxk
      refine H_skip (thenJ_normal (H_seq (H_block (H_seq (H_seq (R0 (xv (mvS rfl) (xv (mvI rfl) (xv (e_idx _ Tryz.underlying42 Tryz.sizeOf69 (q0 rfl) (q0 rfl) (fun _ => ⟨rfl, by omega⟩)) ?_)))))))))
      refine xv (e_fld Tryz.underlying69 rfl Tryz.sizeOf3 rfl (q0 rfl)) (xv (e_ld (v := .int .i64 x.amount) Tryz.isAgg3 (q0 rfl) (by exact rc (j := 2) hrx hbl rfl)) ?_)
      refine xv (e_lt (q0 rfl) (q0 rfl)) (xv (mvB rfl) (xf (mvS rfl) rfl rfl (xf (mvI rfl) rfl rfl (xf (e_idx k Tryz.underlying42 Tryz.sizeOf69 (q1 rfl) (q1 rfl) (fun _ => ⟨rfl, hlt'⟩)) rfl rfl (xf (e_fld Tryz.underlying69 rfl Tryz.sizeOf3 rfl (q1 rfl)) rfl rfl (xf (e_ld (v := .int .i64 x.amount) Tryz.isAgg3 (q1 rfl) (by exact rc (j := 2) hrx hbl rfl)) rfl rfl ?_))))))
      refine xf (e_gt (q1 rfl) (q0 rfl)) rfl rfl (xv (e_or (q0 rfl) rfl (fun h => by first | rfl | (rw [h]; rfl))) ?_)
      refine XN (thenJ_normal (H_cond rfl (fun h2 => ?_) (fun h2 => ?_)))
      · have h2' : amBad x = true := h2
        rw [sumR_bad h1' hxk h2']
        refine H_seq (R0 (xv (asI rfl) (xv (asI rfl) (XN (thenJ_normal (H_ret (thenJ_ret (blockJ_ret (thenJ_ret ?_)))))))))
        refine loopJ_ret (blockJ_ret (thenJ_ret ?_))
        exact ret2 (v := .int _ _) (x := .int _ _) rfl rfl rfl rfl fun w' hw => ⟨rfl, hw.1⟩
      · have h2' : amBad x = false := h2
        have h2b : -1000000000000 ≤ x.amount ∧ x.amount ≤ 1000000000000 := by unfold amBad at h2'; simp at h2'; omega
        refine H_skip (thenJ_normal (R0 (xv (mvI rfl) (xv (mvS rfl) (xv (mvI rfl) (xv (e_idx _ Tryz.underlying42 Tryz.sizeOf69 (q0 rfl) (q0 rfl) (fun _ => ⟨rfl, by omega⟩)) (xv (e_fld Tryz.underlying69 rfl Tryz.sizeOf3 rfl (q0 rfl)) (xv (e_ld (v := .int .i64 x.amount) Tryz.isAgg3 (q0 rfl) (by exact rc (j := 2) hrx hbl rfl)) ?_))))))))
        refine xv (e_add (r := sT2 l (k + 1)) (q0 rfl) (q0 rfl) (fun _ => ⟨by rw [hs], by omega, by omega⟩)) (xv (asI rfl) (XN (blockJ_normal (thenJ_normal (R0 (xv (mvI rfl) (xv (e_add (q0 rfl) (q0 rfl) (fun _ => ⟨rfl, by omega, by omega⟩)) (xv (asI rfl) (XN ?_)))))))))
        exact loopJ_normal (k + 1) agr ⟨rfl, rfl, trivial⟩ (fun w hw => hw) rfl ⟨⟨by omega, fun y hy => by
          rw [snocT _ _ _ hxk] at hy
          rcases List.mem_append.1 hy with hy | hy
          · exact hgood y hy
          · simp at hy; subst hy; exact h2'⟩, by omega⟩ (by show n - (k + 1) < n - k; omega)
    · have hend : k = n := by simp at hlt; omega
      rw [hend] at hgood
      rw [sumR_good h1' hl hgood, hend]
      refine H_exit (thenJ_exit (loopJ_exit (blockJ_hit (thenJ_normal (H_seq (R0 (xv (mvI rfl) (xv (asI rfl) (xv (asI rfl) ?_)))))))))
      refine XN (thenJ_normal (H_ret ?_))
      exact ret2 (v := .int _ _) (x := .int _ _) rfl rfl rfl rfl fun w' hw => ⟨rfl, hw.1⟩

/-! equal fares -/
theorem eq69 (x y : Itm) (w : World) : (Op.equal 69 (.agg x.cells.toArray) (.agg y.cells.toArray)).run Tryz.prog w = .ok (decide (x = y)) w := by
  have h := run_equal_ints w [x.kind, x.ref, x.amount] [y.kind, y.ref, y.amount] rfl Tryz.underlying69 (by kernel_rfl) ⟨by decide, rfl, Tryz.isAgg3, ⟨_, Tryz.underlying3⟩, by decide, rfl, Tryz.isAgg3, ⟨_, Tryz.underlying3⟩, by decide, rfl, Tryz.isAgg3, ⟨_, Tryz.underlying3⟩, trivial⟩ rfl
  have he : ([x.kind, x.ref, x.amount] == [y.kind, y.ref, y.amount]) = decide (x = y) := by
    obtain ⟨a, b, c⟩ := x
    obtain ⟨d, e, f⟩ := y
    rw [Bool.eq_iff_iff]
    simp
  rw [he] at h
  exact h
theorem bil_ext {x y : Bil} (h1 : x.ride = y.ride) (h2 : x.rider = y.rider) (h3 : x.items = y.items) (h4 : x.total = y.total) : x = y := by
  cases x; cases y
  simp only at h1 h2 h3 h4
  rw [h1, h2, h3, h4]
set_option maxHeartbeats 1000000 in
set_option maxRecDepth 20000 in
theorem rsame1_w (x y : Bil) (A B : Option Addr) (c d : Nat) (w : World) (hx : ItsAt w A x.items.length x.items) (hy : ItsAt w B y.items.length y.items) : Calls Tryz.prog 20 #[.agg (x.cells A c).toArray, .agg (y.cells B d).toArray] w fun e w' => e = .returned (.bool (decide (x = y))) ∧ Bel w w' := by
  have hn := hx.2.1
  refine H_enter Tryz.func20 rfl Tryz.ntmps20 rfl (H_seq (R0 (X_box (v := .agg _) rfl rfl fun b2 => (X_box (v := .agg _) rfl rfl fun b3 => (xv (asB rfl) (XN (thenJ_normal (H_seq (H_seq ?_)))))))))
  refine R0 (xv (e_fld Tryz.underlying44 rfl Tryz.sizeOf3 rfl (q0 rfl)) (xv (eL Tryz.isAgg3 (q0 rfl)) ?_))
  refine xv (e_fld Tryz.underlying44 rfl Tryz.sizeOf3 rfl (q0 rfl)) (xv (eL Tryz.isAgg3 (q0 rfl)) ?_)
  refine xv (e_ne (q0 rfl) (q0 rfl)) (xv (mvB rfl) (xf (e_fld Tryz.underlying44 rfl Tryz.sizeOf3 rfl (q0 rfl)) rfl rfl (xf (eL Tryz.isAgg3 (q1 rfl)) rfl rfl ?_)))
  refine xf (e_fld Tryz.underlying44 rfl Tryz.sizeOf3 rfl (q0 rfl)) rfl rfl (xf (eL Tryz.isAgg3 (q1 rfl)) rfl rfl ?_)
  refine xf (e_ne (q1 rfl) (q1 rfl)) rfl rfl (xv (e_or (q0 rfl) rfl (fun h => by first | rfl | (rw [h]; rfl))) ?_)
  refine xv (mvB rfl) (xf (e_fld Tryz.underlying44 rfl Tryz.sizeOf3 rfl (q0 rfl)) rfl rfl (xf (eL Tryz.isAgg3 (q1 rfl)) rfl rfl ?_))
  refine xf (e_fld Tryz.underlying44 rfl Tryz.sizeOf3 rfl (q0 rfl)) rfl rfl (xf (eL Tryz.isAgg3 (q1 rfl)) rfl rfl ?_)
  refine xf (e_ne (q1 rfl) (q1 rfl)) rfl rfl (xv (e_or (q0 rfl) rfl (fun h => by first | rfl | (rw [h]; rfl))) ?_)
  refine xv (mvB rfl) (xf (e_fld Tryz.underlying44 rfl Tryz.sizeOf42 rfl (q0 rfl)) rfl rfl (xf (eL Tryz.isAgg42 (q1 rfl)) rfl rfl ?_))
  refine xf (e_len Tryz.underlying42 (q1 rfl)) rfl rfl (xf (e_fld Tryz.underlying44 rfl Tryz.sizeOf42 rfl (q0 rfl)) rfl rfl (xf (eL Tryz.isAgg42 (q1 rfl)) rfl rfl ?_))
  refine xf (e_len Tryz.underlying42 (q1 rfl)) rfl rfl (xf (e_ne (q1 rfl) (q1 rfl)) rfl rfl (xv (e_or (q0 rfl) rfl (fun h => by first | rfl | (rw [h]; rfl))) ?_))
  refine XN (thenJ_normal (H_cond rfl (fun h1 => ?_) (fun h1 => ?_)))
  · have hne : ¬ x = y := fun h => by
      subst h
      simp at h1
    rw [show decide (x = y) = false by simpa using hne]
    refine H_seq (R0 (xv (asB rfl) (XN (thenJ_normal (H_ret (thenJ_ret ?_))))))
    exact ret1 (v := .bool _) rfl rfl rfl fun w' hw => ⟨rfl, hw.1⟩
  · have hall : x.ride = y.ride ∧ x.rider = y.rider ∧ x.total = y.total ∧ x.items.length = y.items.length := by
      simp at h1
      omega
    obtain ⟨e1, e2, e3, e4⟩ := hall
    refine H_skip (thenJ_normal (H_seq (H_seq (R0 (xv (asI rfl) (XN (thenJ_normal (H_block (H_loop [4, 5, 34, 35, 36, 37, 38, 39, 40, 41, 42, 43, 44, 45, 46, 47, 48, 49, 50, 51] (fun k : Nat => [(5, .int .i64 k)]) (fun _ => [box b3 44 (y.cells B d), box b2 44 (x.cells A c)]) (fun k => k ≤ x.items.length ∧ x.items.take k = y.items.take k) (fun k => x.items.length - k) 0 ⟨rfl, trivial⟩ (fun w hw => hw) rfl ⟨Nat.zero_le _, rfl⟩ ?_)))))))))
    rintro k g ⟨hk, heq⟩
    refine H_seq (H_seq (R0 (xv (mvI rfl) (xv (e_fld Tryz.underlying44 rfl Tryz.sizeOf42 rfl (q0 rfl)) (xv (eL Tryz.isAgg42 (q0 rfl)) ?_)))))
    refine xv (e_len Tryz.underlying42 (q0 rfl)) (xv (e_lt (q0 rfl) (q0 rfl)) (XN (thenJ_normal (H_cond rfl (fun hlt => ?_) (fun hlt => ?_)))))
    · have hlt' : k < x.items.length := by simpa using hlt
      obtain ⟨b, off, u, hA, hbl, huk, hru⟩ := hx.at_ hlt'
      obtain ⟨b', off', v, hB, hbl', hvk, hrv⟩ := hy.at_ (show k < y.items.length by omega)
      subst hA
      subst hB
      refine H_skip (thenJ_normal (H_seq (H_block (H_seq (R1 rfl (by decide +kernel) (xv (e_fld Tryz.underlying44 rfl Tryz.sizeOf42 rfl (q0 rfl)) (xv (eL Tryz.isAgg42 (q0 rfl)) ?_)))))))
      refine xv (mvI rfl) (xv (e_idx k Tryz.underlying42 Tryz.sizeOf69 (q0 rfl) (q0 rfl) (fun _ => ⟨rfl, hlt'⟩)) (xv (e_lds (vs := u.cells) Tryz.isAgg69 Tryz.sizeOf69 (q0 rfl) (rcs hru hbl) rfl) (xv (e_fld Tryz.underlying44 rfl Tryz.sizeOf42 rfl (q0 rfl)) (xv (eL Tryz.isAgg42 (q0 rfl)) ?_))))
      refine xv (mvI rfl) (xv (e_idx k Tryz.underlying42 Tryz.sizeOf69 (q0 rfl) (q0 rfl) (fun _ => ⟨rfl, by omega⟩)) (xv (e_lds (vs := v.cells) Tryz.isAgg69 Tryz.sizeOf69 (q0 rfl) (rcs hrv hbl') rfl) (xv (e_neS (fun w => eq69 _ _ w) (by kernel_rfl) (q0 rfl) (q0 rfl)) (XN (thenJ_normal (H_cond rfl (fun h2 => ?_) (fun h2 => ?_)))))))
      · have h2' : ¬ u = v := by simpa using h2
        have hne : ¬ x = y := fun h => by
          subst h
          rw [huk] at hvk
          cases hvk
          exact h2' rfl
        rw [show decide (x = y) = false by simpa using hne]
        refine H_seq (R0 (xv (asB rfl) (XN (thenJ_normal (H_ret (blockJ_ret (thenJ_ret (loopJ_ret (blockJ_ret ?_)))))))))
        refine thenJ_ret ?_
        exact ret1 (v := .bool _) rfl rfl rfl fun w' hw => ⟨rfl, hw.1⟩
      · have h2' : u = v := by simpa using h2
        refine H_skip (blockJ_normal (thenJ_normal (R0 (xv (mvI rfl) (xv (e_add (q0 rfl) (q0 rfl) (fun _ => ⟨rfl, by omega, by omega⟩)) (xv (asI rfl) (XN ?_)))))))
        exact loopJ_normal (k + 1) agr ⟨rfl, trivial⟩ (fun w hw => hw) rfl ⟨by omega, by rw [snocT _ _ _ huk, snocT _ _ _ hvk, heq, h2']⟩ (by show x.items.length - (k + 1) < x.items.length - k; omega)
    · have hend : k = x.items.length := by simp at hlt; omega
      rw [hend, List.take_length, e4, List.take_length] at heq
      rw [show decide (x = y) = true by simpa using bil_ext e1 e2 heq e3]
      refine H_exit (thenJ_exit (loopJ_exit (blockJ_hit (thenJ_normal (H_seq (R0 (xv (asB rfl) (XN (thenJ_normal ?_)))))))))
      refine H_ret ?_
      exact ret1 (v := .bool _) rfl rfl rfl fun w' hw => ⟨rfl, hw.1⟩
/-- fares as the call's own memory has them -/
theorem its_of {w0 w : World} {L : List E.Item} {xs : List FX} (hw : Mem w0 L w) {k : Nat} (hk : L[k]? = some (bag (xs.flatMap faParts))) {x : FX} (hx : x ∈ xs) (hl : x.b.items.length ≤ 100000) : ItsAt w x.A x.b.items.length x.b.items := by
  have h1 := (hw.front hk).unbag
  have hm : itRow x.A x.c x.b.items ∈ xs.flatMap faParts ++ L.eraseIdx k := List.mem_append.2 (.inl (List.mem_flatMap.2 ⟨x, hx, by simp [faParts]⟩))
  obtain ⟨i, hi⟩ := List.mem_iff_getElem?.1 hm
  exact slAt_row h1 hi (fun _ => rfl) (by omega)
/-- fares read from memory -/
def FasAt (w : World) (A : Option Addr) (n : Nat) (xs : List FX) : Prop := SlAt w 4 FX.cells A n xs ∧ ∀ x ∈ xs, ItsAt w x.A x.b.items.length x.b.items
theorem FasAt.mem {w0 w : World} {L : List E.Item} {A : Option Addr} {n : Nat} {xs : List FX} (h : FasAt w0 A n xs) (hm : Mem w0 L w) : FasAt w A n xs := ⟨h.1.mem hm, fun x hx => (h.2 x hx).mem hm⟩
set_option maxRecDepth 20000 in
theorem rsame_w (A : Option Addr) (n c : Nat) (xs : List FX) (B : Option Addr) (m d : Nat) (ys : List FX) (w : World) (hx : FasAt w A n xs) (hy : FasAt w B m ys) : Calls Tryz.prog 17 #[.slice A n c, .slice B m d] w fun e w' => e = .returned (.bool (decide (xs.map (·.b) = ys.map (·.b)))) ∧ Bel w w' := by
  have hl := hx.1.1
  have hm := hy.1.1
  have hn := hx.1.2.1
  refine H_enter Tryz.func17 rfl Tryz.ntmps17 rfl (H_seq (R0 (xv (asB rfl) (XN (thenJ_normal (H_seq (H_seq (R0 (xv (mvS rfl) ?_)))))))))
  refine xv (e_len Tryz.underlying38 (q0 rfl)) (xv (mvS rfl) (xv (e_len Tryz.underlying38 (q0 rfl)) (xv (e_ne (q0 rfl) (q0 rfl)) (XN (thenJ_normal (H_cond rfl (fun h1 => ?_) (fun h1 => ?_)))))))
  · have hne : ¬ xs.map (·.b) = ys.map (·.b) := fun h => by
      have := congrArg List.length h
      rw [List.length_map, List.length_map] at this
      simp at h1
      omega
    rw [show decide (xs.map (·.b) = ys.map (·.b)) = false by simpa using hne]
    refine H_seq (R0 (xv (asB rfl) (XN (thenJ_normal (H_ret (thenJ_ret ?_))))))
    exact ret1 (v := .bool _) rfl rfl rfl fun w' hw => ⟨rfl, hw.1⟩
  · have h1' : n = m := by simp at h1; omega
    refine H_skip (thenJ_normal (H_seq (H_seq (R0 (xv (asI rfl) (XN (thenJ_normal (H_block (H_loop [4, 5, 11, 12, 13, 14, 15, 16, 17, 18, 19, 20, 21, 22, 23, 24, 25, 26] (fun k : Nat => [(5, .int .i64 k)]) (fun _ => []) (fun k => k ≤ n ∧ (xs.take k).map (·.b) = (ys.take k).map (·.b)) (fun k => n - k) 0 ⟨rfl, trivial⟩ (fun w hw => hw) rfl ⟨Nat.zero_le _, rfl⟩ ?_)))))))))
    rintro k g ⟨hk, heq⟩
    refine H_seq (H_seq (R0 (xv (mvI rfl) (xv (mvS rfl) (xv (e_len Tryz.underlying38 (q0 rfl)) (xv (e_lt (q0 rfl) (q0 rfl)) (XN (thenJ_normal (H_cond rfl (fun hlt => ?_) (fun hlt => ?_))))))))))
    · have hlt' : k < n := by simpa using hlt
      obtain ⟨b, off, u, hA, hbl, huk, hru⟩ := hx.1.at_ hlt'
      obtain ⟨b', off', v, hB, hbl', hvk, hrv⟩ := hy.1.at_ (show k < m by omega)
      have hui := hx.2 u (List.mem_of_getElem? huk)
      have hvi := hy.2 v (List.mem_of_getElem? hvk)
      subst hA
      subst hB
      refine H_skip (thenJ_normal (H_seq (H_block (H_seq (R1 rfl (by decide +kernel) (xv (mvS rfl) (xv (mvI rfl) (xv (e_idx k Tryz.underlying38 Tryz.sizeOf44 (q0 rfl) (q0 rfl) (fun _ => ⟨rfl, hlt'⟩)) (xv (e_lds (vs := u.cells) Tryz.isAgg44 Tryz.sizeOf44 (q0 rfl) (rcs hru hbl) rfl) ?_)))))))))
      refine xv (mvS rfl) (xv (mvI rfl) (xv (e_idx k Tryz.underlying38 Tryz.sizeOf44 (q0 rfl) (q0 rfl) (fun _ => ⟨rfl, by omega⟩)) (xv (e_lds (vs := v.cells) Tryz.isAgg44 Tryz.sizeOf44 (q0 rfl) (rcs hrv hbl') rfl) (xC (en Tryz.call20 (ha2 (q0 rfl) (q0 rfl))) (fun _ w hw => rsame1_w u.b v.b u.A v.A u.c v.c w (hui.mem hw) (hvi.mem hw)) rfl rfl (xv (e_not (q0 rfl)) (XN (thenJ_normal (H_cond rfl (fun h2 => ?_) (fun h2 => ?_)))))))))
      · have h2' : ¬ u.b = v.b := by simpa using h2
        have hne : ¬ xs.map (·.b) = ys.map (·.b) := fun h => by
          have h3 : (xs.map (·.b))[k]? = some u.b := by simp [huk]
          rw [h] at h3
          simp [hvk] at h3
          exact h2' h3.symm
        rw [show decide (xs.map (·.b) = ys.map (·.b)) = false by simpa using hne]
        refine H_seq (R0 (xv (asB rfl) (XN (thenJ_normal (H_ret (blockJ_ret (thenJ_ret (loopJ_ret (blockJ_ret ?_)))))))))
        refine thenJ_ret ?_
        exact ret1 (v := .bool _) rfl rfl rfl fun w' hw => ⟨rfl, hw.1⟩
      · have h2' : u.b = v.b := by simpa using h2
        refine H_skip (blockJ_normal (thenJ_normal (R0 (xv (mvI rfl) (xv (e_add (q0 rfl) (q0 rfl) (fun _ => ⟨rfl, by omega, by omega⟩)) (xv (asI rfl) (XN ?_)))))))
        exact loopJ_normal (k + 1) agr ⟨rfl, trivial⟩ (fun w hw => hw) rfl ⟨by omega, by rw [snocT _ _ _ huk, snocT _ _ _ hvk, List.map_append, List.map_append, heq]; simp [h2']⟩ (by show n - (k + 1) < n - k; omega)
    · have hend : k = n := by simp at hlt; omega
      rw [hend, ← hl, List.take_length, hl, h1', ← hm, List.take_length] at heq
      rw [show decide (xs.map (·.b) = ys.map (·.b)) = true by simpa using heq]
      refine H_exit (thenJ_exit (loopJ_exit (blockJ_hit (thenJ_normal (H_seq (R0 (xv (asB rfl) (XN (thenJ_normal ?_)))))))))
      refine H_ret ?_
      exact ret1 (v := .bool _) rfl rfl rfl fun w' hw => ⟨rfl, hw.1⟩

end Go.Proofs.Far

/-
  Plain functions: the chapter's examples.
-/
namespace Go.Proofs.Far
open Go.Proofs.Cus Go.Proofs.Rid

def exF : Fl := ⟨2, 2, 1, [4], [1]⟩
def exT : Tf := ⟨0, 100, 60, 0, 20, 5⟩
def exP : Pr := ⟨[exT], [], [0, 300], [-50], 0, [], 0⟩
def exP9 : Pr := ⟨[exT], [⟨9, 1, 0, 1, 1, 120⟩], [0, 300], [-50], 0, [], 0⟩
def exP5 : Pr := ⟨[exT], [], [0, 300], [-50], 500, [1000, 3000], 0⟩
def exR (id from_ wh pl : Int) : Rd := ⟨id, 1, ⟨from_, from_⟩, ⟨from_ + 590, from_ + 590⟩, false, [⟨0, ⟨from_, from_⟩, ⟨from_ + 590, from_ + 590⟩⟩], [], 2, 0, wh, pl⟩
def exV : Pen.V := ⟨2, 1, 6000, 2⟩
theorem lenP_nil : lenP [] = 0 := by
  unfold lenP unionP byLo
  simp [normP, sumW]
theorem union_nil : unionP [] = [] := by
  unfold unionP byLo
  simp [normP]
theorem ex_ridS (id from_ wh pl : Int) : ridS (exR id from_ wh pl) = 590 := by
  unfold ridS ridW
  have h1 : (exR id from_ wh pl).pauses.map possZ = [] := rfl
  rw [h1, union_nil]
  have h2 : sureW (exR id from_ wh pl) = ⟨from_, from_ + 590⟩ := by
    unfold sureW exR
    simp only
    rw [show max from_ (from_ + 590) = from_ + 590 by omega]
  rw [h2]
  have h3 : minusP ⟨from_, from_ + 590⟩ [] = [⟨from_, from_ + 590⟩] := by
    unfold minusP one
    rw [if_neg (by simp only; omega)]
    simp only [List.flatMap_cons, List.flatMap_nil, List.append_nil]
    show mend ⟨from_, from_ + 590⟩ ([], from_) = _
    exact if_pos (show from_ < from_ + 590 by omega)
  rw [h3]
  unfold lenP
  rw [union_one]
  unfold one
  rw [if_neg (by simp only; omega)]
  unfold sumW
  simp
  omega
theorem ex_pauS (id from_ wh pl : Int) : pauS (exR id from_ wh pl) = 0 := by
  unfold pauS pauW
  have h1 : (exR id from_ wh pl).pauses.map sureZ = [] := rfl
  rw [h1, union_nil]
  have h3 : ∀ w, commonP w [] = [] := fun w => by
    unfold commonP
    simp
  rw [h3, lenP_nil]
theorem first_eq (p : Pr) (r : Rd) (u s q : Int) (h1 : ridS r = s) (h2 : pauS r = q) : firstP p r u =
    (let t := verT p r
     let b3 := addB (addB (addB ⟨r.id, r.rider, [], 0⟩ 1 (verO p r) t.unlock) 2 (verO p r) (ridP t s)) 3 (verO p r) (pauP t q)
     let b4 := addB b3 4 (placeP p r).2 (max (placeP p r).1 (-b3.total))
     let part := ridP t (min s (p.passes.getD u.toNat default).secs)
     let b5 := if 0 ≤ u then addB b4 5 u (-(min b4.total (t.unlock + part))) else b4
     if 1000000000000 < ridP t s then none else if 1000000000000 < pauP t q then none else if 0 ≤ u ∧ 1000000000000 < part then none else if 1000000000000 < b5.total then none else some b5) := by
  subst h1 h2
  rfl
def exB1 : Bil := ⟨1, 1, [⟨1, 0, 100⟩, ⟨2, 0, 200⟩], 300⟩
def exB2 : Bil := ⟨2, 1, [⟨1, 0, 100⟩, ⟨2, 0, 200⟩], 300⟩
def exDock : Bil := ⟨1, 1, [⟨1, 0, 100⟩, ⟨2, 0, 200⟩, ⟨4, 64, -50⟩], 250⟩
def exPass : Bil := ⟨1, 1, [⟨1, 0, 100⟩, ⟨2, 0, 200⟩, ⟨5, 0, -140⟩], 160⟩
def exLast : Bil := ⟨2, 1, [⟨1, 0, 100⟩, ⟨2, 0, 200⟩, ⟨6, 0, -100⟩, ⟨7, 1, 1000⟩], 1200⟩
theorem exf1 : firstP exP (exR 1 1010 2 0) (-1) = some exB1 := by rw [first_eq _ _ _ _ _ (ex_ridS ..) (ex_pauS ..)]; decide
theorem exf1b : firstP exP (exR 1 1010 1 3) (-1) = some exDock := by rw [first_eq _ _ _ _ _ (ex_ridS ..) (ex_pauS ..)]; decide
theorem exf9 : firstP exP9 (exR 1 1010 2 0) 0 = some exPass := by rw [first_eq _ _ _ _ _ (ex_ridS ..) (ex_pauS ..)]; decide
theorem exf9b : firstP exP9 (exR 2 5000 2 0) (-1) = some exB2 := by rw [first_eq _ _ _ _ _ (ex_ridS ..) (ex_pauS ..)]; decide
theorem exf5 : firstP exP5 (exR 1 1010 2 0) (-1) = some exB1 := by rw [first_eq _ _ _ _ _ (ex_ridS ..) (ex_pauS ..)]; decide
theorem exf5b : firstP exP5 (exR 2 5000 2 0) (-1) = some exB2 := by rw [first_eq _ _ _ _ _ (ex_ridS ..) (ex_pauS ..)]; decide
/-- rides that are few and in order are the ones that count -/
theorem cnt_self {l : List Rd} (hg : Good l) (hc : l.filter (fun r => !r.open_) = l) (hs : l.Pairwise fun a b => rideLt b a = false) : cntS l = l := (cntS_unique hg (by rw [hc]) hs).symm
theorem good_of {l : List Rd} (h : rdsErr l = 0) : Good l := rdsErr_good h
theorem all_of {f : Fl} {p : Pr} {l : List Rd} {vs : List Pen.V} {B C : List Bil} (h1 : prErr f p = 0) (h2 : rdsErr l = 0) (h3 : Pen.vErr vs = 0) (hc : l.filter (fun r => !r.open_) = l) (hs : l.Pairwise fun a b => rideLt b a = false) (hB : fsAll p (l.zip (useOf p l)) = some B) (hC : fnAll p vs (B.zip (paidOf p l B)) = some C) (hn : (C.map (·.ride)).Nodup) (ho : C.Pairwise fun a b => a.ride ≤ b.ride) : allErr f p l vs = 0 ∧ allR f p l vs = C := by
  have hl := cnt_self (rdsErr_good h2) hc hs
  have hall : allP p l vs = some C := by
    unfold allP
    rw [hl, hB]
    simp only
    rw [hC]
    simp only
    rw [← byRide_unique (List.Perm.refl C) hn ho]
  constructor
  · unfold allErr
    rw [if_neg (by omega), if_neg (by omega), if_neg (by omega), if_neg (by rw [hall]; simp)]
  · unfold allR
    rw [if_neg (by omega), hall]; rfl
theorem fs_two {p : Pr} {r1 r2 : Rd} {u1 u2 : Int} {b1 b2 : Bil} (h1 : firstP p r1 u1 = some b1) (h2 : firstP p r2 u2 = some b2) : fsAll p [(r1, u1), (r2, u2)] = some [b1, b2] := by
  unfold fsAll
  simp only [List.foldl_cons, List.foldl_nil]
  unfold fsStep
  simp only [h1, h2, List.nil_append, List.cons_append]
theorem fs_one {p : Pr} {r1 : Rd} {u1 : Int} {b1 : Bil} (h1 : firstP p r1 u1 = some b1) : fsAll p [(r1, u1)] = some [b1] := by
  unfold fsAll
  simp only [List.foldl_cons, List.foldl_nil]
  unfold fsStep
  simp only [h1, List.nil_append]
theorem ex_a : allErr exF exP [exR 1 1010 2 0] [] = 0 ∧ allR exF exP [exR 1 1010 2 0] [] = [exB1] :=
  all_of (B := [exB1]) (by decide) (by decide) (by decide) (by decide) (by decide) (fs_one exf1) (by decide) (by decide) (by decide)
theorem ex_b : allErr exF exP [exR 1 1010 1 3] [] = 0 ∧ allR exF exP [exR 1 1010 1 3] [] = [exDock] :=
  all_of (B := [exDock]) (by decide) (by decide) (by decide) (by decide) (by decide) (fs_one exf1b) (by decide) (by decide) (by decide)
theorem ex_c : allErr exF exP9 [exR 1 1010 2 0, exR 2 5000 2 0] [] = 0 ∧ allR exF exP9 [exR 1 1010 2 0, exR 2 5000 2 0] [] = [exPass, exB2] :=
  all_of (B := [exPass, exB2]) (by decide) (by decide) (by decide) (by decide) (by decide) (fs_two exf9 exf9b) (by decide) (by decide) (by decide)
theorem ex_d : allErr exF exP5 [exR 1 1010 2 0, exR 2 5000 2 0] [exV] = 0 ∧ allR exF exP5 [exR 1 1010 2 0, exR 2 5000 2 0] [exV] = [exB1, exLast] :=
  all_of (B := [exB1, exB2]) (by decide) (by decide) (by decide) (by decide) (by decide) (fs_two exf5 exf5b) (by decide) (by decide) (by decide)
theorem ex_one_a : oneR exF exP [exR 1 1010 2 0] [] 1 = (exB1, 0) := by
  unfold oneR
  rw [if_neg (by rw [ex_a.1]; decide), ex_a.2]; rfl
theorem ex_one_b : oneR exF exP [exR 1 1010 1 3] [] 1 = (exDock, 0) := by
  unfold oneR
  rw [if_neg (by rw [ex_b.1]; decide), ex_b.2]; rfl

end Go.Proofs.Far

/-
  The walks: the chapter's examples.
-/
namespace Go.Proofs.Far
open Go Go.RowKit Go.Proofs.E Go.Proofs.Cus Go.Proofs.Rid

theorem fl30 {fs : Array Field} (h : Tryz.prog.underlying 30 = some (.struct fs) := by exact Tryz.underlying30) : FieldsLie Tryz.prog fs [(0, 5), (5, 7)] := by
  rw [Tryz.underlying30] at h
  cases h
  intro w
  kernel_rfl
theorem fl24 {fs : Array Field} (h : Tryz.prog.underlying 24 = some (.struct fs) := by exact Tryz.underlying24) : FieldsLie Tryz.prog fs [(0, 1), (1, 1), (2, 1), (3, 1), (4, 1)] := by
  rw [Tryz.underlying24] at h
  cases h
  intro w
  kernel_rfl
theorem fl134 {fs : Array Field} (h : Tryz.prog.underlying 134 = some (.struct fs) := by exact Tryz.underlying134) : FieldsLie Tryz.prog fs [(0, 1), (1, 2), (3, 2)] := by
  rw [Tryz.underlying134] at h
  cases h
  intro w
  kernel_rfl
theorem fl54 {fs : Array Field} (h : Tryz.prog.underlying 54 = some (.struct fs) := by exact Tryz.underlying54) : FieldsLie Tryz.prog fs [(0, 1), (1, 1), (2, 2), (4, 2), (6, 1), (7, 1), (8, 1), (9, 1), (10, 1), (11, 1), (12, 1)] := by
  rw [Tryz.underlying54] at h
  cases h
  intro w
  kernel_rfl
theorem fl50 {fs : Array Field} (h : Tryz.prog.underlying 50 = some (.struct fs) := by exact Tryz.underlying50) : FieldsLie Tryz.prog fs [(0, 1), (1, 1)] := by
  rw [Tryz.underlying50] at h
  cases h
  intro w
  kernel_rfl
/-- where the examples' city lies -/
structure ExA where
  d : Nat
  k : Nat
  t : Nat
  pl : Nat
  dk : Nat
def ExA.fa (e : ExA) : FA := ⟨some ⟨e.d, 0, none⟩, 1, 1, some ⟨e.k, 0, none⟩, 1, 1⟩
def ExA.pa (e : ExA) : PrA := ⟨⟨some ⟨e.t, 0, none⟩, 1, 1⟩, ⟨none, 0, 0⟩, ⟨some ⟨e.pl, 0, none⟩, 2, 2⟩, ⟨some ⟨e.dk, 0, none⟩, 1, 1⟩, ⟨none, 0, 0⟩⟩
def exItems (e : ExA) : List E.Item := [box e.dk 3 [.int .i64 (-50)], box e.pl 3 [.int .i64 0, .int .i64 300], box e.t 63 exT.cells, box e.k 3 [.int .i64 1], box e.d 3 [.int .i64 4]]
def ctCells (f : Fl) (fa : FA) (p : Pr) (a : PrA) : List Value := f.cells fa ++ p.cells a
set_option maxHeartbeats 1000000 in
set_option maxRecDepth 20000 in
theorem town_w (w : World) : Calls Tryz.prog 39 #[] w fun e w' => ∃ z : ExA, e = .returned (.agg (ctCells exF z.fa exP z.pa).toArray) ∧ Mem w (exItems z) w' := by
  refine H_enter Tryz.func39 rfl Tryz.ntmps39 rfl (H_seq (R0 (X_alloc Tryz.zeroValue30 rfl fun b0 => (XN (thenJ_normal (H_seq (R0 (X_slit [(.int .i64 0)] Tryz.underlying22 Tryz.sizeOf3 Tryz.zeroValue3 rfl (by kernel_rfl) (pt (v := .int _ _) rfl E.p0) rfl rfl fun b3 => (X_slit [(.int .i64 0)] Tryz.underlying22 Tryz.sizeOf3 Tryz.zeroValue3 rfl (by kernel_rfl) (pt (v := .int _ _) rfl E.p0) rfl rfl fun b4 => ?_)))))))))
  refine xv (e_build Tryz.underlying24 fl24 Tryz.zeroValue24 (pt (v := .int _ _) rfl (pt (v := .int _ _) rfl (pt (v := .int _ _) rfl (pt (v := .slice _ _ _) rfl (pt (v := .slice _ _ _) rfl E.p0))))) rfl) (X_alloc Tryz.zeroValue24 rfl fun b1 => (X_st (v := .agg _) rfl rfl Tryz.sizeOf24 ?_))
  refine XN (thenJ_normal (H_seq (R0 (xv (e_build Tryz.underlying63 fl63 Tryz.zeroValue63 (pt (v := .int _ _) rfl (pt (v := .int _ _) rfl (pt (v := .int _ _) rfl (pt (v := .int _ _) rfl E.p0)))) rfl) (X_slit [(.int .i64 0), (.int .i64 0), (.int .i64 0), (.int .i64 0), (.int .i64 0), (.int .i64 0)] Tryz.underlying25 Tryz.sizeOf63 Tryz.zeroValue63 rfl (by kernel_rfl) (pt (v := .agg _) rfl E.p0) rfl rfl fun b7 => (X_slit [(.int .i64 0), (.int .i64 0)] Tryz.underlying22 Tryz.sizeOf3 Tryz.zeroValue3 rfl (by kernel_rfl) (pt (v := .int _ _) rfl (pt (v := .int _ _) rfl E.p0)) rfl rfl fun b8 => (X_slit [(.int .i64 0)] Tryz.underlying22 Tryz.sizeOf3 Tryz.zeroValue3 rfl (by kernel_rfl) (pt (v := .int _ _) rfl E.p0) rfl rfl fun b9 => (xv (e_build Tryz.underlying28 fl28 Tryz.zeroValue28 (pt (v := .slice _ _ _) rfl (pt (v := .slice _ _ _) rfl (pt (v := .slice _ _ _) rfl E.p0))) rfl) (X_alloc Tryz.zeroValue28 rfl fun b2 => ?_)))))))))
  refine X_st (v := .agg _) rfl rfl Tryz.sizeOf28 ?_
  refine XN (thenJ_normal (H_seq (R0 (xv (eS Tryz.isAgg24 Tryz.sizeOf24 (q0 rfl)) ?_))))
  refine xv (eS Tryz.isAgg28 Tryz.sizeOf28 (q0 rfl)) ?_
  refine xv (e_build Tryz.underlying30 fl30 Tryz.zeroValue30 (pt (v := .agg _) rfl (pt (v := .agg _) rfl E.p0)) rfl) (X_st (v := .agg _) rfl rfl Tryz.sizeOf30 ?_)
  refine XN (thenJ_normal (H_ret ?_))
  exact ret_of rfl (resc1 7 rfl rfl Tryz.isAgg30 Tryz.sizeOf30 rfl rfl) fun w' hw => ⟨⟨b3, b4, b7, b8, b9⟩, rfl, hw.pick [1, 2, 3, 5, 6] (by decide)⟩
set_option maxRecDepth 20000 in
theorem ridden_w (id from_ wh pl : Int) (hf : 0 ≤ from_ ∧ from_ ≤ 1000000) (w : World) : Calls Tryz.prog 40 #[.int .i64 id, .int .i64 from_, .int .i64 wh, .int .i64 pl] w fun e w' => ∃ z : Nat, e = .returned (.agg (RX.cells ⟨exR id from_ wh pl, ⟨some ⟨z, 0, none⟩, 1, none, 0⟩⟩).toArray) ∧ Mem w [box z 134 (Lg.cells ⟨0, ⟨from_, from_⟩, ⟨from_ + 590, from_ + 590⟩⟩)] w' := by
  refine H_enter Tryz.func40 rfl Tryz.ntmps40 rfl (H_seq (R0 (X_alloc Tryz.zeroValue54 rfl fun b8 => (XN (thenJ_normal (H_seq (R0 (xv (mvI rfl) (xv (mvI rfl) ?_)))))))))
  refine xv (e_build Tryz.underlying50 fl50 Tryz.zeroValue50 (pt (v := .int _ _) rfl (pt (v := .int _ _) rfl E.p0)) rfl) (xv (mvI rfl) (xv (e_add (q0 rfl) (q0 rfl) (fun _ => ⟨rfl, by omega, by omega⟩)) (xv (mvI rfl) (xv (e_add (q0 rfl) (q0 rfl) (fun _ => ⟨rfl, by omega, by omega⟩)) (xv (e_build Tryz.underlying50 fl50 Tryz.zeroValue50 (pt (v := .int _ _) rfl (pt (v := .int _ _) rfl E.p0)) rfl) (X_alloc Tryz.zeroValue50 rfl fun b9 => (X_alloc Tryz.zeroValue50 rfl fun b10 => (X_st (v := .agg _) rfl rfl Tryz.sizeOf50 ?_))))))))
  refine X_st (v := .agg _) rfl rfl Tryz.sizeOf50 ?_
  refine XN (thenJ_normal (H_seq (R0 (xv (mvI rfl) (xv (eS Tryz.isAgg50 Tryz.sizeOf50 (q0 rfl)) ?_)))))
  refine xv (eS Tryz.isAgg50 Tryz.sizeOf50 (q0 rfl)) ?_
  refine xv (eS Tryz.isAgg50 Tryz.sizeOf50 (q0 rfl)) ?_
  refine xv (eS Tryz.isAgg50 Tryz.sizeOf50 (q0 rfl)) ?_
  refine xv (e_build Tryz.underlying134 fl134 Tryz.zeroValue134 (pt (v := .agg _) rfl (pt (v := .agg _) rfl E.p0)) rfl) (X_slit [(.int .i64 0), (.int .i64 0), (.int .i64 0), (.int .i64 0), (.int .i64 0)] Tryz.underlying51 Tryz.sizeOf134 Tryz.zeroValue134 rfl (by kernel_rfl) (pt (v := .agg _) rfl E.p0) rfl rfl fun b25 => (xv (mvI rfl) (xv (mvI rfl) (xv (e_build Tryz.underlying54 fl54 Tryz.zeroValue54 (pt (v := .int _ _) rfl (pt (v := .int _ _) rfl (pt (v := .agg _) rfl (pt (v := .agg _) rfl (pt (v := .slice _ _ _) rfl (pt (v := .int _ _) rfl (pt (v := .int _ _) rfl (pt (v := .int _ _) rfl E.p0)))))))) rfl) (X_st (v := .agg _) rfl rfl Tryz.sizeOf54 ?_)))))
  refine XN (thenJ_normal (H_ret ?_))
  exact ret_of rfl (resc1 3 rfl rfl Tryz.isAgg54 Tryz.sizeOf54 rfl rfl) fun w' hw => ⟨b25, rfl, hw.pick [0] (by decide)⟩

theorem slAt_nil {α : Type} (w : World) (k : Nat) (enc : α → List Value) : SlAt w k enc none 0 [] := ⟨rfl, Nat.zero_le _, fun h => absurd h (by decide)⟩
/-- two fares -/
theorem pair_of {w w' : World} {b1 b2 : Bil} {f : Fl} {p : Pr} {rs : List Rd} {vs : List Pen.V} {e : Ending} (hR : allR f p rs vs = [b1, b2]) (hE : allErr f p rs vs = 0) (h : ∃ z : { z : List FX × (Option Addr × Nat) // z.1.map (·.b) = allR f p rs vs }, e = .returned (.tuple #[.slice z.1.2.1 z.1.1.length z.1.2.2, .int .i64 (allErr f p rs vs)]) ∧ Mem w [faRow z.1.2.1 z.1.2.2 z.1.1, bag (z.1.1.flatMap faParts)] w') :
    ∃ z : (Option Addr × Nat) × (Option Addr × Nat) × (Option Addr × Nat), e = .returned (.tuple #[.slice z.1.1 2 z.1.2, .int .i64 0]) ∧ Mem w [faRow z.1.1 z.1.2 [⟨b1, z.2.1.1, z.2.1.2⟩, ⟨b2, z.2.2.1, z.2.2.2⟩], itRow z.2.1.1 z.2.1.2 b1.items, itRow z.2.2.1 z.2.2.2 b2.items] w' := by
  obtain ⟨⟨⟨fs, ⟨A, c⟩⟩, hfs⟩, he, hm⟩ := h
  simp only at hfs he hm
  rw [hR] at hfs
  obtain ⟨x1, x2, rfl, e1, e2⟩ : ∃ x1 x2 : FX, fs = [x1, x2] ∧ x1.b = b1 ∧ x2.b = b2 := by
    match fs, hfs with
    | [x1, x2], h => simp at h; exact ⟨x1, x2, rfl, h.1, h.2⟩
  subst e1 e2
  rw [hE] at he
  exact ⟨((A, c), (x1.A, x1.c), (x2.A, x2.c)), he, (hm.perm (List.Perm.swap ..)).unbag.perm (by exact (List.Perm.swap _ _ _).trans ((List.Perm.swap _ _ _).cons _) |>.trans (List.Perm.refl _))⟩

end Go.Proofs.Far

/-
  The walks: the chapter's examples hold.
-/
namespace Go.Proofs.Far
open Go Go.RowKit Go.Proofs.E Go.Proofs.Cus Go.Proofs.Rid

def lgE (from_ : Int) : Lg := ⟨0, ⟨from_, from_⟩, ⟨from_ + 590, from_ + 590⟩⟩
def exX (id from_ wh pl : Int) (b : Nat) : RX := ⟨exR id from_ wh pl, ⟨some ⟨b, 0, none⟩, 1, none, 0⟩⟩
/-- the city and the two rides, in memory -/
def baseK (z : ExA) (r2 l2 l1 ct : Nat) : List E.Item := [box r2 54 ([exX 1 1010 2 0 l1, exX 2 5000 2 0 l2].flatMap RX.cells), box l2 134 (lgE 5000).cells, box l1 134 (lgE 1010).cells, box ct 30 (ctCells exF z.fa exP z.pa)] ++ exItems z
section
variable {w0 w : World} {z : ExA} {r2 l2 l1 ct : Nat}
theorem base_fl (hw : Mem w0 (baseK z r2 l2 l1 ct) w) : FlAt w exF z.fa :=
  ⟨slAt_box (enc := encInt) (xs := [4]) hw (j := 8) rfl (fun _ => rfl) (by simp), slAt_box (enc := encInt) (xs := [1]) hw (j := 7) rfl (fun _ => rfl) (by simp)⟩
theorem base_pr (hw : Mem w0 (baseK z r2 l2 l1 ct) w) : PrAt w exP z.pa :=
  ⟨slAt_box (enc := Tf.cells) (xs := [exT]) hw (j := 6) rfl (fun _ => rfl) (by simp), slAt_nil w 6 Pas.cells, slAt_box (enc := encInt) (xs := [0, 300]) hw (j := 5) rfl (fun _ => rfl) (by simp), slAt_box (enc := encInt) (xs := [-50]) hw (j := 4) rfl (fun _ => rfl) (by simp), slAt_nil w 1 encInt⟩
theorem base_rd (hw : Mem w0 (baseK z r2 l2 l1 ct) w) : RdsAt w (some ⟨r2, 0, none⟩) 2 [exX 1 1010 2 0 l1, exX 2 5000 2 0 l2] :=
  ⟨slAt_box (enc := RX.cells) (xs := [exX 1 1010 2 0 l1, exX 2 5000 2 0 l2]) hw (j := 0) rfl (fun _ => rfl) (by simp), fun x hx => by
    simp at hx
    rcases hx with rfl | rfl
    · exact ⟨slAt_box (enc := Lg.cells) (xs := [lgE 1010]) hw (j := 2) rfl (fun _ => rfl) (by simp), slAt_nil w 4 Pz.cells⟩
    · exact ⟨slAt_box (enc := Lg.cells) (xs := [lgE 5000]) hw (j := 1) rfl (fun _ => rfl) (by simp), slAt_nil w 4 Pz.cells⟩⟩
theorem ex_short (l : List RX) (h : ∀ x ∈ l, ∃ id from_ wh pl b, x = exX id from_ wh pl b) : Short l := fun x hx => by
  obtain ⟨id, from_, wh, pl, b, rfl⟩ := h x hx
  exact ⟨by show 1 ≤ 100000; decide, by show 0 ≤ 100000; decide⟩
end
attribute [local irreducible] allR allErr oneR
theorem exA_w {w0 w : World} {z : ExA} {r2 l2 l1 ct : Nat} (hw : Mem w0 (baseK z r2 l2 l1 ct) w) : Calls Tryz.prog 18 #[.agg (exF.cells z.fa).toArray, .agg (exP.cells z.pa).toArray, .slice (some ⟨r2, 0, none⟩) 1 2, .slice none 0 0, .int .i64 1] w fun e w' => ∃ y : Option Addr × Nat, e = .returned (.tuple #[.agg (exB1.cells y.1 y.2).toArray, .int .i64 0]) ∧ Mem w [itRow y.1 y.2 exB1.items] w' := by
  have h := one_w exF z.fa exP z.pa (some ⟨r2, 0, none⟩) 1 2 [exX 1 1010 2 0 l1] none 0 0 [] 1 w (base_fl hw) (base_pr hw) ⟨(base_rd hw).1.take (by decide), fun x hx => (base_rd hw).2 x (by simp at hx; subst hx; simp)⟩ (ex_short _ fun x hx => by simp at hx; exact ⟨1, 1010, 2, 0, l1, hx⟩) (slAt_nil w 4 Pen.V.cells) (fun x hx => by simp at hx; subst hx; show (0 : Int) ≤ 9223372036854775807; decide)
  rw [show [exX 1 1010 2 0 l1].map (·.r) = [exR 1 1010 2 0] from rfl, ex_one_a] at h
  exact h
theorem exB_w {w0 w : World} {L : List E.Item} {z : ExA} {r2 l2 l1 ct l3 r3 : Nat} (hw : Mem w0 (box l3 134 (lgE 1010).cells :: box r3 54 ([exX 1 1010 1 3 l3].flatMap RX.cells) :: L ++ baseK z r2 l2 l1 ct) w) : Calls Tryz.prog 18 #[.agg (exF.cells z.fa).toArray, .agg (exP.cells z.pa).toArray, .slice (some ⟨r3, 0, none⟩) 1 1, .slice none 0 0, .int .i64 1] w fun e w' => ∃ y : Option Addr × Nat, e = .returned (.tuple #[.agg (exDock.cells y.1 y.2).toArray, .int .i64 0]) ∧ Mem w [itRow y.1 y.2 exDock.items] w' := by
  have hb : Mem w0 (baseK z r2 l2 l1 ct) w := hw.cutX
  have h := one_w exF z.fa exP z.pa (some ⟨r3, 0, none⟩) 1 1 [exX 1 1010 1 3 l3] none 0 0 [] 1 w (base_fl hb) (base_pr hb) ⟨slAt_box (enc := RX.cells) (xs := [exX 1 1010 1 3 l3]) hw (j := 1) rfl (fun _ => rfl) (by simp), fun x hx => by
    simp at hx
    subst hx
    exact ⟨slAt_box (enc := Lg.cells) (xs := [lgE 1010]) hw (j := 0) rfl (fun _ => rfl) (by simp), slAt_nil w 4 Pz.cells⟩⟩ (ex_short _ fun x hx => by simp at hx; exact ⟨1, 1010, 1, 3, l3, hx⟩) (slAt_nil w 4 Pen.V.cells) (fun x hx => by simp at hx; subst hx; show (3 : Int) ≤ 9223372036854775807; decide)
  rw [show [exX 1 1010 1 3 l3].map (·.r) = [exR 1 1010 1 3] from rfl, ex_one_b] at h
  exact h
def ExA.p9 (z : ExA) (q : Nat) : PrA := { z.pa with p := ⟨some ⟨q, 0, none⟩, 1, 1⟩ }
def ExA.p5 (z : ExA) (q : Nat) : PrA := { z.pa with f := ⟨some ⟨q, 0, none⟩, 2, 2⟩ }
def exPas : Pas := ⟨9, 1, 0, 1, 1, 120⟩
theorem exC_w {w0 w : World} {L : List E.Item} {z : ExA} {r2 l2 l1 ct q b7 : Nat} {cs : List Value} (hw : Mem w0 (box q 81 exPas.cells :: box b7 28 cs :: L ++ baseK z r2 l2 l1 ct) w) : Calls Tryz.prog 15 #[.agg (exF.cells z.fa).toArray, .agg (exP9.cells (z.p9 q)).toArray, .slice (some ⟨r2, 0, none⟩) 2 2, .slice none 0 0] w fun e w' => ∃ y : (Option Addr × Nat) × (Option Addr × Nat) × (Option Addr × Nat), e = .returned (.tuple #[.slice y.1.1 2 y.1.2, .int .i64 0]) ∧ Mem w [faRow y.1.1 y.1.2 [⟨exPass, y.2.1.1, y.2.1.2⟩, ⟨exB2, y.2.2.1, y.2.2.2⟩], itRow y.2.1.1 y.2.1.2 exPass.items, itRow y.2.2.1 y.2.2.2 exB2.items] w' := by
  have hb : Mem w0 (baseK z r2 l2 l1 ct) w := hw.cutX
  have hp := base_pr hb
  have h := all_w exF z.fa exP9 (z.p9 q) (some ⟨r2, 0, none⟩) 2 2 [exX 1 1010 2 0 l1, exX 2 5000 2 0 l2] none 0 0 [] w (base_fl hb) ⟨hp.tf, slAt_box (enc := Pas.cells) (xs := [exPas]) hw (j := 0) rfl (fun _ => rfl) (by simp), hp.pl, hp.dk, hp.fi⟩ (base_rd hb) (ex_short _ fun x hx => by simp at hx; rcases hx with rfl | rfl; exact ⟨_, _, _, _, _, rfl⟩; exact ⟨_, _, _, _, _, rfl⟩) (slAt_nil w 4 Pen.V.cells) (fun x hx => by simp at hx; rcases hx with rfl | rfl <;> (show (0 : Int) ≤ 9223372036854775807; decide))
  exact h.mono fun e w' hh => pair_of ex_c.2 ex_c.1 hh
theorem exD_w {w0 w : World} {L : List E.Item} {z : ExA} {r2 l2 l1 ct q qv b7 : Nat} {cs : List Value} (hw : Mem w0 (box qv 83 exV.cells :: box q 3 [.int .i64 1000, .int .i64 3000] :: box b7 28 cs :: L ++ baseK z r2 l2 l1 ct) w) : Calls Tryz.prog 15 #[.agg (exF.cells z.fa).toArray, .agg (exP5.cells (z.p5 q)).toArray, .slice (some ⟨r2, 0, none⟩) 2 2, .slice (some ⟨qv, 0, none⟩) 1 1] w fun e w' => ∃ y : (Option Addr × Nat) × (Option Addr × Nat) × (Option Addr × Nat), e = .returned (.tuple #[.slice y.1.1 2 y.1.2, .int .i64 0]) ∧ Mem w [faRow y.1.1 y.1.2 [⟨exB1, y.2.1.1, y.2.1.2⟩, ⟨exLast, y.2.2.1, y.2.2.2⟩], itRow y.2.1.1 y.2.1.2 exB1.items, itRow y.2.2.1 y.2.2.2 exLast.items] w' := by
  have hb : Mem w0 (baseK z r2 l2 l1 ct) w := hw.cutX
  have hp := base_pr hb
  have h := all_w exF z.fa exP5 (z.p5 q) (some ⟨r2, 0, none⟩) 2 2 [exX 1 1010 2 0 l1, exX 2 5000 2 0 l2] (some ⟨qv, 0, none⟩) 1 1 [exV] w (base_fl hb) ⟨hp.tf, hp.ps, hp.pl, hp.dk, slAt_box (enc := encInt) (xs := [1000, 3000]) hw (j := 1) rfl (fun _ => rfl) (by simp)⟩ (base_rd hb) (ex_short _ fun x hx => by simp at hx; rcases hx with rfl | rfl; exact ⟨_, _, _, _, _, rfl⟩; exact ⟨_, _, _, _, _, rfl⟩) (slAt_box (enc := Pen.V.cells) (xs := [exV]) hw (j := 0) rfl (fun _ => rfl) (by simp)) (fun x hx => by simp at hx; rcases hx with rfl | rfl <;> (show (0 : Int) ≤ 9223372036854775807; decide))
  exact h.mono fun e w' hh => pair_of ex_d.2 ex_d.1 hh
theorem same_t (x : Bil) (A B : Option Addr) (c d : Nat) (w : World) (hx : ItsAt w A x.items.length x.items) (hy : ItsAt w B x.items.length x.items) : Calls Tryz.prog 20 #[.agg (x.cells A c).toArray, .agg (x.cells B d).toArray] w fun e w' => e = .returned (.bool true) ∧ Bel w w' := by
  have h := rsame1_w x x A B c d w hx hy
  rw [show decide (x = x) = true by simp] at h
  exact h

end Go.Proofs.Far

/-
  The walks: awake.
-/
namespace Go.Proofs.Far
open Go Go.RowKit Go.Proofs.E Go.Proofs.Cus Go.Proofs.Rid

theorem bpv {w0 : World} {L : List E.Item} {g : Bool} {b o n : Nat} (k : Nat) {tb : TypeId} {cs vs : List Value} (hk : L[k]? = some (box b tb cs)) (hv : (cs.drop o).take n = vs) (hl : Nat.ble (o + n) cs.length = true) : g = true → ∀ w, Mem w0 L w → PartAt w b o n vs := hv ▸ bp k hk hl
theorem memCastN {w0 w : World} {L L' : List E.Item} (n : Nat) (hw : Mem w0 L w) (_ : L.length = n) (h : L = L') : Mem w0 L' w := h ▸ hw
theorem memCast {w0 w : World} {L L' : List E.Item} (hw : Mem w0 L w) (h : L = L') : Mem w0 L' w := h ▸ hw
set_option maxHeartbeats 4000000 in
set_option maxRecDepth 20000 in
theorem awake_w (w : World) : Calls Tryz.prog 14 #[] w fun e w' => e = .returned (.bool true) ∧ Bel w w' := by
  refine H_enter Tryz.func14 rfl Tryz.ntmps14 rfl (H_seq (R0 (xv (asB rfl) (XN (thenJ_normal (H_seq (R0 (xCX (en Tryz.call39 (ha0)) (fun w _ => town_w w) rfl (fun _ => rfl) fun z => (X_alloc Tryz.zeroValue30 rfl fun b1 => ?_)))))))))
  refine X_st (v := .agg _) rfl rfl Tryz.sizeOf30 ?_
  refine XN (thenJ_normal (H_seq (R0 (xCX (en Tryz.call40 (ha4 (q0 rfl) (q0 rfl) (q0 rfl) (q0 rfl))) (fun w _ => ridden_w 1 1010 2 0 (by decide) w) rfl (fun _ => rfl) fun l1 => (xCX (en Tryz.call40 (ha4 (q0 rfl) (q0 rfl) (q0 rfl) (q0 rfl))) (fun w _ => ridden_w 2 5000 2 0 (by decide) w) rfl (fun _ => rfl) fun l2 => (X_slit [(.int .i64 0), (.int .i64 0), (.int .i64 0), (.int .i64 0), (.int .i64 0), (.int .i64 0), (.bool false), (.slice none 0 0), (.slice none 0 0), (.int .i64 0), (.int .i64 0), (.int .i64 0), (.int .i64 0), (.int .i64 0), (.int .i64 0), (.int .i64 0), (.int .i64 0), (.int .i64 0), (.int .i64 0), (.bool false), (.slice none 0 0), (.slice none 0 0), (.int .i64 0), (.int .i64 0), (.int .i64 0), (.int .i64 0)] Tryz.underlying36 Tryz.sizeOf54 Tryz.zeroValue54 rfl (by kernel_rfl) (pt (v := .agg _) rfl (pt (v := .agg _) rfl E.p0)) rfl rfl fun b21 => (xv (asS rfl) (XN (thenJ_normal ?_)))))))))
  refine H_seq (H_mem (L' := baseK z b21 l2 l1 b1) (fun w hw => memCast hw (by kernel_rfl)) (by kernel_rfl) (H_cut [3, 4, 22, 23, 24, 25, 26, 27, 28, 29, 30, 31] (fun s : (Option Addr × Nat) × Nat => [(3, .pointer (some ⟨s.2, 0, none⟩)), (4, .int .i64 0)]) (fun s => [itRow s.1.1 s.1.2 exB1.items, box s.2 44 (exB1.cells s.1.1 s.1.2)] ++ baseK z b21 l2 l1 b1) (fun _ => True) ?_ ?_))
  · refine RA rfl (by decide +kernel) (aV 0 (by decide +kernel) rfl (e_fld Tryz.underlying30 rfl Tryz.sizeOf24 rfl (q0 rfl)) rfl (aV 1 (by decide +kernel) rfl (eP (vs := exF.cells z.fa) Tryz.isAgg24 Tryz.sizeOf24 (q0 rfl) (bpv 3 rfl (by kernel_rfl) (by kernel_rfl))) rfl ?_))
    refine aV 2 (by decide +kernel) rfl (e_fld Tryz.underlying30 rfl Tryz.sizeOf28 rfl (q0 rfl)) rfl (aV 3 (by decide +kernel) rfl (eP (vs := exP.cells z.pa) Tryz.isAgg28 Tryz.sizeOf28 (q0 rfl) (bpv 3 rfl (by kernel_rfl) (by kernel_rfl))) rfl ?_)
    refine aV 4 (by decide +kernel) rfl (mvS rfl) rfl (aV 5 (by decide +kernel) rfl (e_slHi 1 Tryz.underlying36 Tryz.sizeOf54 (q0 rfl) (q0 rfl) (fun _ => ⟨rfl, by decide⟩)) rfl (rdy2 (i := 6) (j := 10) (by decide +kernel) (sub_drop 0) ?_ ?_))
    · (first | refine aL rfl (f_callx (en (al := [.agg (exF.cells z.fa).toArray, .agg (exP.cells z.pa).toArray, .slice (some ⟨b21, 0, none⟩) 1 2, .slice none 0 0, .int .i64 1]) Tryz.call18 (fun _ => rfl)) (fun w hw => exA_w (z := z) (r2 := b21) (l2 := l2) (l1 := l1) (ct := b1) hw) rfl (fun _ => rfl) fun y1 => ?_) | refine aL rfl (f_callx (en (al := [.agg (exF.cells z.fa).toArray, .agg (exP.cells z.pa).toArray, .slice (some ⟨b21, 0, none⟩) 1 2, .slice none 0 0, .int .i64 1]) Tryz.call18 (fun _ => rfl)) (fun w hw => exA_w (z := z) (r2 := b21) (l2 := l2) (l1 := l1) (ct := b1) hw.tail) rfl (fun _ => rfl) fun y1 => ?_))
      refine aV 7 (by decide +kernel) rfl (e_mv (q0 rfl)) rfl (aV 8 (by decide +kernel) rfl (e_ext (q0 rfl) rfl) rfl (aV 9 (by decide +kernel) rfl (e_ext (q0 rfl) rfl) rfl (rdy1 (i := 10) (by decide +kernel) (sub_drop 1) (aL rfl (f_alloc Tryz.zeroValue44 rfl fun b3 => (aI 1 (rdy1 (i := 11) (by decide +kernel) (sub_drop 2) (aL rfl (f_st (v := .agg _) rfl rfl Tryz.sizeOf44 ?_)))))))))
      refine aRL (sub_drop 2) (aV 12 (by decide +kernel) rfl (asI rfl) rfl (aZ (by decide +kernel) (sub_drop 0) ?_))
      exact cutJ_normal ((y1, b3) : (Option Addr × Nat) × Nat) agr ⟨rfl, rfl, trivial⟩ (fun w hw => memCast hw (by kernel_rfl)) (by kernel_rfl) trivial
    · refine aL rfl (f_alloc Tryz.zeroValue44 rfl fun b3 => (rdy1 (i := 6) (by decide +kernel) (sub_drop 1) ?_))
      (first | refine aL rfl (f_callx (en (al := [.agg (exF.cells z.fa).toArray, .agg (exP.cells z.pa).toArray, .slice (some ⟨b21, 0, none⟩) 1 2, .slice none 0 0, .int .i64 1]) Tryz.call18 (fun _ => rfl)) (fun w hw => exA_w (z := z) (r2 := b21) (l2 := l2) (l1 := l1) (ct := b1) hw) rfl (fun _ => rfl) fun y1 => ?_) | refine aL rfl (f_callx (en (al := [.agg (exF.cells z.fa).toArray, .agg (exP.cells z.pa).toArray, .slice (some ⟨b21, 0, none⟩) 1 2, .slice none 0 0, .int .i64 1]) Tryz.call18 (fun _ => rfl)) (fun w hw => exA_w (z := z) (r2 := b21) (l2 := l2) (l1 := l1) (ct := b1) hw.tail) rfl (fun _ => rfl) fun y1 => ?_))
      refine aV 7 (by decide +kernel) rfl (e_mv (q0 rfl)) rfl (aV 8 (by decide +kernel) rfl (e_ext (q0 rfl) rfl) rfl (aV 9 (by decide +kernel) rfl (e_ext (q0 rfl) rfl) rfl (rdy1 (i := 11) (by decide +kernel) (sub_drop 2) (aL rfl (f_st (v := .agg _) rfl rfl Tryz.sizeOf44 ?_)))))
      refine aRL (sub_drop 2) (aV 12 (by decide +kernel) rfl (asI rfl) rfl (aZ (by decide +kernel) (sub_drop 0) ?_))
      exact cutJ_normal ((y1, b3) : (Option Addr × Nat) × Nat) agr ⟨rfl, rfl, trivial⟩ (fun w hw => memCast hw (by kernel_rfl)) (by kernel_rfl) trivial
  · rintro ⟨y1, b3⟩ g3 _
    refine thenJ_normal (H_seq (H_cut [5, 6, 32, 33, 34, 35, 36, 37, 38, 39, 40, 41] (fun s : (Option Addr × Nat) × Nat => [(5, .pointer (some ⟨s.2, 0, none⟩)), (6, .int .i64 0)]) (fun s => [itRow s.1.1 s.1.2 exDock.items, box s.2 44 (exDock.cells s.1.1 s.1.2), itRow y1.1 y1.2 exB1.items, box b3 44 (exB1.cells y1.1 y1.2)] ++ baseK z b21 l2 l1 b1) (fun _ => True) ?_ ?_))
    · refine RA rfl (by decide +kernel) (aV 0 (by decide +kernel) rfl (e_fld Tryz.underlying30 rfl Tryz.sizeOf24 rfl (q0 rfl)) rfl (aV 1 (by decide +kernel) rfl (eP (vs := exF.cells z.fa) Tryz.isAgg24 Tryz.sizeOf24 (q0 rfl) (bpv 5 rfl (by kernel_rfl) (by kernel_rfl))) rfl ?_))
      refine aV 2 (by decide +kernel) rfl (e_fld Tryz.underlying30 rfl Tryz.sizeOf28 rfl (q0 rfl)) rfl (aV 3 (by decide +kernel) rfl (eP (vs := exP.cells z.pa) Tryz.isAgg28 Tryz.sizeOf28 (q0 rfl) (bpv 5 rfl (by kernel_rfl) (by kernel_rfl))) rfl ?_)
      refine rdy2 (i := 4) (j := 10) (by decide +kernel) (sub_drop 0) ?_ ?_
      · refine aL rfl (f_callx (en Tryz.call40 (ha4 (q0 rfl) (q0 rfl) (q0 rfl) (q0 rfl))) (fun w _ => ridden_w 1 1010 1 3 (by decide) w) rfl (fun _ => rfl) fun l3 => (rdy2 (i := 5) (j := 10) (by decide +kernel) (sub_drop 1) ?_ ?_))
        · refine aL rfl (f_slit [(.int .i64 0), (.int .i64 0), (.int .i64 0), (.int .i64 0), (.int .i64 0), (.int .i64 0), (.bool false), (.slice none 0 0), (.slice none 0 0), (.int .i64 0), (.int .i64 0), (.int .i64 0), (.int .i64 0)] Tryz.underlying36 Tryz.sizeOf54 Tryz.zeroValue54 rfl (by kernel_rfl) (pt (v := .agg _) rfl E.p0) rfl rfl fun b38 => (aI 1 (rdy2 (i := 6) (j := 10) (by decide +kernel) (sub_drop 2) ?_ ?_)))
          · (first | refine aL rfl (f_callx (en (al := [.agg (exF.cells z.fa).toArray, .agg (exP.cells z.pa).toArray, .slice (some ⟨b38, 0, none⟩) 1 1, .slice none 0 0, .int .i64 1]) Tryz.call18 (fun _ => rfl)) (fun w hw => exB_w (z := z) (r2 := b21) (l2 := l2) (l1 := l1) (ct := b1) (l3 := l3) (r3 := b38) (L := [itRow y1.1 y1.2 exB1.items, box b3 44 (exB1.cells y1.1 y1.2)]) (memCastN 13 hw rfl (by kernel_rfl))) rfl (fun _ => rfl) fun y2 => ?_) | refine aL rfl (f_callx (en (al := [.agg (exF.cells z.fa).toArray, .agg (exP.cells z.pa).toArray, .slice (some ⟨b38, 0, none⟩) 1 1, .slice none 0 0, .int .i64 1]) Tryz.call18 (fun _ => rfl)) (fun w hw => exB_w (z := z) (r2 := b21) (l2 := l2) (l1 := l1) (ct := b1) (l3 := l3) (r3 := b38) (L := [box b5 44 (Bil.cells ⟨0, 0, [], 0⟩ none 0), itRow y1.1 y1.2 exB1.items, box b3 44 (exB1.cells y1.1 y1.2)]) (memCastN 14 hw rfl (by kernel_rfl))) rfl (fun _ => rfl) fun y2 => ?_))
            refine aI 2 (aV 7 (by decide +kernel) rfl (e_mv (q0 rfl)) rfl (aV 8 (by decide +kernel) rfl (e_ext (q0 rfl) rfl) rfl (aV 9 (by decide +kernel) rfl (e_ext (q0 rfl) rfl) rfl (rdy1 (i := 10) (by decide +kernel) (sub_drop 3) (aL rfl (f_alloc Tryz.zeroValue44 rfl fun b5 => (aI 3 (rdy1 (i := 11) (by decide +kernel) (sub_drop 4) (aL rfl (f_st (v := .agg _) rfl rfl Tryz.sizeOf44 ?_))))))))))
            refine aRL (sub_drop 4) (aV 12 (by decide +kernel) rfl (asI rfl) rfl (aZ (by decide +kernel) (sub_drop 0) ?_))
            exact cutJ_normal ((y2, b5) : (Option Addr × Nat) × Nat) agr ⟨rfl, rfl, trivial⟩ (fun w hw => memCast hw.tail.tail (by kernel_rfl)) (by kernel_rfl) trivial
          · refine aL rfl (f_alloc Tryz.zeroValue44 rfl fun b5 => (aI 2 (rdy1 (i := 6) (by decide +kernel) (sub_drop 3) ?_)))
            (first | refine aL rfl (f_callx (en (al := [.agg (exF.cells z.fa).toArray, .agg (exP.cells z.pa).toArray, .slice (some ⟨b38, 0, none⟩) 1 1, .slice none 0 0, .int .i64 1]) Tryz.call18 (fun _ => rfl)) (fun w hw => exB_w (z := z) (r2 := b21) (l2 := l2) (l1 := l1) (ct := b1) (l3 := l3) (r3 := b38) (L := [itRow y1.1 y1.2 exB1.items, box b3 44 (exB1.cells y1.1 y1.2)]) (memCastN 13 hw rfl (by kernel_rfl))) rfl (fun _ => rfl) fun y2 => ?_) | refine aL rfl (f_callx (en (al := [.agg (exF.cells z.fa).toArray, .agg (exP.cells z.pa).toArray, .slice (some ⟨b38, 0, none⟩) 1 1, .slice none 0 0, .int .i64 1]) Tryz.call18 (fun _ => rfl)) (fun w hw => exB_w (z := z) (r2 := b21) (l2 := l2) (l1 := l1) (ct := b1) (l3 := l3) (r3 := b38) (L := [box b5 44 (Bil.cells ⟨0, 0, [], 0⟩ none 0), itRow y1.1 y1.2 exB1.items, box b3 44 (exB1.cells y1.1 y1.2)]) (memCastN 14 hw rfl (by kernel_rfl))) rfl (fun _ => rfl) fun y2 => ?_))
            refine aI 2 (aV 7 (by decide +kernel) rfl (e_mv (q0 rfl)) rfl (aV 8 (by decide +kernel) rfl (e_ext (q0 rfl) rfl) rfl (aV 9 (by decide +kernel) rfl (e_ext (q0 rfl) rfl) rfl (rdy1 (i := 11) (by decide +kernel) (sub_drop 4) (aL rfl (f_st (v := .agg _) rfl rfl Tryz.sizeOf44 ?_))))))
            refine aRL (sub_drop 4) (aV 12 (by decide +kernel) rfl (asI rfl) rfl (aZ (by decide +kernel) (sub_drop 0) ?_))
            exact cutJ_normal ((y2, b5) : (Option Addr × Nat) × Nat) agr ⟨rfl, rfl, trivial⟩ (fun w hw => memCast hw.tail.tail (by kernel_rfl)) (by kernel_rfl) trivial
        · refine aL rfl (f_alloc Tryz.zeroValue44 rfl fun b5 => (aI 1 (rdy1 (i := 5) (by decide +kernel) (sub_drop 2) (aL rfl (f_slit [(.int .i64 0), (.int .i64 0), (.int .i64 0), (.int .i64 0), (.int .i64 0), (.int .i64 0), (.bool false), (.slice none 0 0), (.slice none 0 0), (.int .i64 0), (.int .i64 0), (.int .i64 0), (.int .i64 0)] Tryz.underlying36 Tryz.sizeOf54 Tryz.zeroValue54 rfl (by kernel_rfl) (pt (v := .agg _) rfl E.p0) rfl rfl fun b38 => (aI 1 (rdy1 (i := 6) (by decide +kernel) (sub_drop 3) ?_)))))))
          (first | refine aL rfl (f_callx (en (al := [.agg (exF.cells z.fa).toArray, .agg (exP.cells z.pa).toArray, .slice (some ⟨b38, 0, none⟩) 1 1, .slice none 0 0, .int .i64 1]) Tryz.call18 (fun _ => rfl)) (fun w hw => exB_w (z := z) (r2 := b21) (l2 := l2) (l1 := l1) (ct := b1) (l3 := l3) (r3 := b38) (L := [itRow y1.1 y1.2 exB1.items, box b3 44 (exB1.cells y1.1 y1.2)]) (memCastN 13 hw rfl (by kernel_rfl))) rfl (fun _ => rfl) fun y2 => ?_) | refine aL rfl (f_callx (en (al := [.agg (exF.cells z.fa).toArray, .agg (exP.cells z.pa).toArray, .slice (some ⟨b38, 0, none⟩) 1 1, .slice none 0 0, .int .i64 1]) Tryz.call18 (fun _ => rfl)) (fun w hw => exB_w (z := z) (r2 := b21) (l2 := l2) (l1 := l1) (ct := b1) (l3 := l3) (r3 := b38) (L := [box b5 44 (Bil.cells ⟨0, 0, [], 0⟩ none 0), itRow y1.1 y1.2 exB1.items, box b3 44 (exB1.cells y1.1 y1.2)]) (memCastN 14 hw rfl (by kernel_rfl))) rfl (fun _ => rfl) fun y2 => ?_))
          refine aI 2 (aV 7 (by decide +kernel) rfl (e_mv (q0 rfl)) rfl (aV 8 (by decide +kernel) rfl (e_ext (q0 rfl) rfl) rfl (aV 9 (by decide +kernel) rfl (e_ext (q0 rfl) rfl) rfl (rdy1 (i := 11) (by decide +kernel) (sub_drop 4) (aL rfl (f_st (v := .agg _) rfl rfl Tryz.sizeOf44 ?_))))))
          refine aRL (sub_drop 4) (aV 12 (by decide +kernel) rfl (asI rfl) rfl (aZ (by decide +kernel) (sub_drop 0) ?_))
          exact cutJ_normal ((y2, b5) : (Option Addr × Nat) × Nat) agr ⟨rfl, rfl, trivial⟩ (fun w hw => memCast hw.tail.tail (by kernel_rfl)) (by kernel_rfl) trivial
      · refine aL rfl (f_alloc Tryz.zeroValue44 rfl fun b5 => (rdy1 (i := 4) (by decide +kernel) (sub_drop 1) (aL rfl (f_callx (en Tryz.call40 (ha4 (q0 rfl) (q0 rfl) (q0 rfl) (q0 rfl))) (fun w _ => ridden_w 1 1010 1 3 (by decide) w) rfl (fun _ => rfl) fun l3 => (rdy1 (i := 5) (by decide +kernel) (sub_drop 2) (aL rfl (f_slit [(.int .i64 0), (.int .i64 0), (.int .i64 0), (.int .i64 0), (.int .i64 0), (.int .i64 0), (.bool false), (.slice none 0 0), (.slice none 0 0), (.int .i64 0), (.int .i64 0), (.int .i64 0), (.int .i64 0)] Tryz.underlying36 Tryz.sizeOf54 Tryz.zeroValue54 rfl (by kernel_rfl) (pt (v := .agg _) rfl E.p0) rfl rfl fun b38 => (aI 1 (rdy1 (i := 6) (by decide +kernel) (sub_drop 3) ?_)))))))))
        (first | refine aL rfl (f_callx (en (al := [.agg (exF.cells z.fa).toArray, .agg (exP.cells z.pa).toArray, .slice (some ⟨b38, 0, none⟩) 1 1, .slice none 0 0, .int .i64 1]) Tryz.call18 (fun _ => rfl)) (fun w hw => exB_w (z := z) (r2 := b21) (l2 := l2) (l1 := l1) (ct := b1) (l3 := l3) (r3 := b38) (L := [itRow y1.1 y1.2 exB1.items, box b3 44 (exB1.cells y1.1 y1.2)]) (memCastN 13 hw rfl (by kernel_rfl))) rfl (fun _ => rfl) fun y2 => ?_) | refine aL rfl (f_callx (en (al := [.agg (exF.cells z.fa).toArray, .agg (exP.cells z.pa).toArray, .slice (some ⟨b38, 0, none⟩) 1 1, .slice none 0 0, .int .i64 1]) Tryz.call18 (fun _ => rfl)) (fun w hw => exB_w (z := z) (r2 := b21) (l2 := l2) (l1 := l1) (ct := b1) (l3 := l3) (r3 := b38) (L := [box b5 44 (Bil.cells ⟨0, 0, [], 0⟩ none 0), itRow y1.1 y1.2 exB1.items, box b3 44 (exB1.cells y1.1 y1.2)]) (memCastN 14 hw rfl (by kernel_rfl))) rfl (fun _ => rfl) fun y2 => ?_))
        refine aI 2 (aV 7 (by decide +kernel) rfl (e_mv (q0 rfl)) rfl (aV 8 (by decide +kernel) rfl (e_ext (q0 rfl) rfl) rfl (aV 9 (by decide +kernel) rfl (e_ext (q0 rfl) rfl) rfl (rdy1 (i := 11) (by decide +kernel) (sub_drop 4) (aL rfl (f_st (v := .agg _) rfl rfl Tryz.sizeOf44 ?_))))))
        refine aRL (sub_drop 4) (aV 12 (by decide +kernel) rfl (asI rfl) rfl (aZ (by decide +kernel) (sub_drop 0) ?_))
        exact cutJ_normal ((y2, b5) : (Option Addr × Nat) × Nat) agr ⟨rfl, rfl, trivial⟩ (fun w hw => memCast hw.tail.tail (by kernel_rfl)) (by kernel_rfl) trivial
    · rintro ⟨y2, b5⟩ g4 _
      refine thenJ_normal (H_seq (R0 (xv (e_fld Tryz.underlying30 rfl Tryz.sizeOf28 rfl (q0 rfl)) (xv (eP (vs := exP.cells z.pa) Tryz.isAgg28 Tryz.sizeOf28 (q0 rfl) (bpv 7 rfl (by kernel_rfl) (by kernel_rfl))) ?_))))
      refine X_alloc Tryz.zeroValue28 rfl fun b7 => (X_st (v := .agg _) rfl rfl Tryz.sizeOf28 ?_)
      refine XN (thenJ_normal (H_seq (R0 (xv (e_build Tryz.underlying79 fl79 Tryz.zeroValue79 (pt (v := .int _ _) rfl E.p0) rfl) (xv (e_build Tryz.underlying81 fl81 Tryz.zeroValue81 (pt (v := .int _ _) rfl (pt (v := .int _ _) rfl (pt (v := .agg _) rfl (pt (v := .int _ _) rfl (pt (v := .int _ _) rfl E.p0))))) rfl) (X_slit [(.int .i64 0), (.int .i64 0), (.int .i64 0), (.int .i64 0), (.int .i64 0), (.int .i64 0)] Tryz.underlying26 Tryz.sizeOf81 Tryz.zeroValue81 rfl (by kernel_rfl) (pt (v := .agg _) rfl E.p0) rfl rfl fun b46 => (xv (e_fld Tryz.underlying28 rfl Tryz.sizeOf26 rfl (q0 rfl)) (X_st (v := .slice _ _ _) rfl rfl Tryz.sizeOf26 ?_))))))))
      refine XN (thenJ_normal (H_seq (H_mem (L' := [box b46 81 exPas.cells, box b7 28 (exP9.cells (z.p9 b46)), itRow y2.1 y2.2 exDock.items, box b5 44 (exDock.cells y2.1 y2.2), itRow y1.1 y1.2 exB1.items, box b3 44 (exB1.cells y1.1 y1.2)] ++ baseK z b21 l2 l1 b1) (fun w hw => memCast hw (by kernel_rfl)) (by kernel_rfl) (R0 (xv (e_fld Tryz.underlying30 rfl Tryz.sizeOf24 rfl (q0 rfl)) (xv (eP (vs := exF.cells z.fa) Tryz.isAgg24 Tryz.sizeOf24 (q0 rfl) (bpv 9 rfl (by kernel_rfl) (by kernel_rfl))) ?_))))))
      refine xv (e_lds (vs := exP9.cells (z.p9 b46)) Tryz.isAgg28 Tryz.sizeOf28 (q0 rfl) (bxs 1 rfl) rfl) (xv (mvS rfl) (X_eff (f_callx (en (al := [.agg (exF.cells z.fa).toArray, .agg (exP9.cells (z.p9 b46)).toArray, .slice (some ⟨b21, 0, none⟩) 2 2, .slice none 0 0]) Tryz.call15 (fun _ => rfl)) (fun w hw => exC_w (z := z) (r2 := b21) (l2 := l2) (l1 := l1) (ct := b1) (q := b46) (b7 := b7) (cs := exP9.cells (z.p9 b46)) (L := [itRow y2.1 y2.2 exDock.items, box b5 44 (exDock.cells y2.1 y2.2), itRow y1.1 y1.2 exB1.items, box b3 44 (exB1.cells y1.1 y1.2)]) hw) rfl (fun _ => rfl) fun y3 => (xv (e_mv (q0 rfl)) (xv (e_ext (q0 rfl) rfl) (xv (e_ext (q0 rfl) rfl) (xv (asS rfl) (xv (asI rfl) (XN (thenJ_normal ?_))))))))))
      refine H_seq ?_
      obtain ⟨⟨A3, c3⟩, ⟨i31, k31⟩, ⟨i32, k32⟩⟩ := y3
      refine R0 (xv (e_fld Tryz.underlying28 rfl Tryz.sizeOf26 rfl (q0 rfl)) (X_st (v := .slice _ _ _) rfl rfl Tryz.sizeOf26 ?_))
      refine XN (thenJ_normal (H_seq (R0 (xv (e_fld Tryz.underlying28 rfl Tryz.sizeOf3 rfl (q0 rfl)) (X_st (v := .int _ _) rfl rfl Tryz.sizeOf3 ?_)))))
      refine XN (thenJ_normal (H_seq (R0 (X_slit [(.int .i64 0), (.int .i64 0)] Tryz.underlying22 Tryz.sizeOf3 Tryz.zeroValue3 rfl (by kernel_rfl) (pt (v := .int _ _) rfl (pt (v := .int _ _) rfl E.p0)) rfl rfl fun b58 => (xv (e_fld Tryz.underlying28 rfl Tryz.sizeOf22 rfl (q0 rfl)) (X_st (v := .slice _ _ _) rfl rfl Tryz.sizeOf22 ?_))))))
      refine XN (thenJ_normal (H_seq (H_mem (L' := [box b58 3 [.int .i64 1000, .int .i64 3000], box b7 28 (exP5.cells (z.p5 b58)), faRow A3 c3 [⟨exPass, i31, k31⟩, ⟨exB2, i32, k32⟩], itRow i31 k31 exPass.items, itRow i32 k32 exB2.items, itRow y2.1 y2.2 exDock.items, box b5 44 (exDock.cells y2.1 y2.2), itRow y1.1 y1.2 exB1.items, box b3 44 (exB1.cells y1.1 y1.2)] ++ baseK z b21 l2 l1 b1) (fun w hw => memCast (hw.pickN 6 [0, 5, 1, 2, 3] (by decide) (by decide)) (by kernel_rfl)) (by kernel_rfl) (R0 (xv (e_fld Tryz.underlying30 rfl Tryz.sizeOf24 rfl (q0 rfl)) (xv (eP (vs := exF.cells z.fa) Tryz.isAgg24 Tryz.sizeOf24 (q0 rfl) (bpv 12 rfl (by kernel_rfl) (by kernel_rfl))) ?_))))))
      refine xv (e_lds (vs := exP5.cells (z.p5 b58)) Tryz.isAgg28 Tryz.sizeOf28 (q0 rfl) (bxs 1 rfl) rfl) (xv (mvS rfl) (xv (e_build Tryz.underlying83 fl83 Tryz.zeroValue83 (pt (v := .int _ _) rfl (pt (v := .int _ _) rfl (pt (v := .int _ _) rfl (pt (v := .int _ _) rfl E.p0)))) rfl) (X_slit [(.int .i64 0), (.int .i64 0), (.int .i64 0), (.int .i64 0)] Tryz.underlying37 Tryz.sizeOf83 Tryz.zeroValue83 rfl (by kernel_rfl) (pt (v := .agg _) rfl E.p0) rfl rfl fun b66 => (X_eff (f_callx (en (al := [.agg (exF.cells z.fa).toArray, .agg (exP5.cells (z.p5 b58)).toArray, .slice (some ⟨b21, 0, none⟩) 2 2, .slice (some ⟨b66, 0, none⟩) 1 1]) Tryz.call15 (fun _ => rfl)) (fun w hw => exD_w (z := z) (r2 := b21) (l2 := l2) (l1 := l1) (ct := b1) (q := b58) (qv := b66) (b7 := b7) (cs := exP5.cells (z.p5 b58)) (L := [faRow A3 c3 [⟨exPass, i31, k31⟩, ⟨exB2, i32, k32⟩], itRow i31 k31 exPass.items, itRow i32 k32 exB2.items, itRow y2.1 y2.2 exDock.items, box b5 44 (exDock.cells y2.1 y2.2), itRow y1.1 y1.2 exB1.items, box b3 44 (exB1.cells y1.1 y1.2)]) (memCast hw (by kernel_rfl))) rfl (fun _ => rfl) fun y4 => (xv (e_mv (q0 rfl)) (xv (e_ext (q0 rfl) rfl) (xv (e_ext (q0 rfl) rfl) (xv (asS rfl) (xv (asI rfl) ?_))))))))))
      refine XN (thenJ_normal (H_seq (H_seq ?_)))
      obtain ⟨⟨A4, c4⟩, ⟨i41, k41⟩, ⟨i42, k42⟩⟩ := y4
      refine H_mem (L' := [faRow A4 c4 [⟨exB1, i41, k41⟩, ⟨exLast, i42, k42⟩], itRow i41 k41 exB1.items, itRow i42 k42 exLast.items, faRow A3 c3 [⟨exPass, i31, k31⟩, ⟨exB2, i32, k32⟩], itRow i31 k31 exPass.items, itRow i32 k32 exB2.items, itRow y2.1 y2.2 exDock.items, box b5 44 (exDock.cells y2.1 y2.2), itRow y1.1 y1.2 exB1.items, box b3 44 (exB1.cells y1.1 y1.2)]) (fun w hw => memCast (hw.pick [0, 1, 2, 6, 7, 8, 9, 10, 11, 12] (by decide)) (by kernel_rfl)) (by kernel_rfl) (R0 (xv (mvI rfl) (xv (e_ne (q0 rfl) (q0 rfl)) (xv (mvB rfl) (xf (mvI rfl) rfl rfl (xf (e_ne (q1 rfl) (q0 rfl)) rfl rfl (xv (e_or (q0 rfl) rfl (fun h => by first | rfl | (rw [h]; rfl))) ?_)))))))
      refine xv (mvB rfl) (xf (mvI rfl) rfl rfl (xf (e_ne (q1 rfl) (q0 rfl)) rfl rfl (xv (e_or (q0 rfl) rfl (fun h => by first | rfl | (rw [h]; rfl))) ?_)))
      refine xv (mvB rfl) (xf (mvI rfl) rfl rfl (xf (e_ne (q1 rfl) (q0 rfl)) rfl rfl (xv (e_or (q0 rfl) rfl (fun h => by first | rfl | (rw [h]; rfl))) ?_)))
      refine xv (mvB rfl) (xf (mvS rfl) rfl rfl (xf (e_len Tryz.underlying38 (q1 rfl)) rfl rfl (xf (e_ne (q1 rfl) (q0 rfl)) rfl rfl (xv (e_or (q0 rfl) rfl (fun h => by first | rfl | (rw [h]; rfl))) ?_))))
      refine xv (mvB rfl) (xf (mvS rfl) rfl rfl (xf (e_len Tryz.underlying38 (q1 rfl)) rfl rfl (xf (e_ne (q1 rfl) (q0 rfl)) rfl rfl (xv (e_or (q0 rfl) rfl (fun h => by first | rfl | (rw [h]; rfl))) ?_))))
      refine XN (thenJ_normal (H_cond rfl (fun h1 => ?_) (fun h1 => ?_)))
      · exfalso; simp at h1
      · refine H_skip (thenJ_normal (H_seq (R0 (xv (e_build Tryz.underlying69 fl69 Tryz.zeroValue69 (pt (v := .int _ _) rfl (pt (v := .int _ _) rfl E.p0)) rfl) (xv (e_build Tryz.underlying69 fl69 Tryz.zeroValue69 (pt (v := .int _ _) rfl (pt (v := .int _ _) rfl E.p0)) rfl) (X_alloc Tryz.zeroValue69 rfl fun b12 => (X_alloc Tryz.zeroValue69 rfl fun b13 => (X_st (v := .agg _) rfl rfl Tryz.sizeOf69 ?_))))))))
        refine X_st (v := .agg _) rfl rfl Tryz.sizeOf69 ?_
        refine XN (thenJ_normal (H_seq (R0 (xv (eS Tryz.isAgg69 Tryz.sizeOf69 (q0 rfl)) ?_))))
        refine xv (eS Tryz.isAgg69 Tryz.sizeOf69 (q0 rfl)) ?_
        refine X_slit [(.int .i64 0), (.int .i64 0), (.int .i64 0), (.int .i64 0), (.int .i64 0), (.int .i64 0)] Tryz.underlying42 Tryz.sizeOf69 Tryz.zeroValue69 rfl (by kernel_rfl) (pt (v := .agg _) rfl (pt (v := .agg _) rfl E.p0)) rfl rfl fun b98 => (xv (e_build Tryz.underlying44 fl44 Tryz.zeroValue44 (pt (v := .int _ _) rfl (pt (v := .int _ _) rfl (pt (v := .slice _ _ _) rfl (pt (v := .int _ _) rfl E.p0)))) rfl) (X_alloc Tryz.zeroValue44 rfl fun b14 => (X_st (v := .agg _) rfl rfl Tryz.sizeOf44 ?_)))
        refine XN (thenJ_normal (H_seq (R0 (xv (eS Tryz.isAgg69 Tryz.sizeOf69 (q0 rfl)) ?_))))
        refine xv (eS Tryz.isAgg69 Tryz.sizeOf69 (q0 rfl)) ?_
        refine xv (e_build Tryz.underlying69 fl69 Tryz.zeroValue69 (pt (v := .int _ _) rfl (pt (v := .int _ _) rfl (pt (v := .int _ _) rfl E.p0))) rfl) (X_slit [(.int .i64 0), (.int .i64 0), (.int .i64 0), (.int .i64 0), (.int .i64 0), (.int .i64 0), (.int .i64 0), (.int .i64 0), (.int .i64 0)] Tryz.underlying42 Tryz.sizeOf69 Tryz.zeroValue69 rfl (by kernel_rfl) (pt (v := .agg _) rfl (pt (v := .agg _) rfl (pt (v := .agg _) rfl E.p0))) rfl rfl fun b103 => (xv (e_build Tryz.underlying44 fl44 Tryz.zeroValue44 (pt (v := .int _ _) rfl (pt (v := .int _ _) rfl (pt (v := .slice _ _ _) rfl (pt (v := .int _ _) rfl E.p0)))) rfl) (X_alloc Tryz.zeroValue44 rfl fun b15 => (X_st (v := .agg _) rfl rfl Tryz.sizeOf44 ?_))))
        refine XN (thenJ_normal (H_seq (R0 (xv (eS Tryz.isAgg69 Tryz.sizeOf69 (q0 rfl)) ?_))))
        refine xv (eS Tryz.isAgg69 Tryz.sizeOf69 (q0 rfl)) ?_
        refine xv (e_build Tryz.underlying69 fl69 Tryz.zeroValue69 (pt (v := .int _ _) rfl (pt (v := .int _ _) rfl E.p0)) rfl) (X_slit [(.int .i64 0), (.int .i64 0), (.int .i64 0), (.int .i64 0), (.int .i64 0), (.int .i64 0), (.int .i64 0), (.int .i64 0), (.int .i64 0)] Tryz.underlying42 Tryz.sizeOf69 Tryz.zeroValue69 rfl (by kernel_rfl) (pt (v := .agg _) rfl (pt (v := .agg _) rfl (pt (v := .agg _) rfl E.p0))) rfl rfl fun b108 => (xv (e_build Tryz.underlying44 fl44 Tryz.zeroValue44 (pt (v := .int _ _) rfl (pt (v := .int _ _) rfl (pt (v := .slice _ _ _) rfl (pt (v := .int _ _) rfl E.p0)))) rfl) (X_alloc Tryz.zeroValue44 rfl fun b16 => (X_st (v := .agg _) rfl rfl Tryz.sizeOf44 ?_))))
        refine XN (thenJ_normal (H_seq (R0 (xv (eS Tryz.isAgg69 Tryz.sizeOf69 (q0 rfl)) ?_))))
        refine xv (eS Tryz.isAgg69 Tryz.sizeOf69 (q0 rfl)) ?_
        refine xv (e_build Tryz.underlying69 fl69 Tryz.zeroValue69 (pt (v := .int _ _) rfl (pt (v := .int _ _) rfl E.p0)) rfl) (xv (e_build Tryz.underlying69 fl69 Tryz.zeroValue69 (pt (v := .int _ _) rfl (pt (v := .int _ _) rfl (pt (v := .int _ _) rfl E.p0))) rfl) (X_slit [(.int .i64 0), (.int .i64 0), (.int .i64 0), (.int .i64 0), (.int .i64 0), (.int .i64 0), (.int .i64 0), (.int .i64 0), (.int .i64 0), (.int .i64 0), (.int .i64 0), (.int .i64 0)] Tryz.underlying42 Tryz.sizeOf69 Tryz.zeroValue69 rfl (by kernel_rfl) (pt (v := .agg _) rfl (pt (v := .agg _) rfl (pt (v := .agg _) rfl (pt (v := .agg _) rfl E.p0)))) rfl rfl fun b114 => (xv (e_build Tryz.underlying44 fl44 Tryz.zeroValue44 (pt (v := .int _ _) rfl (pt (v := .int _ _) rfl (pt (v := .slice _ _ _) rfl (pt (v := .int _ _) rfl E.p0)))) rfl) (X_alloc Tryz.zeroValue44 rfl fun b17 => (X_st (v := .agg _) rfl rfl Tryz.sizeOf44 ?_)))))
        refine XN (thenJ_normal (H_seq (H_mem (L' := [box b17 44 (exLast.cells (some ⟨b114, 0, none⟩) 4), box b114 69 (exLast.items.flatMap Itm.cells), box b16 44 (exPass.cells (some ⟨b108, 0, none⟩) 3), box b108 69 (exPass.items.flatMap Itm.cells), box b15 44 (exDock.cells (some ⟨b103, 0, none⟩) 3), box b103 69 (exDock.items.flatMap Itm.cells), box b14 44 (exB1.cells (some ⟨b98, 0, none⟩) 2), box b98 69 (exB1.items.flatMap Itm.cells), faRow A4 c4 [⟨exB1, i41, k41⟩, ⟨exLast, i42, k42⟩], itRow i41 k41 exB1.items, itRow i42 k42 exLast.items, faRow A3 c3 [⟨exPass, i31, k31⟩, ⟨exB2, i32, k32⟩], itRow i31 k31 exPass.items, itRow i32 k32 exB2.items, itRow y2.1 y2.2 exDock.items, box b5 44 (exDock.cells y2.1 y2.2), itRow y1.1 y1.2 exB1.items, box b3 44 (exB1.cells y1.1 y1.2)]) (fun w hw => memCast (hw.pick [0, 1, 2, 3, 4, 5, 6, 7, 10, 11, 12, 13, 14, 15, 16, 17, 18, 19] (by decide)) (by kernel_rfl)) (by kernel_rfl) (H_know (fun w hw => rowT_at (j := 8) hw rfl (Nat.zero_lt_succ _)) fun ⟨g4, hg4⟩ => ?_))))
        subst hg4
        refine H_know (fun w hw => rowT_at (j := 11) hw rfl (Nat.zero_lt_succ _)) fun ⟨g3, hg3⟩ => ?_
        subst hg3
        refine R1 rfl (by decide +kernel) (xv (e_lds (vs := exB1.cells y1.1 y1.2) Tryz.isAgg44 Tryz.sizeOf44 (q0 rfl) (bxs 17 rfl) rfl) (xv (e_lds (vs := exB1.cells (some ⟨b98, 0, none⟩) 2) Tryz.isAgg44 Tryz.sizeOf44 (q0 rfl) (bxs 6 rfl) rfl) (xC (en Tryz.call20 (ha2 (q0 rfl) (q0 rfl))) (fun _ w hw => same_t exB1 _ _ _ _ w (slAt_row hw (j := 16) rfl (fun _ => rfl) (by decide)) (slAt_box (enc := Itm.cells) (xs := exB1.items) hw (j := 7) rfl (fun _ => rfl) (by decide))) rfl rfl (xv (mvB rfl) (xt (e_lds (vs := exDock.cells y2.1 y2.2) Tryz.isAgg44 Tryz.sizeOf44 (q0 rfl) (bxs 15 rfl) rfl) rfl rfl (xt (e_lds (vs := exDock.cells (some ⟨b103, 0, none⟩) 3) Tryz.isAgg44 Tryz.sizeOf44 (q0 rfl) (bxs 4 rfl) rfl) rfl rfl (xCT (en Tryz.call20 (ha2 (q1 (v := .agg _) rfl) (q1 (v := .agg _) rfl))) (fun _ w hw => same_t exDock _ _ _ _ w (slAt_row hw (j := 14) rfl (fun _ => rfl) (by decide)) (slAt_box (enc := Itm.cells) (xs := exDock.items) hw (j := 5) rfl (fun _ => rfl) (by decide))) rfl rfl rfl rfl (xv (e_and (q0 rfl) rfl (fun h => by first | rfl | (rw [h]; rfl))) ?_))))))))
        refine xv (mvB rfl) (xt (mvS rfl) rfl rfl (xt (e_idx 0 Tryz.underlying38 Tryz.sizeOf44 (q1 rfl) (q0 rfl) (fun _ => ⟨rfl, by decide⟩)) rfl rfl (xt (e_lds (vs := FX.cells ⟨exPass, i31, k31⟩) Tryz.isAgg44 Tryz.sizeOf44 (q1 rfl) (rrs 11 rfl (i := 0) rfl) rfl) rfl rfl (xt (e_lds (vs := exPass.cells (some ⟨b108, 0, none⟩) 3) Tryz.isAgg44 Tryz.sizeOf44 (q0 rfl) (bxs 2 rfl) rfl) rfl rfl (xCT (en Tryz.call20 (ha2 (q1 (v := .agg _) rfl) (q1 (v := .agg _) rfl))) (fun _ w hw => same_t exPass i31 _ k31 _ w (slAt_row hw (j := 12) rfl (fun _ => rfl) (by decide)) (slAt_box (enc := Itm.cells) (xs := exPass.items) hw (j := 3) rfl (fun _ => rfl) (by decide))) rfl rfl rfl rfl (xv (e_and (q0 rfl) rfl (fun h => by first | rfl | (rw [h]; rfl))) ?_))))))
        refine xv (mvB rfl) (xt (mvS rfl) rfl rfl (xt (e_idx 1 Tryz.underlying38 Tryz.sizeOf44 (q1 rfl) (q0 rfl) (fun _ => ⟨rfl, by decide⟩)) rfl rfl (xt (e_fld Tryz.underlying44 rfl Tryz.sizeOf3 rfl (q1 rfl)) rfl rfl (xt (e_ld (v := .int .i64 300) Tryz.isAgg3 (q1 rfl) (by exact rr (r := 3) 11 rfl (i := 1) (x := (⟨exB2, i32, k32⟩ : FX)) rfl rfl)) rfl rfl ?_))))
        refine xt (e_eq (q1 rfl) (q0 rfl)) rfl rfl (xv (e_and (q0 rfl) rfl (fun h => by first | rfl | (rw [h]; rfl))) ?_)
        refine xv (mvB rfl) (xt (mvS rfl) rfl rfl (xt (e_idx 0 Tryz.underlying38 Tryz.sizeOf44 (q1 rfl) (q0 rfl) (fun _ => ⟨rfl, by decide⟩)) rfl rfl (xt (e_fld Tryz.underlying44 rfl Tryz.sizeOf3 rfl (q1 rfl)) rfl rfl (xt (e_ld (v := .int .i64 300) Tryz.isAgg3 (q1 rfl) (by exact rr (r := 3) 8 rfl (i := 0) (x := (⟨exB1, i41, k41⟩ : FX)) rfl rfl)) rfl rfl ?_))))
        refine xt (e_eq (q1 rfl) (q0 rfl)) rfl rfl (xv (e_and (q0 rfl) rfl (fun h => by first | rfl | (rw [h]; rfl))) ?_)
        refine xv (mvB rfl) (xt (mvS rfl) rfl rfl (xt (e_idx 1 Tryz.underlying38 Tryz.sizeOf44 (q1 rfl) (q0 rfl) (fun _ => ⟨rfl, by decide⟩)) rfl rfl (xt (e_lds (vs := FX.cells ⟨exLast, i42, k42⟩) Tryz.isAgg44 Tryz.sizeOf44 (q1 rfl) (rrs 8 rfl (i := 1) rfl) rfl) rfl rfl (xt (e_lds (vs := exLast.cells (some ⟨b114, 0, none⟩) 4) Tryz.isAgg44 Tryz.sizeOf44 (q0 rfl) (bxs 0 rfl) rfl) rfl rfl (xCT (en Tryz.call20 (ha2 (q1 (v := .agg _) rfl) (q1 (v := .agg _) rfl))) (fun _ w hw => same_t exLast i42 _ k42 _ w (slAt_row hw (j := 10) rfl (fun _ => rfl) (by decide)) (slAt_box (enc := Itm.cells) (xs := exLast.items) hw (j := 1) rfl (fun _ => rfl) (by decide))) rfl rfl rfl rfl (xv (e_and (q0 rfl) rfl (fun h => by first | rfl | (rw [h]; rfl))) ?_))))))
        refine xv (asB rfl) (XN (thenJ_normal (H_ret ?_)))
        exact ret1 (v := .bool _) rfl rfl rfl fun w' hw => ⟨rfl, hw.1⟩

end Go.Proofs.Far

/-
  The readings of a city, of rides, verdicts and items among the arguments.
-/
namespace Go.Proofs.Far
open Go Go.RowKit Go.Proofs.E Go.Proofs.Cus Go.Proofs.Rid Go.ChangeShapes Go.WideShapes Go.ChangeAt

theorem cellsInt : Tryz.prog.cellsOf 3 = 1 := by kernel_rfl
theorem cellsInts : Tryz.prog.cellsOf 22 = 1 := by kernel_rfl
theorem cellsBool : Tryz.prog.cellsOf 4 = 1 := by kernel_rfl
theorem cellsSpn : Tryz.prog.cellsOf 50 = 2 := by kernel_rfl
theorem cellsLg : Tryz.prog.cellsOf 134 = 5 := by kernel_rfl
theorem cellsPz : Tryz.prog.cellsOf 198 = 4 := by kernel_rfl
theorem cellsRd : Tryz.prog.cellsOf 54 = 13 := by kernel_rfl
theorem cellsLgs : Tryz.prog.cellsOf 51 = 1 := by kernel_rfl
theorem cellsPzs : Tryz.prog.cellsOf 52 = 1 := by kernel_rfl
section
variable {H : Type} {enc : TypeId × Value → H} {W : World} {sp : Nat → Bool} {held : Bool} {base : Nat} {v : Value} {d : DataW H} {ps : List MemPlace}
set_option maxRecDepth 100000 in
theorem rd_spn {fuel : Nat} {c0 c1 : Value} {x : DataW H × List MemPlace} (h : DataW.trod enc Tryz.prog W 0 sp held fuel 50 [c0, c1] = some x) : ∃ s : Spn, c0 = .int .i64 s.lo ∧ c1 = .int .i64 s.hi := by
  obtain ⟨_, _, h0⟩ := rd_field Tryz.underlying50 h 0 rfl cellsInt
  obtain ⟨_, _, h1⟩ := rd_field Tryz.underlying50 h 1 rfl cellsInt
  obtain ⟨m0, e0, _⟩ := rd_int Tryz.underlying3 h0
  obtain ⟨m1, e1, _⟩ := rd_int Tryz.underlying3 h1
  simp at e0 e1
  exact ⟨⟨m0, m1⟩, e0, e1⟩
set_option maxRecDepth 100000 in
theorem rd_lg {fuel : Nat} {cs : List Value} {x : DataW H × List MemPlace} (hl : cs.length = 5) (h : DataW.trod enc Tryz.prog W 0 sp held fuel 134 cs = some x) : ∃ g : Lg, g.cells = cs := by
  match cs, hl with
  | [c0, c1, c2, c3, c4], _ =>
    obtain ⟨_, _, h0⟩ := rd_field Tryz.underlying134 h 0 rfl cellsInt
    obtain ⟨_, _, h1⟩ := rd_field Tryz.underlying134 h 1 rfl cellsSpn
    obtain ⟨_, _, h2⟩ := rd_field Tryz.underlying134 h 2 rfl cellsSpn
    obtain ⟨m0, e0, _⟩ := rd_int Tryz.underlying3 h0
    obtain ⟨s1, e1, e2⟩ := rd_spn h1
    obtain ⟨s2, e3, e4⟩ := rd_spn h2
    simp at e0
    subst e0 e1 e2 e3 e4
    exact ⟨⟨m0, s1, s2⟩, rfl⟩
set_option maxRecDepth 100000 in
theorem rd_pz {fuel : Nat} {cs : List Value} {x : DataW H × List MemPlace} (hl : cs.length = 4) (h : DataW.trod enc Tryz.prog W 0 sp held fuel 198 cs = some x) : ∃ g : Pz, g.cells = cs := by
  match cs, hl with
  | [c1, c2, c3, c4], _ =>
    obtain ⟨_, _, h1⟩ := rd_field Tryz.underlying198 h 0 rfl cellsSpn
    obtain ⟨_, _, h2⟩ := rd_field Tryz.underlying198 h 1 rfl cellsSpn
    obtain ⟨s1, e1, e2⟩ := rd_spn h1
    obtain ⟨s2, e3, e4⟩ := rd_spn h2
    subst e1 e2 e3 e4
    exact ⟨⟨s1, s2⟩, rfl⟩
set_option maxRecDepth 100000 in
theorem rd_lgs {fuel : Nat} {cs : List Value} {x : DataW H × List MemPlace} (h : DataW.trod enc Tryz.prog W 0 sp held fuel 51 cs = some x) : ∃ A n c xs, cs = [.slice A n c] ∧ SlAt W 5 Lg.cells A n xs := by
  obtain ⟨A, n, c, xs, rfl, hs, _, _, hx⟩ := rd_rows Tryz.underlying51 cellsLg (by decide) h
  obtain ⟨ys, hy, _⟩ := hs.recode (enc := Lg.cells) (Q := fun _ => True) fun x hx' => by
    obtain ⟨hl, f, y, ht⟩ := hx x hx'
    obtain ⟨g, hg⟩ := rd_lg hl ht
    exact ⟨g, hg, trivial⟩
  exact ⟨A, n, c, ys, rfl, hy⟩
set_option maxRecDepth 100000 in
theorem rd_pzs {fuel : Nat} {cs : List Value} {x : DataW H × List MemPlace} (h : DataW.trod enc Tryz.prog W 0 sp held fuel 52 cs = some x) : ∃ A n c xs, cs = [.slice A n c] ∧ SlAt W 4 Pz.cells A n xs := by
  obtain ⟨A, n, c, xs, rfl, hs, _, _, hx⟩ := rd_rows Tryz.underlying52 cellsPz (by decide) h
  obtain ⟨ys, hy, _⟩ := hs.recode (enc := Pz.cells) (Q := fun _ => True) fun x hx' => by
    obtain ⟨hl, f, y, ht⟩ := hx x hx'
    obtain ⟨g, hg⟩ := rd_pz hl ht
    exact ⟨g, hg, trivial⟩
  exact ⟨A, n, c, ys, rfl, hy⟩
set_option maxRecDepth 100000 in
theorem rd_rd {fuel : Nat} {cs : List Value} {x : DataW H × List MemPlace} (hl : cs.length = 13) (h : DataW.trod enc Tryz.prog W 0 sp held fuel 54 cs = some x) : ∃ y : RX, y.cells = cs ∧ RdAt W y ∧ y.r.pl ≤ 9223372036854775807 := by
  match cs, hl with
  | [c0, c1, c2, c3, c4, c5, c6, c7, c8, c9, c10, c11, c12], _ =>
    obtain ⟨_, _, h0⟩ := rd_field Tryz.underlying54 h 0 rfl cellsInt
    obtain ⟨_, _, h1⟩ := rd_field Tryz.underlying54 h 1 rfl cellsInt
    obtain ⟨_, _, h2⟩ := rd_field Tryz.underlying54 h 2 rfl cellsSpn
    obtain ⟨_, _, h3⟩ := rd_field Tryz.underlying54 h 3 rfl cellsSpn
    obtain ⟨_, _, h4⟩ := rd_field Tryz.underlying54 h 4 rfl cellsBool
    obtain ⟨_, _, h5⟩ := rd_field Tryz.underlying54 h 5 rfl cellsLgs
    obtain ⟨_, _, h6⟩ := rd_field Tryz.underlying54 h 6 rfl cellsPzs
    obtain ⟨_, _, h7⟩ := rd_field Tryz.underlying54 h 7 rfl cellsInt
    obtain ⟨_, _, h8⟩ := rd_field Tryz.underlying54 h 8 rfl cellsInt
    obtain ⟨_, _, h9⟩ := rd_field Tryz.underlying54 h 9 rfl cellsInt
    obtain ⟨_, _, h10⟩ := rd_field Tryz.underlying54 h 10 rfl cellsInt
    obtain ⟨m0, e0, _⟩ := rd_int Tryz.underlying3 h0
    obtain ⟨m1, e1, _⟩ := rd_int Tryz.underlying3 h1
    obtain ⟨s2, e2, e2'⟩ := rd_spn h2
    obtain ⟨s3, e3, e3'⟩ := rd_spn h3
    obtain ⟨m4, e4, _⟩ := DataW.trod_bool Tryz.underlying4 h4
    obtain ⟨lA, ln, lc, ll, e5, hlg⟩ := rd_lgs h5
    obtain ⟨pA, pn, pc, pl, e6, hpz⟩ := rd_pzs h6
    obtain ⟨m7, e7, _⟩ := rd_int Tryz.underlying3 h7
    obtain ⟨m8, e8, _⟩ := rd_int Tryz.underlying3 h8
    obtain ⟨m9, e9, _⟩ := rd_int Tryz.underlying3 h9
    obtain ⟨m10, e10, w10⟩ := rd_int Tryz.underlying3 h10
    simp at e0 e1 e4 e5 e6 e7 e8 e9 e10
    have hln : ll.length = ln := hlg.1
    have hpn : pl.length = pn := hpz.1
    subst hln hpn
    subst e0 e1 e2 e2' e3 e3' e4 e5 e6 e7 e8 e9 e10
    exact ⟨⟨⟨m0, m1, s2, s3, m4, ll, pl, m7, m8, m9, m10⟩, ⟨lA, lc, pA, pc⟩⟩, rfl, ⟨hlg, hpz⟩, (wf64 w10).2⟩
set_option maxRecDepth 100000 in
theorem open_rides (hv : Value.okWide Tryz.prog W .any base 36 v) (h : DataW.Trod enc Tryz.prog W 0 sp held 36 v d ps) : ∃ A n c xs, v = .slice A n c ∧ RdsAt W A n xs ∧ ∀ x ∈ xs, x.r.pl ≤ 9223372036854775807 := by
  obtain ⟨a, l, c, rfl⟩ := okWide_slice Tryz.underlying36 hv
  obtain ⟨_, hf⟩ := h
  obtain ⟨A, n, c', xs, e, hs, _, _, hx⟩ := rd_rows Tryz.underlying36 cellsRd (by decide) hf
  obtain ⟨ys, hy, hq⟩ := hs.recode (enc := RX.cells) (Q := fun y : RX => RdAt W y ∧ y.r.pl ≤ 9223372036854775807) fun x hx' => by
    obtain ⟨hl, f, y, ht⟩ := hx x hx'
    exact rd_rd hl ht
  simp [Value.cells] at e
  obtain ⟨rfl, rfl, rfl⟩ := e
  exact ⟨_, _, _, ys, rfl, ⟨hy, fun x hx => (hq x hx).1⟩, fun x hx => (hq x hx).2⟩
theorem rd_ints {fuel : Nat} {cs : List Value} {x : DataW H × List MemPlace} (h : DataW.trod enc Tryz.prog W 0 sp held fuel 22 cs = some x) : ∃ A n c xs, cs = [.slice A n c] ∧ IntsAt W A n xs := by
  obtain ⟨A, n, c, xs, rfl, hs, _, _, hx⟩ := rd_rows Tryz.underlying22 cellsInt (by decide) h
  obtain ⟨ys, hy, _⟩ := hs.recode (enc := encInt) (Q := fun _ => True) fun x hx' => by
    obtain ⟨_, f, y, ht⟩ := hx x hx'
    obtain ⟨m, rfl, _⟩ := rd_int Tryz.underlying3 ht
    exact ⟨m, rfl, trivial⟩
  exact ⟨A, n, c, ys, rfl, hy⟩
set_option maxRecDepth 100000 in
theorem rd_tf {fuel : Nat} {cs : List Value} {x : DataW H × List MemPlace} (hl : cs.length = 6) (h : DataW.trod enc Tryz.prog W 0 sp held fuel 63 cs = some x) : ∃ g : Tf, Tf.cells g = cs := by
  match cs, hl with
  | [c0, c1, c2, c3, c4, c5], _ =>
    obtain ⟨_, _, h0⟩ := rd_field Tryz.underlying63 h 0 rfl cellsInt
    obtain ⟨_, _, h1⟩ := rd_field Tryz.underlying63 h 1 rfl cellsInt
    obtain ⟨_, _, h2⟩ := rd_field Tryz.underlying63 h 2 rfl cellsInt
    obtain ⟨_, _, h3⟩ := rd_field Tryz.underlying63 h 3 rfl cellsInt
    obtain ⟨_, _, h4⟩ := rd_field Tryz.underlying63 h 4 rfl cellsInt
    obtain ⟨_, _, h5⟩ := rd_field Tryz.underlying63 h 5 rfl cellsInt
    obtain ⟨m0, e0, _⟩ := rd_int Tryz.underlying3 h0
    obtain ⟨m1, e1, _⟩ := rd_int Tryz.underlying3 h1
    obtain ⟨m2, e2, _⟩ := rd_int Tryz.underlying3 h2
    obtain ⟨m3, e3, _⟩ := rd_int Tryz.underlying3 h3
    obtain ⟨m4, e4, _⟩ := rd_int Tryz.underlying3 h4
    obtain ⟨m5, e5, _⟩ := rd_int Tryz.underlying3 h5
    simp at e0 e1 e2 e3 e4 e5
    subst e0 e1 e2 e3 e4 e5
    exact ⟨⟨m0, m1, m2, m3, m4, m5⟩, rfl⟩
theorem cells_tf : Tryz.prog.cellsOf 63 = 6 := by kernel_rfl
set_option maxRecDepth 100000 in
theorem rd_tfs {fuel : Nat} {cs : List Value} {x : DataW H × List MemPlace} (h : DataW.trod enc Tryz.prog W 0 sp held fuel 25 cs = some x) : ∃ A n c xs, cs = [.slice A n c] ∧ SlAt W 6 Tf.cells A n xs := by
  obtain ⟨A, n, c, xs, rfl, hs, _, _, hx⟩ := rd_rows Tryz.underlying25 cells_tf (by decide) h
  obtain ⟨ys, hy, _⟩ := hs.recode (enc := Tf.cells) (Q := fun _ => True) fun x hx' => by
    obtain ⟨hl, f, y, ht⟩ := hx x hx'
    obtain ⟨g, hg⟩ := rd_tf hl ht
    exact ⟨g, hg, trivial⟩
  exact ⟨A, n, c, ys, rfl, hy⟩
set_option maxRecDepth 100000 in
theorem rd_wn {fuel : Nat} {cs : List Value} {x : DataW H × List MemPlace} (hl : cs.length = 2) (h : DataW.trod enc Tryz.prog W 0 sp held fuel 79 cs = some x) : ∃ g : Wn, Wn.cells g = cs := by
  match cs, hl with
  | [c0, c1], _ =>
    obtain ⟨_, _, h0⟩ := rd_field Tryz.underlying79 h 0 rfl cellsInt
    obtain ⟨_, _, h1⟩ := rd_field Tryz.underlying79 h 1 rfl cellsInt
    obtain ⟨m0, e0, _⟩ := rd_int Tryz.underlying3 h0
    obtain ⟨m1, e1, _⟩ := rd_int Tryz.underlying3 h1
    simp at e0 e1
    subst e0 e1
    exact ⟨⟨m0, m1⟩, rfl⟩
theorem cellsWn : Tryz.prog.cellsOf 79 = 2 := by kernel_rfl
set_option maxRecDepth 100000 in
theorem rd_pas {fuel : Nat} {cs : List Value} {x : DataW H × List MemPlace} (hl : cs.length = 6) (h : DataW.trod enc Tryz.prog W 0 sp held fuel 81 cs = some x) : ∃ g : Pas, Pas.cells g = cs := by
  match cs, hl with
  | [c0, c1, c2, c3, c4, c5], _ =>
    obtain ⟨_, _, h0⟩ := rd_field Tryz.underlying81 h 0 rfl cellsInt
    obtain ⟨_, _, h1⟩ := rd_field Tryz.underlying81 h 1 rfl cellsInt
    obtain ⟨_, _, h2⟩ := rd_field Tryz.underlying81 h 2 rfl cellsWn
    obtain ⟨_, _, h3⟩ := rd_field Tryz.underlying81 h 3 rfl cellsInt
    obtain ⟨_, _, h4⟩ := rd_field Tryz.underlying81 h 4 rfl cellsInt
    obtain ⟨m0, e0, _⟩ := rd_int Tryz.underlying3 h0
    obtain ⟨m1, e1, _⟩ := rd_int Tryz.underlying3 h1
    obtain ⟨m3, e3, _⟩ := rd_int Tryz.underlying3 h3
    obtain ⟨m4, e4, _⟩ := rd_int Tryz.underlying3 h4
    obtain ⟨s2, e2⟩ := rd_wn (cs := [c2, c3]) rfl h2
    simp at e0 e1 e3 e4
    simp [Wn.cells] at e2
    obtain ⟨e2, e2'⟩ := e2
    subst e0 e1 e2 e2' e3 e4
    exact ⟨⟨m0, m1, s2.lo, s2.hi, m3, m4⟩, rfl⟩
theorem cells_pas : Tryz.prog.cellsOf 81 = 6 := by kernel_rfl
set_option maxRecDepth 100000 in
theorem rd_pass {fuel : Nat} {cs : List Value} {x : DataW H × List MemPlace} (h : DataW.trod enc Tryz.prog W 0 sp held fuel 26 cs = some x) : ∃ A n c xs, cs = [.slice A n c] ∧ SlAt W 6 Pas.cells A n xs := by
  obtain ⟨A, n, c, xs, rfl, hs, _, _, hx⟩ := rd_rows Tryz.underlying26 cells_pas (by decide) h
  obtain ⟨ys, hy, _⟩ := hs.recode (enc := Pas.cells) (Q := fun _ => True) fun x hx' => by
    obtain ⟨hl, f, y, ht⟩ := hx x hx'
    obtain ⟨g, hg⟩ := rd_pas hl ht
    exact ⟨g, hg, trivial⟩
  exact ⟨A, n, c, ys, rfl, hy⟩
set_option maxRecDepth 100000 in
theorem rd_it {fuel : Nat} {cs : List Value} {x : DataW H × List MemPlace} (hl : cs.length = 3) (h : DataW.trod enc Tryz.prog W 0 sp held fuel 69 cs = some x) : ∃ g : Itm, Itm.cells g = cs := by
  match cs, hl with
  | [c0, c1, c2], _ =>
    obtain ⟨_, _, h0⟩ := rd_field Tryz.underlying69 h 0 rfl cellsInt
    obtain ⟨_, _, h1⟩ := rd_field Tryz.underlying69 h 1 rfl cellsInt
    obtain ⟨_, _, h2⟩ := rd_field Tryz.underlying69 h 2 rfl cellsInt
    obtain ⟨m0, e0, _⟩ := rd_int Tryz.underlying3 h0
    obtain ⟨m1, e1, _⟩ := rd_int Tryz.underlying3 h1
    obtain ⟨m2, e2, _⟩ := rd_int Tryz.underlying3 h2
    simp at e0 e1 e2
    subst e0 e1 e2
    exact ⟨⟨m0, m1, m2⟩, rfl⟩
theorem cells_it : Tryz.prog.cellsOf 69 = 3 := by kernel_rfl
set_option maxRecDepth 100000 in
theorem rd_its {fuel : Nat} {cs : List Value} {x : DataW H × List MemPlace} (h : DataW.trod enc Tryz.prog W 0 sp held fuel 42 cs = some x) : ∃ A n c xs, cs = [.slice A n c] ∧ SlAt W 3 Itm.cells A n xs := by
  obtain ⟨A, n, c, xs, rfl, hs, _, _, hx⟩ := rd_rows Tryz.underlying42 cells_it (by decide) h
  obtain ⟨ys, hy, _⟩ := hs.recode (enc := Itm.cells) (Q := fun _ => True) fun x hx' => by
    obtain ⟨hl, f, y, ht⟩ := hx x hx'
    obtain ⟨g, hg⟩ := rd_it hl ht
    exact ⟨g, hg, trivial⟩
  exact ⟨A, n, c, ys, rfl, hy⟩
set_option maxRecDepth 100000 in
theorem rd_vd {fuel : Nat} {cs : List Value} {x : DataW H × List MemPlace} (hl : cs.length = 4) (h : DataW.trod enc Tryz.prog W 0 sp held fuel 83 cs = some x) : ∃ g : Pen.V, Pen.V.cells g = cs := by
  match cs, hl with
  | [c0, c1, c2, c3], _ =>
    obtain ⟨_, _, h0⟩ := rd_field Tryz.underlying83 h 0 rfl cellsInt
    obtain ⟨_, _, h1⟩ := rd_field Tryz.underlying83 h 1 rfl cellsInt
    obtain ⟨_, _, h2⟩ := rd_field Tryz.underlying83 h 2 rfl cellsInt
    obtain ⟨_, _, h3⟩ := rd_field Tryz.underlying83 h 3 rfl cellsInt
    obtain ⟨m0, e0, _⟩ := rd_int Tryz.underlying3 h0
    obtain ⟨m1, e1, _⟩ := rd_int Tryz.underlying3 h1
    obtain ⟨m2, e2, _⟩ := rd_int Tryz.underlying3 h2
    obtain ⟨m3, e3, _⟩ := rd_int Tryz.underlying3 h3
    simp at e0 e1 e2 e3
    subst e0 e1 e2 e3
    exact ⟨⟨m0, m1, m2, m3⟩, rfl⟩
theorem cells_vd : Tryz.prog.cellsOf 83 = 4 := by kernel_rfl
set_option maxRecDepth 100000 in
theorem rd_vds {fuel : Nat} {cs : List Value} {x : DataW H × List MemPlace} (h : DataW.trod enc Tryz.prog W 0 sp held fuel 37 cs = some x) : ∃ A n c xs, cs = [.slice A n c] ∧ SlAt W 4 Pen.V.cells A n xs := by
  obtain ⟨A, n, c, xs, rfl, hs, _, _, hx⟩ := rd_rows Tryz.underlying37 cells_vd (by decide) h
  obtain ⟨ys, hy, _⟩ := hs.recode (enc := Pen.V.cells) (Q := fun _ => True) fun x hx' => by
    obtain ⟨hl, f, y, ht⟩ := hx x hx'
    obtain ⟨g, hg⟩ := rd_vd hl ht
    exact ⟨g, hg, trivial⟩
  exact ⟨A, n, c, ys, rfl, hy⟩
theorem cellsTfs : Tryz.prog.cellsOf 25 = 1 := by kernel_rfl
theorem cellsPas : Tryz.prog.cellsOf 26 = 1 := by kernel_rfl
theorem cellsFl : Tryz.prog.cellsOf 24 = 5 := by kernel_rfl
theorem cellsPr : Tryz.prog.cellsOf 28 = 7 := by kernel_rfl
theorem cellsCt : Tryz.prog.cellsOf 30 = 12 := by kernel_rfl
set_option maxRecDepth 100000 in
theorem rd_fl {fuel : Nat} {cs : List Value} {x : DataW H × List MemPlace} (hl : cs.length = 5) (h : DataW.trod enc Tryz.prog W 0 sp held fuel 24 cs = some x) : ∃ (f : Fl) (a : FA), f.cells a = cs ∧ FlAt W f a := by
  match cs, hl with
  | [c0, c1, c2, c3, c4], _ =>
    obtain ⟨_, _, h0⟩ := rd_field Tryz.underlying24 h 0 rfl cellsInt
    obtain ⟨_, _, h1⟩ := rd_field Tryz.underlying24 h 1 rfl cellsInt
    obtain ⟨_, _, h2⟩ := rd_field Tryz.underlying24 h 2 rfl cellsInt
    obtain ⟨_, _, h3⟩ := rd_field Tryz.underlying24 h 3 rfl cellsInts
    obtain ⟨_, _, h4⟩ := rd_field Tryz.underlying24 h 4 rfl cellsInts
    obtain ⟨m0, e0, _⟩ := rd_int Tryz.underlying3 h0
    obtain ⟨m1, e1, _⟩ := rd_int Tryz.underlying3 h1
    obtain ⟨m2, e2, _⟩ := rd_int Tryz.underlying3 h2
    obtain ⟨A3, n3, k3, x3, e3, hx3⟩ := rd_ints h3
    obtain ⟨A4, n4, k4, x4, e4, hx4⟩ := rd_ints h4
    simp at e0 e1 e2 e3 e4
    subst e0 e1 e2 e3 e4
    exact ⟨⟨m0, m1, m2, x3, x4⟩, ⟨A3, n3, k3, A4, n4, k4⟩, rfl, hx3, hx4⟩
set_option maxRecDepth 100000 in
theorem rd_pr {fuel : Nat} {cs : List Value} {x : DataW H × List MemPlace} (hl : cs.length = 7) (h : DataW.trod enc Tryz.prog W 0 sp held fuel 28 cs = some x) : ∃ (p : Pr) (a : PrA), p.cells a = cs ∧ PrAt W p a := by
  match cs, hl with
  | [c0, c1, c2, c3, c4, c5, c6], _ =>
    obtain ⟨_, _, h0⟩ := rd_field Tryz.underlying28 h 0 rfl cellsTfs
    obtain ⟨_, _, h1⟩ := rd_field Tryz.underlying28 h 1 rfl cellsPas
    obtain ⟨_, _, h2⟩ := rd_field Tryz.underlying28 h 2 rfl cellsInts
    obtain ⟨_, _, h3⟩ := rd_field Tryz.underlying28 h 3 rfl cellsInts
    obtain ⟨_, _, h4⟩ := rd_field Tryz.underlying28 h 4 rfl cellsInt
    obtain ⟨_, _, h5⟩ := rd_field Tryz.underlying28 h 5 rfl cellsInts
    obtain ⟨_, _, h6⟩ := rd_field Tryz.underlying28 h 6 rfl cellsInt
    obtain ⟨A0, n0, k0, x0, e0, hx0⟩ := rd_tfs h0
    obtain ⟨A1, n1, k1, x1, e1, hx1⟩ := rd_pass h1
    obtain ⟨A2, n2, k2, x2, e2, hx2⟩ := rd_ints h2
    obtain ⟨A3, n3, k3, x3, e3, hx3⟩ := rd_ints h3
    obtain ⟨A5, n5, k5, x5, e5, hx5⟩ := rd_ints h5
    obtain ⟨m4, e4, _⟩ := rd_int Tryz.underlying3 h4
    obtain ⟨m6, e6, _⟩ := rd_int Tryz.underlying3 h6
    simp at e0 e1 e2 e3 e4 e5 e6
    subst e0 e1 e2 e3 e4 e5 e6
    exact ⟨⟨x0, x1, x2, x3, m4, x5, m6⟩, ⟨⟨A0, n0, k0⟩, ⟨A1, n1, k1⟩, ⟨A2, n2, k2⟩, ⟨A3, n3, k3⟩, ⟨A5, n5, k5⟩⟩, rfl, hx0, hx1, hx2, hx3, hx5⟩
set_option maxRecDepth 100000 in
theorem open_city (hv : Value.okWide Tryz.prog W .any base 30 v) (h : DataW.Trod enc Tryz.prog W 0 sp held 30 v d ps) : ∃ (f : Fl) (a : FA) (p : Pr) (q : PrA), v = .agg (ctCells f a p q).toArray ∧ FlAt W f a ∧ PrAt W p q := by
  obtain ⟨cs, rfl, hsz⟩ := okWide_struct Tryz.underlying30 hv
  rw [cellsCt] at hsz
  obtain ⟨l⟩ := cs
  match l, hsz with
  | [c0, c1, c2, c3, c4, c5, c6, c7, c8, c9, c10, c11], _ =>
    obtain ⟨_, hf⟩ := h
    obtain ⟨_, _, h0⟩ := rd_field Tryz.underlying30 hf 0 rfl cellsFl
    obtain ⟨_, _, h1⟩ := rd_field Tryz.underlying30 hf 1 rfl cellsPr
    obtain ⟨f, a, e0, hf0⟩ := rd_fl (cs := [c0, c1, c2, c3, c4]) rfl h0
    obtain ⟨p, q, e1, hp0⟩ := rd_pr (cs := [c5, c6, c7, c8, c9, c10, c11]) rfl h1
    refine ⟨f, a, p, q, ?_, hf0, hp0⟩
    unfold ctCells
    rw [e0, e1]; rfl
set_option maxRecDepth 100000 in
theorem open_its (hv : Value.okWide Tryz.prog W .any base 42 v) (h : DataW.Trod enc Tryz.prog W 0 sp held 42 v d ps) : ∃ A n c xs, v = .slice A n c ∧ SlAt W 3 Itm.cells A n xs := by
  obtain ⟨a, l, c, rfl⟩ := okWide_slice Tryz.underlying42 hv
  obtain ⟨_, hf⟩ := h
  obtain ⟨A, n, c', xs, e, hx⟩ := rd_its hf
  simp [Value.cells] at e
  obtain ⟨rfl, rfl, rfl⟩ := e
  exact ⟨_, _, _, xs, rfl, hx⟩
set_option maxRecDepth 100000 in
theorem open_vds (hv : Value.okWide Tryz.prog W .any base 37 v) (h : DataW.Trod enc Tryz.prog W 0 sp held 37 v d ps) : ∃ A n c xs, v = .slice A n c ∧ SlAt W 4 Pen.V.cells A n xs := by
  obtain ⟨a, l, c, rfl⟩ := okWide_slice Tryz.underlying37 hv
  obtain ⟨_, hf⟩ := h
  obtain ⟨A, n, c', xs, e, hx⟩ := rd_vds hf
  simp [Value.cells] at e
  obtain ⟨rfl, rfl, rfl⟩ := e
  exact ⟨_, _, _, xs, rfl, hx⟩
set_option maxRecDepth 100000 in
theorem open_int (hv : Value.okWide Tryz.prog W .any base 3 v) (h : DataW.Trod enc Tryz.prog W 0 sp held 3 v d ps) : ∃ m, v = .int .i64 m ∧ -9223372036854775808 ≤ m ∧ m ≤ 9223372036854775807 := by
  obtain ⟨n, rfl⟩ := okWide_int Tryz.underlying3 hv
  obtain ⟨_, hf⟩ := h
  obtain ⟨m, e, hw⟩ := rd_int Tryz.underlying3 hf
  simp [Value.cells] at e
  exact ⟨m, by rw [e], wf64 hw⟩
set_option maxRecDepth 100000 in
theorem open_u8 (hv : Value.okWide Tryz.prog W .any base 5 v) (h : DataW.Trod enc Tryz.prog W 0 sp held 5 v d ps) : ∃ m, v = .int .u8 m ∧ 0 ≤ m ∧ m ≤ 255 := by
  obtain ⟨n, rfl⟩ := okWide_int Tryz.underlying5 hv
  obtain ⟨_, hf⟩ := h
  obtain ⟨m, e, hw⟩ := rd_int Tryz.underlying5 hf
  simp [Value.cells] at e
  refine ⟨m, by rw [e], ?_⟩
  simp [Lit.wf, IntKind.min, IntKind.max, IntKind.signed, IntKind.bits] at hw
  omega
end
def zCity : Value := .agg #[.int .i64 0, .int .i64 0, .int .i64 0, .slice none 0 0, .slice none 0 0, .slice none 0 0, .slice none 0 0, .slice none 0 0, .slice none 0 0, .int .i64 0, .slice none 0 0, .int .i64 0]

end Go.Proofs.Far
