import Derived.Test.YtbocfacfgddbcaaGreatFarEb
import Derived.Test.YtbocfacfgddbcaaGreatFarT
set_option linter.unusedVariables false
set_option linter.unusedSimpArgs false
/-
  The walks: few; the laws Checks, Items, Ones, Adds.
-/
namespace Go.Proofs.Far
open Go Go.RowKit Go.Proofs.E Go.Proofs.Cus Go.Proofs.Rid

/-- what few looks at, but for the rides themselves -/
def headB (n m : Nat) (fa : FA) (a : PrA) : Bool :=
  ((((((((decide (40 < (n : Int)) || decide (40 < (m : Int))) || decide (20 < (a.p.n : Int))) || decide (20 < (a.t.n : Int))) || decide (80 < (a.pl.n : Int))) || decide (40 < (a.d.n : Int))) || decide (600 < (a.f.n : Int))) || decide (40 < (fa.dn : Int))) || decide (20 < (fa.tn : Int)))
def rideB (r : Rd) : Bool := decide (20 < (r.legs.length : Int)) || decide (20 < (r.pauses.length : Int))
def fewB (n m : Nat) (fa : FA) (a : PrA) (rs : List Rd) : Bool := if headB n m fa a = true then false else !rs.any rideB
theorem few_parts {n m : Nat} {fa : FA} {a : PrA} {rs : List Rd} (h : fewB n m fa a rs = true) : n ≤ 40 ∧ m ≤ 40 ∧ ∀ r ∈ rs, r.legs.length ≤ 20 ∧ r.pauses.length ≤ 20 := by
  unfold fewB at h
  split at h
  · cases h
  · rename_i hh
    have h2 : rs.any rideB = false := by simpa using h
    rw [List.any_eq_false] at h2
    unfold headB at hh
    simp only [Bool.or_eq_true, decide_eq_true_eq, not_or] at hh
    refine ⟨by omega, by omega, fun r hr => ?_⟩
    have := h2 r hr
    unfold rideB at this
    simp at this
    omega
set_option maxHeartbeats 4000000 in
set_option maxRecDepth 20000 in
theorem few_w (f : Fl) (fa : FA) (p : Pr) (a : PrA) (A : Option Addr) (n c : Nat) (rs : List RX) (V : Option Addr) (m d : Nat) (w : World) (hr : RdsAt w A n rs) :
    Calls Tryz.prog 11 #[.agg (ctCells f fa p a).toArray, .slice A n c, .slice V m d] w fun e w' => e = .returned (.bool (fewB n m fa a (rs.map (·.r)))) ∧ Bel w w' := by
  have hl := hr.1.1
  have hn := hr.1.2.1
  refine H_enter Tryz.func11 rfl Tryz.ntmps11 rfl (H_seq (R0 (X_box (v := .agg _) rfl rfl fun b3 => (xv (asB rfl) (XN (thenJ_normal (H_seq (R0 (xv (e_fld Tryz.underlying30 rfl Tryz.sizeOf28 rfl (q0 rfl)) ?_)))))))))
  refine xv (eP (vs := p.cells a) Tryz.isAgg28 Tryz.sizeOf28 (q0 rfl) (bpv 0 rfl rfl rfl)) ?_
  refine X_alloc Tryz.zeroValue28 rfl fun b7 => (X_st (v := .agg _) rfl rfl Tryz.sizeOf28 ?_)
  refine XN (thenJ_normal (H_seq (H_seq (R0 (xv (mvS rfl) (xv (e_len Tryz.underlying36 (q0 rfl)) (xv (e_gt (q0 rfl) (q0 rfl)) (xv (mvB rfl) (xf (mvS rfl) rfl rfl ?_)))))))))
  refine xf (e_len Tryz.underlying37 (q1 rfl)) rfl rfl (xf (e_gt (q1 rfl) (q0 rfl)) rfl rfl (xv (e_or (q0 rfl) rfl (fun h => by first | rfl | (rw [h]; rfl))) ?_))
  refine xv (mvB rfl) (xf (e_fld Tryz.underlying28 rfl Tryz.sizeOf26 rfl (q0 rfl)) rfl rfl (xf (eL Tryz.isAgg26 (q1 rfl)) rfl rfl ?_))
  refine xf (e_len Tryz.underlying26 (q1 rfl)) rfl rfl (xf (e_gt (q1 rfl) (q0 rfl)) rfl rfl (xv (e_or (q0 rfl) rfl (fun h => by first | rfl | (rw [h]; rfl))) ?_))
  refine xv (mvB rfl) (xf (e_fld Tryz.underlying28 rfl Tryz.sizeOf25 rfl (q0 rfl)) rfl rfl (xf (eL Tryz.isAgg25 (q1 rfl)) rfl rfl ?_))
  refine xf (e_len Tryz.underlying25 (q1 rfl)) rfl rfl (xf (e_gt (q1 rfl) (q0 rfl)) rfl rfl (xv (e_or (q0 rfl) rfl (fun h => by first | rfl | (rw [h]; rfl))) ?_))
  refine xv (mvB rfl) (xf (e_fld Tryz.underlying28 rfl Tryz.sizeOf22 rfl (q0 rfl)) rfl rfl (xf (eL Tryz.isAgg22 (q1 rfl)) rfl rfl ?_))
  refine xf (e_len Tryz.underlying22 (q1 rfl)) rfl rfl (xf (e_gt (q1 rfl) (q0 rfl)) rfl rfl (xv (e_or (q0 rfl) rfl (fun h => by first | rfl | (rw [h]; rfl))) ?_))
  refine xv (mvB rfl) (xf (e_fld Tryz.underlying28 rfl Tryz.sizeOf22 rfl (q0 rfl)) rfl rfl (xf (eL Tryz.isAgg22 (q1 rfl)) rfl rfl ?_))
  refine xf (e_len Tryz.underlying22 (q1 rfl)) rfl rfl (xf (e_gt (q1 rfl) (q0 rfl)) rfl rfl (xv (e_or (q0 rfl) rfl (fun h => by first | rfl | (rw [h]; rfl))) ?_))
  refine xv (mvB rfl) (xf (e_fld Tryz.underlying28 rfl Tryz.sizeOf22 rfl (q0 rfl)) rfl rfl (xf (eL Tryz.isAgg22 (q1 rfl)) rfl rfl ?_))
  refine xf (e_len Tryz.underlying22 (q1 rfl)) rfl rfl (xf (e_gt (q1 rfl) (q0 rfl)) rfl rfl (xv (e_or (q0 rfl) rfl (fun h => by first | rfl | (rw [h]; rfl))) ?_))
  refine xv (mvB rfl) (xf (e_fld Tryz.underlying30 rfl Tryz.sizeOf24 rfl (q0 rfl)) rfl rfl (xf (e_fld Tryz.underlying24 rfl Tryz.sizeOf22 rfl (q1 rfl)) rfl rfl (xf (eL Tryz.isAgg22 (q1 rfl)) rfl rfl ?_)))
  refine xf (e_len Tryz.underlying22 (q1 rfl)) rfl rfl (xf (e_gt (q1 rfl) (q0 rfl)) rfl rfl (xv (e_or (q0 rfl) rfl (fun h => by first | rfl | (rw [h]; rfl))) ?_))
  refine xv (mvB rfl) (xf (e_fld Tryz.underlying30 rfl Tryz.sizeOf24 rfl (q0 rfl)) rfl rfl (xf (e_fld Tryz.underlying24 rfl Tryz.sizeOf22 rfl (q1 rfl)) rfl rfl (xf (eL Tryz.isAgg22 (q1 rfl)) rfl rfl ?_)))
  refine xf (e_len Tryz.underlying22 (q1 rfl)) rfl rfl (xf (e_gt (q1 rfl) (q0 rfl)) rfl rfl (xv (e_or (q0 rfl) rfl (fun h => by first | rfl | (rw [h]; rfl))) ?_))
  refine XN (thenJ_normal (H_cond rfl (fun h1 => ?_) (fun h1 => ?_)))
  · have h1' : headB n m fa a = true := h1
    rw [show fewB n m fa a (rs.map (·.r)) = false by unfold fewB; rw [if_pos h1']]
    refine H_seq (R0 (xv (asB rfl) (XN (thenJ_normal (H_ret (thenJ_ret ?_))))))
    exact ret1 (v := .bool _) rfl rfl rfl fun w' hw => ⟨rfl, hw.1⟩
  · have h1' : headB n m fa a = false := h1
    have hfb : fewB n m fa a (rs.map (·.r)) = !(rs.map (·.r)).any rideB := by unfold fewB; rw [if_neg (by rw [h1']; decide)]
    rw [hfb]
    refine H_skip (thenJ_normal (H_seq (H_seq (R0 (xv (asI rfl) (XN (thenJ_normal (H_block (H_loop [6, 8, 63, 64, 65, 66, 67, 68, 69, 70, 71, 72, 73, 74, 75, 76, 77, 78, 79, 80, 81, 82, 83, 84] (fun k : Nat => [(8, .int .i64 k)]) (fun _ => []) (fun k => k ≤ n ∧ ((rs.take k).map (·.r)).any rideB = false) (fun k => n - k) 0 ⟨rfl, trivial⟩ (fun w hw => mem_nil.2 hw.1) rfl ⟨Nat.zero_le _, rfl⟩ ?_)))))))))
    rintro k g ⟨hk, hall⟩
    refine H_seq (H_seq (R0 (xv (mvI rfl) (xv (mvS rfl) (xv (e_len Tryz.underlying36 (q0 rfl)) (xv (e_lt (q0 rfl) (q0 rfl)) (XN (thenJ_normal (H_cond rfl (fun hlt => ?_) (fun hlt => ?_))))))))))
    · have hlt' : k < n := by simpa using hlt
      obtain ⟨b, off, x, rfl, hbl, hxk, hrx⟩ := hr.1.at_ hlt'
      refine H_skip (thenJ_normal (H_seq (H_block (H_seq (R0 (xv (mvS rfl) (xv (mvI rfl) (xv (e_idx _ Tryz.underlying36 Tryz.sizeOf54 (q0 rfl) (q0 rfl) (fun _ => ⟨rfl, by omega⟩)) (xv (e_fld Tryz.underlying54 rfl Tryz.sizeOf51 rfl (q0 rfl)) ?_)))))))))
      refine xv (e_ld (v := .slice x.a.lA x.r.legs.length x.a.lc) Tryz.isAgg51 (q0 rfl) (by exact rc (j := 7) hrx hbl rfl)) ?_
      refine xv (e_len Tryz.underlying51 (q0 rfl)) (xv (e_gt (q0 rfl) (q0 rfl)) (xv (mvB rfl) (xf (mvS rfl) rfl rfl (xf (mvI rfl) rfl rfl (xf (e_idx k Tryz.underlying36 Tryz.sizeOf54 (q1 rfl) (q1 rfl) (fun _ => ⟨rfl, hlt'⟩)) rfl rfl (xf (e_fld Tryz.underlying54 rfl Tryz.sizeOf52 rfl (q1 rfl)) rfl rfl (xf (e_ld (v := .slice x.a.pA x.r.pauses.length x.a.pc) Tryz.isAgg52 (q1 rfl) (by exact rc (j := 8) hrx hbl rfl)) rfl rfl ?_)))))))
      refine xf (e_len Tryz.underlying52 (q1 rfl)) rfl rfl (xf (e_gt (q1 rfl) (q0 rfl)) rfl rfl (xv (e_or (q0 rfl) rfl (fun h => by first | rfl | (rw [h]; rfl))) ?_))
      refine XN (thenJ_normal (H_cond rfl (fun h2 => ?_) (fun h2 => ?_)))
      · have h2' : rideB x.r = true := h2
        have han : (rs.map (·.r)).any rideB = true := List.any_eq_true.2 ⟨x.r, List.mem_map.2 ⟨x, List.mem_of_getElem? hxk, rfl⟩, h2'⟩
        rw [han]
        refine H_seq (R0 (xv (asB rfl) (XN (thenJ_normal (H_ret (blockJ_ret (thenJ_ret (loopJ_ret (blockJ_ret ?_)))))))))
        refine thenJ_ret ?_
        exact ret1 (v := .bool _) rfl rfl rfl fun w' hw => ⟨rfl, hw.1⟩
      · have h2' : rideB x.r = false := h2
        refine H_skip (blockJ_normal (thenJ_normal (R0 (xv (mvI rfl) (xv (e_add (q0 rfl) (q0 rfl) (fun _ => ⟨rfl, by omega, by omega⟩)) (xv (asI rfl) (XN ?_)))))))
        exact loopJ_normal (k + 1) agr ⟨rfl, trivial⟩ (fun w hw => hw) rfl ⟨by omega, by rw [snocT _ _ _ hxk, List.map_append, List.any_append, hall]; simp [h2']⟩ (by show n - (k + 1) < n - k; omega)
    · have hend : k = n := by simp at hlt; omega
      rw [hend, ← hl, List.take_length] at hall
      rw [hall]
      refine H_exit (thenJ_exit (loopJ_exit (blockJ_hit (thenJ_normal (H_seq (R0 (xv (asB rfl) (XN (thenJ_normal ?_)))))))))
      refine H_ret ?_
      exact ret1 (v := .bool _) rfl rfl rfl fun w' hw => ⟨rfl, hw.1⟩
theorem few_short {n m : Nat} {fa : FA} {a : PrA} {rs : List RX} (h : fewB n m fa a (rs.map (·.r)) = true) : Short rs ∧ ∀ x ∈ rs, x.r.pauses.length ≤ 1000 := by
  obtain ⟨_, _, h3⟩ := few_parts h
  constructor
  · intro x hx
    have := h3 x.r (List.mem_map.2 ⟨x, hx, rfl⟩)
    omega
  · intro x hx
    have := h3 x.r (List.mem_map.2 ⟨x, hx, rfl⟩)
    omega
theorem rds_nil (w : World) : RdsAt w none 0 [] := ⟨slAt_nil w 13 RX.cells, fun x hx => by cases hx⟩
set_option maxRecDepth 20000 in
theorem checksLaw_w (f : Fl) (fa : FA) (p : Pr) (a : PrA) (w : World) (hf : FlAt w f fa) (hp : PrAt w p a) : Calls Tryz.prog 3 #[.agg (ctCells f fa p a).toArray] w fun e w' => e = .returned (.bool true) ∧ Bel w w' := by
  refine H_enter Tryz.func3 rfl Tryz.ntmps3 rfl (H_seq (R0 (X_box (v := .agg _) rfl rfl fun b1 => (xv (asB rfl) (XN (thenJ_normal (H_seq (R1 rfl (by decide +kernel) (xv (eS Tryz.isAgg30 Tryz.sizeOf30 (q0 rfl)) ?_)))))))))
  refine xC (en Tryz.call11 (ha3 (q0 rfl) (q0 rfl) (q0 rfl))) (fun _ w _ => few_w f fa p a none 0 0 [] none 0 0 w (rds_nil w)) rfl rfl (xv (e_not (q0 rfl)) (xv (mvB rfl) (xf (e_fld Tryz.underlying30 rfl Tryz.sizeOf24 rfl (q0 rfl)) rfl rfl (xf (eP (vs := f.cells fa) Tryz.isAgg24 Tryz.sizeOf24 (q1 rfl) (bpv 0 rfl rfl rfl)) rfl rfl ?_))))
  refine xf (e_fld Tryz.underlying30 rfl Tryz.sizeOf28 rfl (q0 rfl)) rfl rfl (xf (eP (vs := p.cells a) Tryz.isAgg28 Tryz.sizeOf28 (q1 rfl) (bpv 0 rfl rfl rfl)) rfl rfl ?_)
  refine xCF (en Tryz.call12 (ha2 (q1 (v := .agg _) rfl) (q1 (v := .agg _) rfl))) (fun _ w hw => fcheck_w f fa p a w (hf.mem hw) (hp.mem hw)) rfl rfl rfl rfl (xf (e_fld Tryz.underlying30 rfl Tryz.sizeOf24 rfl (q0 rfl)) rfl rfl (xf (eP (vs := f.cells fa) Tryz.isAgg24 Tryz.sizeOf24 (q1 rfl) (bpv 0 rfl rfl rfl)) rfl rfl ?_))
  refine xf (e_fld Tryz.underlying30 rfl Tryz.sizeOf28 rfl (q0 rfl)) rfl rfl (xf (eP (vs := p.cells a) Tryz.isAgg28 Tryz.sizeOf28 (q1 rfl) (bpv 0 rfl rfl rfl)) rfl rfl ?_)
  refine xCF (en Tryz.call13 (ha2 (q1 (v := .agg _) rfl) (q1 (v := .agg _) rfl))) (fun _ w hw => rfcheck_w f fa p a w (hf.mem hw) (hp.mem hw)) rfl rfl rfl rfl (xf (e_eq (q1 rfl) (q1 rfl)) rfl rfl (xv (e_or (q0 rfl) rfl (fun h => by first | rfl | (rw [h]; rfl))) ?_))
  refine xv (mvB rfl) (xCT (en Tryz.call14 (ha0)) (fun _ w _ => awake_w w) rfl rfl rfl rfl (xv (e_and (q0 rfl) rfl (fun h => by first | rfl | (rw [h]; rfl))) ?_))
  refine xv (asB rfl) (XN (thenJ_normal (H_ret ?_)))
  exact ret1 (v := .bool _) rfl rfl rfl fun w' hw => ⟨ret_bool (by simp), hw.1⟩

end Go.Proofs.Far

/-
  The walks: the law Adds; fares in memory.
-/
namespace Go.Proofs.Far
open Go Go.RowKit Go.Proofs.E Go.Proofs.Cus Go.Proofs.Rid

theorem allR_nil {f : Fl} {p : Pr} {rs : List Rd} {vs : List Pen.V} (h : allErr f p rs vs ≠ 0) : allR f p rs vs = [] := by
  by_cases hc : prErr f p ≠ 0 ∨ rdsErr rs ≠ 0 ∨ Pen.vErr vs ≠ 0
  · unfold allR; rw [if_pos hc]
  · unfold allErr at h
    rw [if_neg (by omega), if_neg (by omega), if_neg (by omega)] at h
    unfold allR
    rw [if_neg hc]
    cases hp : allP p rs vs with
    | none => rfl
    | some C => rw [hp, if_neg (by simp)] at h; exact absurd rfl h
theorem finB_len (p : Pr) (vs : List Pen.V) (b : Bil) (d : Int) : (finB p vs b d).items.length ≤ b.items.length + 2 := by
  unfold finB
  have h1 := addB_len b 6 0 d
  split
  · omega
  · have h2 := addB_len (addB b 6 0 d) 7 (Pen.numR p.fines p.days vs (vIdx vs b.ride)).1 (Pen.fineR p.fines p.days vs (vIdx vs b.ride)).1
    omega
theorem allR_items {f : Fl} {p : Pr} {rs : List Rd} {vs : List Pen.V} : ∀ c ∈ allR f p rs vs, c.items.length ≤ 7 := fun c hc => by
  by_cases h : allErr f p rs vs = 0
  · obtain ⟨r, hr, ho, hid⟩ := allR_ride h hc
    obtain ⟨h1, h2, h3, B, hFS, hrich, _, hall⟩ := all_ok h
    rw [hall] at hc
    have hm := (byRide_perm _).mem_iff.1 hc
    obtain ⟨x, hx, rfl⟩ := List.mem_map.1 hm
    obtain ⟨i, hi⟩ := List.getElem?_of_mem hx
    rw [List.getElem?_zip_eq_some] at hi
    obtain ⟨r2, hr2⟩ : ∃ r2, (cntS rs)[i]? = some r2 := ⟨_, List.getElem?_eq_getElem (by have := (List.getElem?_eq_some_iff.1 hi.1).1; have := hrich.len; omega)⟩
    have := hrich.ride i x.1 r2 hi.1 hr2
    have := finB_len p vs x.1 (x.2 - x.1.total)
    omega
  · rw [allR_nil h] at hc; cases hc
theorem oneR_items {f : Fl} {p : Pr} {rs : List Rd} {vs : List Pen.V} {id : Int} : (oneR f p rs vs id).1.items.length ≤ 7 := by
  unfold oneR
  split
  · show (0 : Nat) ≤ 7; decide
  · cases hf : (allR f p rs vs).find? fun b => decide (b.ride = id) with
    | some b => exact allR_items b (List.mem_of_find?_eq_some hf)
    | none =>
      simp only
      split <;> (show (0 : Nat) ≤ 7; decide)
theorem allR_count {f : Fl} {p : Pr} {rs : List Rd} {vs : List Pen.V} : (allR f p rs vs).length ≤ rs.length := by
  by_cases h : allErr f p rs vs = 0
  · have h1 := (allR_perm h).length_eq
    rw [List.length_map, List.length_map] at h1
    have := List.length_filter_le (fun r : Rd => !r.open_) rs
    omega
  · rw [allR_nil h]; simp
theorem fas_at {w0 w : World} {L : List E.Item} {f : Fl} {p : Pr} {rs : List Rd} {vs : List Pen.V} {xs : List FX} {A : Option Addr} {c j k : Nat} (hx : xs.map (·.b) = allR f p rs vs) (hn : rs.length ≤ 100000) (hw : Mem w0 L w) (hj : L[j]? = some (faRow A c xs)) (hk : L[k]? = some (bag (xs.flatMap faParts))) : FasAt w A xs.length xs :=
  ⟨slAt_row hw hj (fun _ => rfl) (by have := congrArg List.length hx; rw [List.length_map] at this; have := allR_count (f := f) (p := p) (rs := rs) (vs := vs); omega), fun x hxm => its_of hw hk hxm (by
    have : x.b ∈ allR f p rs vs := by rw [← hx]; exact List.mem_map.2 ⟨x, hxm, rfl⟩
    have := allR_items x.b this
    omega)⟩
set_option maxRecDepth 20000 in
theorem addsLaw_w (A : Option Addr) (n c : Nat) (l : List Itm) (w : World) (hx : ItsAt w A n l) : Calls Tryz.prog 9 #[.slice A n c] w fun e w' => e = .returned (.bool true) ∧ Bel w w' := by
  have hn := hx.2.1
  refine H_enter Tryz.func9 rfl Tryz.ntmps9 rfl (H_seq (R0 (xv (asB rfl) (XN (thenJ_normal (H_seq (H_seq (R0 (xv (mvS rfl) ?_)))))))))
  refine xv (e_len Tryz.underlying42 (q0 rfl)) (xv (e_gt (q0 rfl) (q0 rfl)) (XN (thenJ_normal (H_cond rfl (fun h1 => ?_) (fun h1 => ?_)))))
  · refine H_seq (R0 (xC (en Tryz.call14 (ha0)) (fun _ w _ => awake_w w) rfl rfl (xv (asB rfl) (XN (thenJ_normal (H_ret (thenJ_ret ?_)))))))
    exact ret1 (v := .bool _) rfl rfl rfl fun w' hw => ⟨rfl, hw.1⟩
  · refine H_skip (thenJ_normal (H_seq (R0 (xv (mvS rfl) (xC (en Tryz.call27 (ha1 (q0 rfl))) (fun _ w hw => sum_w A n c l w (hx.mem hw)) rfl rfl (xv (e_mv (q0 rfl)) (xv (e_ext (q0 rfl) rfl) (xv (e_ext (q0 rfl) rfl) (xv (asI rfl) ?_)))))))))
    refine xv (asI rfl) (XN (thenJ_normal (H_seq (R0 (xv (mvS rfl) (xC (en Tryz.call28 (ha1 (q0 rfl))) (fun _ w hw => rsum_w A n c l w (hx.mem hw)) rfl rfl (xv (e_mv (q0 rfl)) (xv (e_ext (q0 rfl) rfl) (xv (e_ext (q0 rfl) rfl) ?_)))))))))
    refine xv (asI rfl) (xv (asI rfl) (XN (thenJ_normal (H_seq (R0 (xv (mvI rfl) (xv (mvI rfl) (xv (e_eq (q0 rfl) (q0 rfl)) (xv (mvB rfl) ?_)))))))))
    refine xt (mvI rfl) rfl rfl (xt (mvI rfl) rfl rfl (xt (e_eq (q1 rfl) (q1 rfl)) rfl rfl (xv (e_and (q0 rfl) rfl (fun h => by first | rfl | (rw [h]; rfl))) ?_)))
    refine xv (mvB rfl) (xCT (en Tryz.call14 (ha0)) (fun _ w _ => awake_w w) rfl rfl rfl rfl (xv (e_and (q0 rfl) rfl (fun h => by first | rfl | (rw [h]; rfl))) ?_))
    refine xv (asB rfl) (XN (thenJ_normal (H_ret ?_)))
    exact ret1 (v := .bool _) rfl rfl rfl fun w' hw => ⟨ret_bool (by simp), hw.1⟩

end Go.Proofs.Far
