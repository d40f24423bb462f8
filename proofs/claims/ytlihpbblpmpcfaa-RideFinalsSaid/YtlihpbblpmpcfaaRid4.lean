import Derived.Test.YtlihpbblpmpcfaaRid3
set_option linter.unusedVariables false
set_option linter.unusedSimpArgs false
/-
  The walks of the laws: Find, Of and Final.
-/
namespace Go.Proofs.Rid
open Go Go.RowKit Go.Proofs.E Go.Proofs.Cus

theorem few_l {xs : List RX} {m : Int} (h : (!rdFew (xs.map (·.r)) m) = false) : (xs.length : Int) ≤ m ∧ ∀ x ∈ xs, x.r.legs.length ≤ 40 ∧ x.r.pauses.length ≤ 40 := by
  have h : rdFew (xs.map (·.r)) m = true := by simpa using h
  unfold rdFew at h
  simp only [Bool.and_eq_true, Bool.not_eq_true', decide_eq_true_eq, List.length_map] at h
  refine ⟨h.2, fun x hx => ?_⟩
  have h1 := List.any_eq_false.1 h.1 x.r (List.mem_map_of_mem hx)
  unfold longP at h1
  simp at h1
  omega
theorem rds_new {w0 w : World} {L : List E.Item} {l : List Rd} (y : RdsNew l) (hw : Mem w0 L w) (j k : Nat) (hj : L[j]? = some (rdRow y.1.1 y.1.2.1 y.1.2.2)) (hk : L[k]? = some (rdBag y.1.2.2)) (hn : l.length ≤ 100000) (hl : ∀ r ∈ l, r.legs.length ≤ 100000 ∧ r.pauses.length ≤ 100000) : RdsAt w y.1.1 y.1.2.2.length y.1.2.2 := by
  obtain ⟨⟨A, c, xs⟩, hy⟩ := y
  simp only at hj hk
  have hyl : xs.length = l.length := by rw [← hy]; simp
  exact rds_items hw hj hk (by simp only; omega) fun x hx => hl x.r (by rw [← hy]; exact List.mem_map_of_mem hx)
theorem rds_filt {w0 w : World} {L : List E.Item} {A B : Option Addr} {n c : Nat} {xs : List RX} (p : RX → Bool) (hx : RdsAt w0 A n xs) (hw : Mem w0 L w) (j : Nat) (hj : L[j]? = some (rdRow B c (xs.filter p))) (hn : n ≤ 100000) : RdsAt w B (xs.filter p).length (xs.filter p) :=
  ⟨slAt_row hw hj (fun _ => rfl) (by have := List.length_filter_le p xs; have := hx.1.1; omega), fun x h => (hx.2 x (List.mem_filter.1 h).1).mem hw⟩
theorem part2_at {w0 w : World} {L : List E.Item} {x : RX} (hw : Mem w0 L w) (i j : Nat) (hi : L[i]? = some (lgRow x.a.lA x.a.lc x.r.legs)) (hj : L[j]? = some (pzRow x.a.pA x.a.pc x.r.pauses)) (hl : x.r.legs.length ≤ 100000 ∧ x.r.pauses.length ≤ 100000) : RdAt w x :=
  ⟨slAt_row hw hi (fun _ => rfl) (by omega), slAt_row hw hj (fun _ => rfl) (by omega)⟩
theorem sameRideT {x y : RX} {w : World} (he : x.r = y.r) (hx : RdAt w x) (hy : RdAt w y) : Calls Try.prog 16 #[.agg x.cells.toArray, .agg y.cells.toArray] w fun e w' => e = .returned (.bool true) ∧ Bel w w' :=
  (sameRide_w x y w hx hy).mono fun r w' h => by rw [decide_eq_true he] at h; exact h
theorem sameT {A B : Option Addr} {n m c d : Nat} {xs ys : List RX} {w : World} (he : xs.map (·.r) = ys.map (·.r)) (hx : RdsAt w A n xs) (hy : RdsAt w B m ys) : Calls Try.prog 17 #[.slice A n c, .slice B m d] w fun e w' => e = .returned (.bool true) ∧ Bel w w' :=
  (same_w A B n m c d xs ys w hx hy).mono fun r w' h => by rw [decide_eq_true he] at h; exact h
set_option maxHeartbeats 1000000 in
set_option maxRecDepth 20000 in
theorem listsLaw_w (A : Option Addr) (n c : Nat) (xs : List RX) (id rider hor : Int) (w : World) (hx : RdsAt w A n xs) :
    Calls Try.prog 4 #[.slice A n c, .int .i64 id, .int .i64 rider, .int .i64 hor] w fun r w' => r = .returned (.bool true) ∧ Bel w w' := by
  have hl := hx.1.1
  refine H_enter Try.func4 rfl Try.ntmps4 rfl ?_
  refine H_seq ?_
  refine R0 ?_
  refine xV (e_as (v := .bool _) (q0 rfl)) rfl rfl ?_
  refine XN ?_
  refine thenJ_normal ?_
  refine H_seq ?_
  refine H_seq ?_
  refine R0 ?_
  refine xV (e_mv (v := .slice _ _ _) (q0 rfl)) rfl rfl ?_
  refine xC (en Try.call13 (ha2 (q0 rfl) (q0 rfl))) (fun _ w hw => rdsFew_w A n c xs 60 w (hx.mem hw)) rfl rfl ?_
  refine xV (e_not (q0 rfl)) rfl rfl ?_
  refine XN ?_
  refine thenJ_normal ?_
  refine H_cond rfl (fun h0 => ?_) (fun h0 => ?_)
  · refine H_seq ?_
    refine R0 ?_
    refine xC (en Try.call10 (ha0)) (fun _ w _ => awake_w w) rfl rfl ?_
    refine xV (e_as (v := .bool _) (q0 rfl)) rfl rfl ?_
    refine XN ?_
    refine thenJ_normal ?_
    refine H_ret ?_
    refine thenJ_ret ?_
    exact ret1 (v := .bool _) rfl rfl rfl fun w' hw => ⟨rfl, hw.1⟩
  · obtain ⟨hn60, hsm⟩ := few_l h0
    have hn : n ≤ 60 := by omega
    have hs : Short xs := fun x hx => by have := hsm x hx; omega
    have hsr : ∀ r ∈ xs.map (·.r), r.legs.length ≤ 100000 ∧ r.pauses.length ≤ 100000 := fun r hr => by
      obtain ⟨x, hx1, rfl⟩ := List.mem_map.1 hr
      exact hs x hx1
    have hfl : ∀ p : Rd → Bool, ((xs.map (·.r)).filter p).length ≤ 100000 := fun p => by
      have := List.length_filter_le p (xs.map (·.r))
      rw [List.length_map] at this
      omega
    have hfs : ∀ p : Rd → Bool, ∀ r ∈ (xs.map (·.r)).filter p, r.legs.length ≤ 100000 ∧ r.pauses.length ≤ 100000 := fun p r hr => hsr r (List.mem_filter.1 hr).1
    have hgd : ((findR (xs.map (·.r)) id).getD zRd).legs.length ≤ 100000 ∧ ((findR (xs.map (·.r)) id).getD zRd).pauses.length ≤ 100000 := by
      cases hf : findR (xs.map (·.r)) id with
      | none => decide
      | some r => exact hsr r (List.mem_of_find?_eq_some hf)
    refine H_skip ?_
    refine thenJ_normal ?_
    refine H_seq ?_
    refine R0 ?_
    refine xV (e_mv (v := .slice _ _ _) (q0 rfl)) rfl rfl ?_
    refine xV (e_mv (v := .int _ _) (q0 rfl)) rfl rfl ?_
    refine xCX (en Try.call14 (ha2 (q0 rfl) (q0 rfl))) (fun w hw => find_w A n c xs id w (hx.mem hw) hs) rfl (fun _ => rfl) fun x => ?_
    refine xV (e_mv (q0 rfl)) rfl rfl ?_
    refine xV (e_ext (q0 rfl) rfl) rfl rfl ?_
    refine xV (e_ext (q0 rfl) rfl) rfl rfl ?_
    refine X_alloc Try.zeroValue27 rfl fun b9 => ?_
    refine X_st (v := .agg _) rfl rfl Try.sizeOf27 ?_
    refine xV (e_as (v := .bool _) (q0 rfl)) rfl rfl ?_
    refine XN ?_
    refine thenJ_normal ?_
    refine H_seq ?_
    refine R0 ?_
    refine xV (e_mv (v := .slice _ _ _) (q0 rfl)) rfl rfl ?_
    refine xV (e_mv (v := .int _ _) (q0 rfl)) rfl rfl ?_
    refine xCX (en Try.call15 (ha2 (q0 rfl) (q0 rfl))) (fun w hw => rfind_w A n c xs id w hx hw) rfl (fun _ => rfl) fun y => ?_
    obtain ⟨y, hy1, hy2⟩ := y
    have he : (⟨(findR (xs.map (·.r)) id).getD zRd, x⟩ : RX).r = y.r := hy1.symm
    refine xV (e_mv (q0 rfl)) rfl rfl ?_
    refine xV (e_ext (q0 rfl) rfl) rfl rfl ?_
    refine xV (e_ext (q0 rfl) rfl) rfl rfl ?_
    refine X_alloc Try.zeroValue27 rfl fun b11 => ?_
    refine X_st (v := .agg _) rfl rfl Try.sizeOf27 ?_
    refine xV (e_as (v := .bool _) (q0 rfl)) rfl rfl ?_
    refine XN ?_
    refine thenJ_normal ?_
    refine H_seq ?_
    refine R0 ?_
    refine xV (eS Try.isAgg27 Try.sizeOf27 (q0 rfl)) rfl rfl ?_
    refine xV (eS Try.isAgg27 Try.sizeOf27 (q0 rfl)) rfl rfl ?_
    refine xC (en Try.call16 (ha2 (q0 rfl) (q0 rfl))) (fun _ w hw => sameRideT he (part2_at hw 2 3 rfl rfl hgd) (hy2.mem hw)) rfl rfl ?_
    refine xV (e_mv (v := .bool _) (q0 rfl)) rfl rfl ?_
    refine xVT (e_mv (v := .bool _) (q0 rfl)) rfl rfl rfl rfl ?_
    refine xVT (e_mv (v := .bool _) (q0 rfl)) rfl rfl rfl rfl ?_
    refine xVT (e_eqb Try.underlying4 (q1 rfl) (q1 rfl)) rfl rfl rfl rfl ?_
    refine xV (e_and (q0 rfl) rfl (fun h => by first | rfl | (rw [h]; rfl))) rfl rfl ?_
    refine xV (e_mv (v := .bool _) (q0 rfl)) rfl rfl ?_
    refine xVT (e_mv (v := .slice _ _ _) (q0 rfl)) rfl rfl rfl rfl ?_
    refine xVT (e_mv (v := .int _ _) (q0 rfl)) rfl rfl rfl rfl ?_
    refine X_effG (Gd_true rfl rfl) (by first | rfl | decide | simp) (f_callx (en Try.call18 (ha2 (qk (v := .slice _ _ _) rfl (by first | rfl | decide | simp)) (qk (v := .int _ _) rfl (by first | rfl | decide | simp)))) (fun w hw => of_w A n c xs rider w (hx.mem hw) hs (by omega)) rfl (fun _ => rfl) fun o1 => ?_)
    refine xVT (e_mv (v := .slice _ _ _) (q0 rfl)) rfl rfl rfl rfl ?_
    refine xVT (e_mv (v := .int _ _) (q0 rfl)) rfl rfl rfl rfl ?_
    refine X_effG (Gd_true rfl rfl) (by first | rfl | decide | simp) (f_callx (en Try.call19 (ha2 (qk (v := .slice _ _ _) rfl (by first | rfl | decide | simp)) (qk (v := .int _ _) rfl (by first | rfl | decide | simp)))) (fun w hw => rof_w A n c xs rider w (hx.mem hw) (by omega)) rfl (fun _ => rfl) fun q1 => ?_)
    have e1 : o1.1.2.2.map (·.r) = (xs.filter fun x => decide (x.r.rider = rider)).map (·.r) := by rw [o1.2]; exact (filt_map (fun r => decide (r.rider = rider)) xs).symm
    refine xCT (en Try.call17 (ha2 (q0 (v := .slice _ _ _) rfl) (q0 (v := .slice _ _ _) rfl))) (fun _ w hw => sameT e1 (rds_new o1 hw 1 2 rfl rfl (hfl _) (hfs _)) (rds_filt _ hx hw 0 rfl (by omega))) rfl rfl rfl rfl ?_
    refine xV (e_and (q0 rfl) rfl (fun h => by first | rfl | (rw [h]; rfl))) rfl rfl ?_
    refine xV (e_mv (v := .bool _) (q0 rfl)) rfl rfl ?_
    refine xVT (e_mv (v := .slice _ _ _) (q0 rfl)) rfl rfl rfl rfl ?_
    refine xVT (e_mv (v := .int _ _) (q0 rfl)) rfl rfl rfl rfl ?_
    refine X_effG (Gd_true rfl rfl) (by first | rfl | decide | simp) (f_callx (en Try.call20 (ha2 (qk (v := .slice _ _ _) rfl (by first | rfl | decide | simp)) (qk (v := .int _ _) rfl (by first | rfl | decide | simp)))) (fun w hw => final_w A n c xs hor w (hx.mem hw) hs (by omega)) rfl (fun _ => rfl) fun o2 => ?_)
    refine xVT (e_mv (v := .slice _ _ _) (q0 rfl)) rfl rfl rfl rfl ?_
    refine xVT (e_mv (v := .int _ _) (q0 rfl)) rfl rfl rfl rfl ?_
    refine X_effG (Gd_true rfl rfl) (by first | rfl | decide | simp) (f_callx (en Try.call21 (ha2 (qk (v := .slice _ _ _) rfl (by first | rfl | decide | simp)) (qk (v := .int _ _) rfl (by first | rfl | decide | simp)))) (fun w hw => rfinal_w A n c xs hor w (hx.mem hw) (by omega)) rfl (fun _ => rfl) fun q2 => ?_)
    have e2 : o2.1.2.2.map (·.r) = (xs.filter fun x => finalP hor x.r).map (·.r) := by rw [o2.2]; exact (filt_map (finalP hor) xs).symm
    refine xCT (en Try.call17 (ha2 (q0 (v := .slice _ _ _) rfl) (q0 (v := .slice _ _ _) rfl))) (fun _ w hw => sameT e2 (rds_new o2 hw 1 2 rfl rfl (hfl _) (hfs _)) (rds_filt _ hx hw 0 rfl (by omega))) rfl rfl rfl rfl ?_
    refine xV (e_and (q0 rfl) rfl (fun h => by first | rfl | (rw [h]; rfl))) rfl rfl ?_
    refine xV (e_mv (v := .bool _) (q0 rfl)) rfl rfl ?_
    refine xCT (en Try.call10 (ha0)) (fun _ w _ => awake_w w) rfl rfl rfl rfl ?_
    refine xV (e_and (q0 rfl) rfl (fun h => by first | rfl | (rw [h]; rfl))) rfl rfl ?_
    refine xV (e_as (v := .bool _) (q0 rfl)) rfl rfl ?_
    refine XN ?_
    refine thenJ_normal ?_
    refine H_ret ?_
    exact ret1 (v := .bool _) rfl rfl rfl fun w' hw => ⟨ret_bool (by simp), hw.1⟩

end Go.Proofs.Rid
