import Derived.Test.YtakhechhnnjbcaaGreatNetEb
import Derived.Test.YtakhechhnnjbcaaGreatProg
import Derived.Test.YtakhechhnnjbcaaGreatNetOd
set_option linter.unusedVariables false
set_option linter.unusedSimpArgs false
/-
  The walks: a network that is nil; the law.
-/
namespace Go.Proofs.Nil
open Go Go.RowKit Go.Proofs.E

theorem fl42 {fs : Array Field} (h : Tryz.prog.underlying 42 = some (.struct fs) := by exact Tryz.underlying42) : FieldsLie Tryz.prog fs [(0, 1)] := by
  rw [Tryz.underlying42] at h
  cases h
  intro w
  kernel_rfl
theorem has_w (k : Int) (w : World) : Calls Tryz.prog 40 #[.pointer none, .int .i64 k] w fun e w' => e = .returned (.bool false) ∧ Bel w w' := by
  refine H_enter Tryz.func40 rfl Tryz.ntmps40 rfl ?_
  refine H_seq ?_
  refine R0 ?_
  refine xV (e_as (v := .bool _) (q0 rfl)) rfl rfl ?_
  refine XN ?_
  refine thenJ_normal ?_
  refine H_seq ?_
  refine R0 ?_
  refine xV (e_mv (v := .pointer _) (q0 rfl)) rfl rfl ?_
  refine xV (e_neNilP Tryz.underlying33 (q0 rfl)) rfl rfl ?_
  refine xV (e_mv (v := .bool _) (q0 rfl)) rfl rfl ?_
  refine xVT (e_dead (v := .int .i64 0) (rfl)) rfl rfl rfl rfl ?_
  refine xVT (e_dead (v := .bool false) (rfl)) rfl rfl rfl rfl ?_
  refine xV (e_and (q0 rfl) rfl (fun h => by first | rfl | (rw [h]; rfl))) rfl rfl ?_
  refine xV (e_mv (v := .bool _) (q0 rfl)) rfl rfl ?_
  refine xVT (e_dead (v := .int .i64 0) (rfl)) rfl rfl rfl rfl ?_
  refine xVT (e_dead (v := .pointer none) (rfl)) rfl rfl rfl rfl ?_
  refine xVT (e_dead (v := .pointer none) (rfl)) rfl rfl rfl rfl ?_
  refine xVT (e_dead (v := .pointer none) (rfl)) rfl rfl rfl rfl ?_
  refine xVT (e_dead (v := .slice none 0 0) (rfl)) rfl rfl rfl rfl ?_
  refine xVT (e_dead (v := .int .i64 0) (rfl)) rfl rfl rfl rfl ?_
  refine xVT (e_dead (v := .bool false) (rfl)) rfl rfl rfl rfl ?_
  refine xV (e_and (q0 rfl) rfl (fun h => by first | rfl | (rw [h]; rfl))) rfl rfl ?_
  refine xV (e_as (v := .bool _) (q0 rfl)) rfl rfl ?_
  refine XN ?_
  refine thenJ_normal ?_
  refine H_ret ?_
  exact ret1 (v := .bool _) rfl rfl rfl fun w' hw => ⟨rfl, hw.1⟩
theorem do_w (c0 c1 c2 c3 c4 c5 c6 c7 c8 c9 c10 c11 : Value) (w : World) : Calls Tryz.prog 18 #[.pointer none, .agg #[c0, c1, c2, c3, c4, c5, c6, c7, c8, c9, c10, c11]] w fun e w' => e = .returned (.tuple #[.int .i64 0, .int .i64 11]) ∧ Bel w w' := by
  refine H_enter Tryz.func18 rfl Tryz.ntmps18 rfl ?_
  refine H_seq ?_
  refine R0 ?_
  refine X_box (v := .agg _) rfl rfl fun b3 => ?_
  refine xV (e_as (v := .int _ _) (q0 rfl)) rfl rfl ?_
  refine xV (e_as (v := .int _ _) (q0 rfl)) rfl rfl ?_
  refine XN ?_
  refine thenJ_normal ?_
  refine H_seq ?_
  refine H_block ?_
  refine H_seq ?_
  refine R0 ?_
  refine xV (e_mv (v := .pointer _) (q0 rfl)) rfl rfl ?_
  refine xV (e_eqNilP Tryz.underlying33 (q0 rfl)) rfl rfl ?_
  refine xV (e_as (v := .bool _) (q0 rfl)) rfl rfl ?_
  refine XN ?_
  refine thenJ_normal ?_
  refine H_cond rfl (fun hn => ?_) (fun hn => ?_)
  · refine H_seq ?_
    refine R0 ?_
    refine xV (e_as (v := .int _ _) (q0 rfl)) rfl rfl ?_
    refine xV (e_as (v := .int _ _) (q0 rfl)) rfl rfl ?_
    refine XN ?_
    refine thenJ_normal ?_
    refine H_ret ?_
    refine blockJ_ret ?_
    refine thenJ_ret ?_
    exact ret2 (v := .int _ _) (x := .int _ _) rfl rfl rfl rfl fun w' hw => ⟨rfl, hw.1⟩
  · cases hn
theorem events_w (k : Int) (w : World) : Calls Tryz.prog 15 #[.pointer none, .int .i64 k] w fun e w' => e = .returned (.slice none 0 0) ∧ Bel w w' := by
  refine H_enter Tryz.func15 rfl Tryz.ntmps15 rfl ?_
  refine H_seq ?_
  refine R0 ?_
  refine xV (e_as (v := .slice _ _ _) (q0 rfl)) rfl rfl ?_
  refine XN ?_
  refine thenJ_normal ?_
  refine H_seq ?_
  refine H_seq ?_
  refine R0 ?_
  refine xV (e_mv (v := .pointer _) (q0 rfl)) rfl rfl ?_
  refine xV (e_mv (v := .int _ _) (q0 rfl)) rfl rfl ?_
  refine xC (en Tryz.call40 (ha2 (q0 rfl) (q0 rfl))) (fun _ w _ => has_w k w) rfl rfl ?_
  refine xV (e_not (q0 rfl)) rfl rfl ?_
  refine XN ?_
  refine thenJ_normal ?_
  refine H_cond rfl (fun hn => ?_) (fun hn => ?_)
  · refine H_seq ?_
    refine R0 ?_
    refine xV (e_as (v := .slice _ _ _) (q0 rfl)) rfl rfl ?_
    refine XN ?_
    refine thenJ_normal ?_
    refine H_ret ?_
    refine thenJ_ret ?_
    exact ret1 (v := .slice _ _ _) rfl rfl rfl fun w' hw => ⟨rfl, hw.1⟩
  · cases hn
theorem waiting_w (k : Int) (w : World) : Calls Tryz.prog 16 #[.pointer none, .int .i64 k] w fun e w' => e = .returned (.slice none 0 0) ∧ Bel w w' := by
  refine H_enter Tryz.func16 rfl Tryz.ntmps16 rfl ?_
  refine H_seq ?_
  refine R0 ?_
  refine xV (e_as (v := .slice _ _ _) (q0 rfl)) rfl rfl ?_
  refine XN ?_
  refine thenJ_normal ?_
  refine H_seq ?_
  refine H_seq ?_
  refine R0 ?_
  refine xV (e_mv (v := .pointer _) (q0 rfl)) rfl rfl ?_
  refine xV (e_mv (v := .int _ _) (q0 rfl)) rfl rfl ?_
  refine xC (en Tryz.call40 (ha2 (q0 rfl) (q0 rfl))) (fun _ w _ => has_w k w) rfl rfl ?_
  refine xV (e_not (q0 rfl)) rfl rfl ?_
  refine XN ?_
  refine thenJ_normal ?_
  refine H_cond rfl (fun hn => ?_) (fun hn => ?_)
  · refine H_seq ?_
    refine R0 ?_
    refine xV (e_as (v := .slice _ _ _) (q0 rfl)) rfl rfl ?_
    refine XN ?_
    refine thenJ_normal ?_
    refine H_ret ?_
    refine thenJ_ret ?_
    exact ret1 (v := .slice _ _ _) rfl rfl rfl fun w' hw => ⟨rfl, hw.1⟩
  · cases hn
theorem home_w (k : Int) (w : World) : Calls Tryz.prog 13 #[.pointer none, .int .i64 k] w fun e w' => e = .returned (.int .i64 0) ∧ Bel w w' := by
  refine H_enter Tryz.func13 rfl Tryz.ntmps13 rfl ?_
  refine H_seq ?_
  refine R0 ?_
  refine xV (e_as (v := .int _ _) (q0 rfl)) rfl rfl ?_
  refine XN ?_
  refine thenJ_normal ?_
  refine H_seq ?_
  refine H_seq ?_
  refine R0 ?_
  refine xV (e_mv (v := .pointer _) (q0 rfl)) rfl rfl ?_
  refine xV (e_eqNilP Tryz.underlying33 (q0 rfl)) rfl rfl ?_
  refine xV (e_mv (v := .bool _) (q0 rfl)) rfl rfl ?_
  refine xVF (e_mv (v := .int _ _) (q0 rfl)) rfl rfl rfl rfl ?_
  refine xVF (e_lt (q1 rfl) (q0 rfl)) rfl rfl rfl rfl ?_
  refine xV (e_or (q0 rfl) rfl (fun h => by first | rfl | (rw [h]; rfl))) rfl rfl ?_
  refine xV (e_mv (v := .bool _) (q0 rfl)) rfl rfl ?_
  refine xVF (e_mv (v := .int _ _) (q0 rfl)) rfl rfl rfl rfl ?_
  refine xVF (e_ge (q1 rfl) (q0 rfl)) rfl rfl rfl rfl ?_
  refine xV (e_or (q0 rfl) rfl (fun h => by first | rfl | (rw [h]; rfl))) rfl rfl ?_
  refine XN ?_
  refine thenJ_normal ?_
  refine H_cond rfl (fun hn => ?_) (fun hn => ?_)
  · refine H_seq ?_
    refine R0 ?_
    refine xV (e_as (v := .int _ _) (q0 rfl)) rfl rfl ?_
    refine XN ?_
    refine thenJ_normal ?_
    refine H_ret ?_
    refine thenJ_ret ?_
    exact ret1 (v := .int _ _) rfl rfl rfl fun w' hw => ⟨rfl, hw.1⟩
  · simp at hn
theorem bank_w (w : World) : Calls Tryz.prog 17 #[.pointer none] w fun e w' => e = .returned (.agg #[.slice none 0 0]) ∧ Bel w w' := by
  refine H_enter Tryz.func17 rfl Tryz.ntmps17 rfl ?_
  refine H_seq ?_
  refine R0 ?_
  refine X_alloc Tryz.zeroValue42 rfl fun b2 => ?_
  refine XN ?_
  refine thenJ_normal ?_
  refine H_seq ?_
  refine H_seq ?_
  refine R0 ?_
  refine xV (e_mv (v := .pointer _) (q0 rfl)) rfl rfl ?_
  refine xV (e_eqNilP Tryz.underlying33 (q0 rfl)) rfl rfl ?_
  refine XN ?_
  refine thenJ_normal ?_
  refine H_cond rfl (fun hn => ?_) (fun hn => ?_)
  · refine H_seq ?_
    refine R0 ?_
    refine xV (e_build Tryz.underlying42 fl42 Tryz.zeroValue42 E.p0 rfl) rfl rfl ?_
    refine X_st (v := .agg _) rfl rfl Tryz.sizeOf42 ?_
    refine XN ?_
    refine thenJ_normal ?_
    refine H_ret ?_
    refine thenJ_ret ?_
    exact ret_of rfl (resC rfl rfl Tryz.isAgg42 Tryz.sizeOf42) fun w' hw => ⟨rfl, hw.1⟩
  · cases hn
theorem settle_w (w : World) : Calls Tryz.prog 20 #[.pointer none] w fun e w' => e = .returned (.int .i64 0) ∧ Bel w w' := by
  refine H_enter Tryz.func20 rfl Tryz.ntmps20 rfl ?_
  refine H_seq ?_
  refine R0 ?_
  refine X_box (v := .pointer _) rfl rfl fun b1 => ?_
  refine xV (e_as (v := .int _ _) (q0 rfl)) rfl rfl ?_
  refine XN ?_
  refine thenJ_normal ?_
  refine H_seq ?_
  refine R0 ?_
  refine X_alloc Tryz.zeroValue3 rfl fun b3 => ?_
  refine X_st (v := .int _ _) rfl rfl Tryz.sizeOf3 ?_
  refine XN ?_
  refine thenJ_normal ?_
  refine H_seq ?_
  refine R0 ?_
  refine xV e_fn rfl rfl ?_
  refine xV (e_as (q0 rfl)) rfl rfl ?_
  refine XN ?_
  refine thenJ_normal ?_
  refine H_seq ?_
  refine H_seq ?_
  refine R0 ?_
  refine xV (eL Tryz.isAgg33 (q0 rfl)) rfl rfl ?_
  refine xV (e_eqNilP Tryz.underlying33 (q0 rfl)) rfl rfl ?_
  refine XN ?_
  refine thenJ_normal ?_
  refine H_cond rfl (fun hn => ?_) (fun hn => ?_)
  · refine H_seq ?_
    refine R0 ?_
    refine xV (e_as (v := .int _ _) (q0 rfl)) rfl rfl ?_
    refine XN ?_
    refine thenJ_normal ?_
    refine H_ret ?_
    refine thenJ_ret ?_
    exact ret1 (v := .int _ _) rfl rfl rfl fun w' hw => ⟨rfl, hw.1⟩
  · cases hn
theorem copy_w (w : World) : Calls Tryz.prog 31 #[.pointer none] w fun e w' => e = .returned (.pointer none) ∧ Bel w w' := by
  refine H_enter Tryz.func31 rfl Tryz.ntmps31 rfl ?_
  refine H_seq ?_
  refine R0 ?_
  refine xV (e_as (v := .pointer _) (q0 rfl)) rfl rfl ?_
  refine XN ?_
  refine thenJ_normal ?_
  refine H_seq ?_
  refine H_seq ?_
  refine R0 ?_
  refine xV (e_mv (v := .pointer _) (q0 rfl)) rfl rfl ?_
  refine xV (e_eqNilP Tryz.underlying33 (q0 rfl)) rfl rfl ?_
  refine XN ?_
  refine thenJ_normal ?_
  refine H_cond rfl (fun hn => ?_) (fun hn => ?_)
  · refine H_seq ?_
    refine R0 ?_
    refine xV (e_as (v := .pointer _) (q0 rfl)) rfl rfl ?_
    refine XN ?_
    refine thenJ_normal ?_
    refine H_ret ?_
    refine thenJ_ret ?_
    exact ret1 (v := .pointer _) rfl rfl rfl fun w' hw => ⟨rfl, hw.1⟩
  · cases hn
theorem nilLaw_w (c0 c1 c2 c3 c4 c5 c6 c7 c8 c9 c10 c11 : Value) (k : Int) (w : World) : Calls Tryz.prog 8 #[.agg #[c0, c1, c2, c3, c4, c5, c6, c7, c8, c9, c10, c11], .int .i64 k] w fun e w' => e = .returned (.bool true) ∧ Bel w w' := by
  refine H_enter Tryz.func8 rfl Tryz.ntmps8 rfl ?_
  refine H_seq ?_
  refine R0 ?_
  refine X_box (v := .agg _) rfl rfl fun b2 => ?_
  refine xV (e_as (v := .bool _) (q0 rfl)) rfl rfl ?_
  refine XN ?_
  refine thenJ_normal ?_
  refine H_seq ?_
  refine R0 ?_
  refine xV (e_as (v := .pointer _) (q0 rfl)) rfl rfl ?_
  refine XN ?_
  refine thenJ_normal ?_
  refine H_seq ?_
  refine R0 ?_
  refine xV (e_mv (v := .pointer _) (q0 rfl)) rfl rfl ?_
  refine xV (eS Tryz.isAgg60 Tryz.sizeOf60 (q0 rfl)) rfl rfl ?_
  refine xC (en Tryz.call18 (ha2 (q0 rfl) (q0 rfl))) (fun _ w _ => do_w c0 c1 c2 c3 c4 c5 c6 c7 c8 c9 c10 c11 w) rfl rfl ?_
  refine xV (e_mv (q0 rfl)) rfl rfl ?_
  refine xV (e_ext (q0 rfl) rfl) rfl rfl ?_
  refine xV (e_ext (q0 rfl) rfl) rfl rfl ?_
  refine xV (e_as (v := .int _ _) (q0 rfl)) rfl rfl ?_
  refine xV (e_as (v := .int _ _) (q0 rfl)) rfl rfl ?_
  refine XN ?_
  refine thenJ_normal ?_
  refine H_seq ?_
  refine R0 ?_
  refine xV (e_mv (v := .int _ _) (q0 rfl)) rfl rfl ?_
  refine xV (e_eq (q0 rfl) (q0 rfl)) rfl rfl ?_
  refine xV (e_mv (v := .bool _) (q0 rfl)) rfl rfl ?_
  refine xVT (e_mv (v := .int _ _) (q0 rfl)) rfl rfl rfl rfl ?_
  refine xVT (e_eq (q1 rfl) (q0 rfl)) rfl rfl rfl rfl ?_
  refine xV (e_and (q0 rfl) rfl (fun h => by first | rfl | (rw [h]; rfl))) rfl rfl ?_
  refine xV (e_mv (v := .bool _) (q0 rfl)) rfl rfl ?_
  refine xVT (e_mv (v := .pointer _) (q0 rfl)) rfl rfl rfl rfl ?_
  refine xVT (e_mv (v := .int _ _) (q0 rfl)) rfl rfl rfl rfl ?_
  refine xCT (en Tryz.call15 (ha2 (q1 (v := .pointer _) rfl) (q1 (v := .int _ _) rfl))) (fun _ w _ => events_w k w) rfl rfl rfl rfl ?_
  refine xVT (e_len Tryz.underlying49 (q1 rfl)) rfl rfl rfl rfl ?_
  refine xVT (e_eq (q1 rfl) (q0 rfl)) rfl rfl rfl rfl ?_
  refine xV (e_and (q0 rfl) rfl (fun h => by first | rfl | (rw [h]; rfl))) rfl rfl ?_
  refine xV (e_mv (v := .bool _) (q0 rfl)) rfl rfl ?_
  refine xVT (e_mv (v := .pointer _) (q0 rfl)) rfl rfl rfl rfl ?_
  refine xVT (e_mv (v := .int _ _) (q0 rfl)) rfl rfl rfl rfl ?_
  refine xCT (en Tryz.call13 (ha2 (q1 (v := .pointer _) rfl) (q1 (v := .int _ _) rfl))) (fun _ w _ => home_w k w) rfl rfl rfl rfl ?_
  refine xVT (e_eq (q1 rfl) (q0 rfl)) rfl rfl rfl rfl ?_
  refine xV (e_and (q0 rfl) rfl (fun h => by first | rfl | (rw [h]; rfl))) rfl rfl ?_
  refine xV (e_mv (v := .bool _) (q0 rfl)) rfl rfl ?_
  refine xVT (e_mv (v := .pointer _) (q0 rfl)) rfl rfl rfl rfl ?_
  refine xCT (en Tryz.call17 (ha1 (q1 (v := .pointer _) rfl))) (fun _ w _ => bank_w w) rfl rfl rfl rfl ?_
  refine xVT (e_fv Tryz.underlying42 rfl Tryz.isAgg40 (q1 rfl) rfl) rfl rfl rfl rfl ?_
  refine xVT (e_len Tryz.underlying40 (q1 rfl)) rfl rfl rfl rfl ?_
  refine xVT (e_eq (q1 rfl) (q0 rfl)) rfl rfl rfl rfl ?_
  refine xV (e_and (q0 rfl) rfl (fun h => by first | rfl | (rw [h]; rfl))) rfl rfl ?_
  refine xV (e_mv (v := .bool _) (q0 rfl)) rfl rfl ?_
  refine xVT (e_mv (v := .pointer _) (q0 rfl)) rfl rfl rfl rfl ?_
  refine xVT (e_mv (v := .int _ _) (q0 rfl)) rfl rfl rfl rfl ?_
  refine xCT (en Tryz.call16 (ha2 (q1 (v := .pointer _) rfl) (q1 (v := .int _ _) rfl))) (fun _ w _ => waiting_w k w) rfl rfl rfl rfl ?_
  refine xVT (e_len Tryz.underlying40 (q1 rfl)) rfl rfl rfl rfl ?_
  refine xVT (e_eq (q1 rfl) (q0 rfl)) rfl rfl rfl rfl ?_
  refine xV (e_and (q0 rfl) rfl (fun h => by first | rfl | (rw [h]; rfl))) rfl rfl ?_
  refine xV (e_mv (v := .bool _) (q0 rfl)) rfl rfl ?_
  refine xVT (e_mv (v := .pointer _) (q0 rfl)) rfl rfl rfl rfl ?_
  refine xCT (en Tryz.call20 (ha1 (q1 (v := .pointer _) rfl))) (fun _ w _ => settle_w w) rfl rfl rfl rfl ?_
  refine xVT (e_eq (q1 rfl) (q0 rfl)) rfl rfl rfl rfl ?_
  refine xV (e_and (q0 rfl) rfl (fun h => by first | rfl | (rw [h]; rfl))) rfl rfl ?_
  refine xV (e_mv (v := .bool _) (q0 rfl)) rfl rfl ?_
  refine xVT (e_mv (v := .pointer _) (q0 rfl)) rfl rfl rfl rfl ?_
  refine xCT (en Tryz.call31 (ha1 (q1 (v := .pointer _) rfl))) (fun _ w _ => copy_w w) rfl rfl rfl rfl ?_
  refine xVT (e_eqNilP Tryz.underlying33 (q1 rfl)) rfl rfl rfl rfl ?_
  refine xV (e_and (q0 rfl) rfl (fun h => by first | rfl | (rw [h]; rfl))) rfl rfl ?_
  refine xV (e_mv (v := .bool _) (q0 rfl)) rfl rfl ?_
  refine xCT (en Tryz.call10 (ha0)) (fun _ w _ => Go.Proofs.O.awake_w w) rfl rfl rfl rfl ?_
  refine xV (e_and (q0 rfl) rfl (fun h => by first | rfl | (rw [h]; rfl))) rfl rfl ?_
  refine xV (e_as (v := .bool _) (q0 rfl)) rfl rfl ?_
  refine XN ?_
  refine thenJ_normal ?_
  refine H_ret ?_
  exact ret1 (v := .bool _) rfl rfl rfl fun w' hw => ⟨rfl, hw.1⟩
end Go.Proofs.Nil
