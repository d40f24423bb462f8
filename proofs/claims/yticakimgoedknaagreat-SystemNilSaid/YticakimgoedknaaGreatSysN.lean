import Derived.Test.YticakimgoedknaaGreatSysEb
import Derived.Test.YticakimgoedknaaGreatProg
import Derived.Test.YticakimgoedknaaGreatSysL
set_option linter.unusedVariables false
set_option linter.unusedSimpArgs false
/-
  The walks: a system that is nil; two zero books compared; the law.
-/
namespace Go.Proofs.Nil
open Go Go.RowKit Go.Proofs.E

theorem fl76 {fs : Array Field} (h : Tryz.prog.underlying 76 = some (.struct fs) := by exact Tryz.underlying76) : FieldsLie Tryz.prog fs [(0, 26), (26, 1), (27, 1), (28, 1), (29, 1), (30, 1), (31, 1), (32, 1), (33, 1), (34, 1), (35, 1), (36, 1)] := by
  rw [Tryz.underlying76] at h
  cases h
  intro w
  kernel_rfl
theorem fl70 {fs : Array Field} (h : Tryz.prog.underlying 70 = some (.struct fs) := by exact Tryz.underlying70) : FieldsLie Tryz.prog fs [(0, 1)] := by
  rw [Tryz.underlying70] at h
  cases h
  intro w
  kernel_rfl
theorem fl42 {fs : Array Field} (h : Tryz.prog.underlying 42 = some (.struct fs) := by exact Tryz.underlying42) : FieldsLie Tryz.prog fs [(0, 5), (5, 7), (12, 5), (17, 1), (18, 1), (19, 1), (20, 1), (21, 1), (22, 1), (23, 1), (24, 2)] := by
  rw [Tryz.underlying42] at h
  cases h
  intro w
  kernel_rfl
def zB : List Value := [.int .i64 0, .int .i64 0, .int .i64 0, .slice none 0 0, .slice none 0 0, .slice none 0 0, .slice none 0 0, .slice none 0 0, .slice none 0 0, .int .i64 0, .slice none 0 0, .int .i64 0, .int .i64 0, .slice none 0 0, .slice none 0 0, .slice none 0 0, .int .i64 0, .slice none 0 0, .int .i64 0, .slice none 0 0, .int .i64 0, .int .i64 0, .int .i64 0, .int .i64 0, .int .u64 0, .int .u64 0, .int .i64 0, .slice none 0 0, .slice none 0 0, .slice none 0 0, .slice none 0 0, .slice none 0 0, .slice none 0 0, .slice none 0 0, .slice none 0 0, .slice none 0 0, .slice none 0 0]
theorem se_w (w : World) : Calls Tryz.prog 42 #[.slice none 0 0, .slice none 0 0] w fun e w' => e = .returned (.bool true) ∧ Bel w w' := by
  refine H_enter Tryz.func42 rfl Tryz.ntmps42 rfl ?_
  refine H_seq ?_
  refine R0 ?_
  refine xV (e_as (v := .bool _) (q0 rfl)) rfl rfl ?_
  refine XN ?_
  refine thenJ_normal ?_
  refine H_seq ?_
  refine H_seq ?_
  refine R0 ?_
  refine xV (e_mv (v := .slice _ _ _) (q0 rfl)) rfl rfl ?_
  refine xV (e_len Tryz.underlying63 (q0 rfl)) rfl rfl ?_
  refine xV (e_mv (v := .slice _ _ _) (q0 rfl)) rfl rfl ?_
  refine xV (e_len Tryz.underlying63 (q0 rfl)) rfl rfl ?_
  refine xV (e_ne (q0 rfl) (q0 rfl)) rfl rfl ?_
  refine XN ?_
  refine thenJ_normal ?_
  refine H_cond rfl (fun h1 => ?_) (fun h1 => ?_)
  · simp at h1
  · refine H_skip ?_
    refine thenJ_normal ?_
    refine H_seq ?_
    refine H_seq ?_
    refine R0 ?_
    refine xV (e_as (v := .int _ _) (q0 rfl)) rfl rfl ?_
    refine XN ?_
    refine thenJ_normal ?_
    refine H_block ?_
    refine H_loop [4, 5, 11, 12, 13, 14, 15, 16, 17, 18, 19, 20, 21, 22, 23, 24, 25] (fun _ : Nat => [(5, .int .i64 0)]) (fun _ => []) (fun _ => True) (fun _ => 0) 0 ⟨rfl, trivial⟩ (fun w hw => hw) rfl trivial ?_
    rintro k g _
    refine H_seq ?_
    refine H_seq ?_
    refine R0 ?_
    refine xV (e_mv (v := .int _ _) (q0 rfl)) rfl rfl ?_
    refine xV (e_mv (v := .slice _ _ _) (q0 rfl)) rfl rfl ?_
    refine xV (e_len Tryz.underlying63 (q0 rfl)) rfl rfl ?_
    refine xV (e_lt (q0 rfl) (q0 rfl)) rfl rfl ?_
    refine XN ?_
    refine thenJ_normal ?_
    refine H_cond rfl (fun hlt => ?_) (fun hlt => ?_)
    · simp at hlt
    · refine H_exit ?_
      refine thenJ_exit ?_
      refine loopJ_exit ?_
      refine blockJ_hit ?_
      refine thenJ_normal ?_
      refine H_seq ?_
      refine R0 ?_
      refine xV (e_as (v := .bool _) (q0 rfl)) rfl rfl ?_
      refine XN ?_
      refine thenJ_normal ?_
      refine H_ret ?_
      exact ret1 (v := .bool _) rfl rfl rfl fun w' hw => ⟨rfl, hw.1⟩
theorem ss_w (w : World) : Calls Tryz.prog 43 #[.slice none 0 0, .slice none 0 0] w fun e w' => e = .returned (.bool true) ∧ Bel w w' := by
  refine H_enter Tryz.func43 rfl Tryz.ntmps43 rfl ?_
  refine H_seq ?_
  refine R0 ?_
  refine xV (e_as (v := .bool _) (q0 rfl)) rfl rfl ?_
  refine XN ?_
  refine thenJ_normal ?_
  refine H_seq ?_
  refine H_seq ?_
  refine R0 ?_
  refine xV (e_mv (v := .slice _ _ _) (q0 rfl)) rfl rfl ?_
  refine xV (e_len Tryz.underlying64 (q0 rfl)) rfl rfl ?_
  refine xV (e_mv (v := .slice _ _ _) (q0 rfl)) rfl rfl ?_
  refine xV (e_len Tryz.underlying64 (q0 rfl)) rfl rfl ?_
  refine xV (e_ne (q0 rfl) (q0 rfl)) rfl rfl ?_
  refine XN ?_
  refine thenJ_normal ?_
  refine H_cond rfl (fun h1 => ?_) (fun h1 => ?_)
  · simp at h1
  · refine H_skip ?_
    refine thenJ_normal ?_
    refine H_seq ?_
    refine H_seq ?_
    refine R0 ?_
    refine xV (e_as (v := .int _ _) (q0 rfl)) rfl rfl ?_
    refine XN ?_
    refine thenJ_normal ?_
    refine H_block ?_
    refine H_loop [4, 5, 11, 12, 13, 14, 15, 16, 17, 18, 19, 20, 21, 22, 23, 24, 25] (fun _ : Nat => [(5, .int .i64 0)]) (fun _ => []) (fun _ => True) (fun _ => 0) 0 ⟨rfl, trivial⟩ (fun w hw => hw) rfl trivial ?_
    rintro k g _
    refine H_seq ?_
    refine H_seq ?_
    refine R0 ?_
    refine xV (e_mv (v := .int _ _) (q0 rfl)) rfl rfl ?_
    refine xV (e_mv (v := .slice _ _ _) (q0 rfl)) rfl rfl ?_
    refine xV (e_len Tryz.underlying64 (q0 rfl)) rfl rfl ?_
    refine xV (e_lt (q0 rfl) (q0 rfl)) rfl rfl ?_
    refine XN ?_
    refine thenJ_normal ?_
    refine H_cond rfl (fun hlt => ?_) (fun hlt => ?_)
    · simp at hlt
    · refine H_exit ?_
      refine thenJ_exit ?_
      refine loopJ_exit ?_
      refine blockJ_hit ?_
      refine thenJ_normal ?_
      refine H_seq ?_
      refine R0 ?_
      refine xV (e_as (v := .bool _) (q0 rfl)) rfl rfl ?_
      refine XN ?_
      refine thenJ_normal ?_
      refine H_ret ?_
      exact ret1 (v := .bool _) rfl rfl rfl fun w' hw => ⟨rfl, hw.1⟩
theorem sr_w (w : World) : Calls Tryz.prog 44 #[.slice none 0 0, .slice none 0 0] w fun e w' => e = .returned (.bool true) ∧ Bel w w' := by
  refine H_enter Tryz.func44 rfl Tryz.ntmps44 rfl ?_
  refine H_seq ?_
  refine R0 ?_
  refine xV (e_as (v := .bool _) (q0 rfl)) rfl rfl ?_
  refine XN ?_
  refine thenJ_normal ?_
  refine H_seq ?_
  refine H_seq ?_
  refine R0 ?_
  refine xV (e_mv (v := .slice _ _ _) (q0 rfl)) rfl rfl ?_
  refine xV (e_len Tryz.underlying65 (q0 rfl)) rfl rfl ?_
  refine xV (e_mv (v := .slice _ _ _) (q0 rfl)) rfl rfl ?_
  refine xV (e_len Tryz.underlying65 (q0 rfl)) rfl rfl ?_
  refine xV (e_ne (q0 rfl) (q0 rfl)) rfl rfl ?_
  refine XN ?_
  refine thenJ_normal ?_
  refine H_cond rfl (fun h1 => ?_) (fun h1 => ?_)
  · simp at h1
  · refine H_skip ?_
    refine thenJ_normal ?_
    refine H_seq ?_
    refine H_seq ?_
    refine R0 ?_
    refine xV (e_as (v := .int _ _) (q0 rfl)) rfl rfl ?_
    refine XN ?_
    refine thenJ_normal ?_
    refine H_block ?_
    refine H_loop [4, 5, 11, 12, 13, 14, 15, 16, 17, 18, 19, 20, 21, 22, 23, 24, 25, 26] (fun _ : Nat => [(5, .int .i64 0)]) (fun _ => []) (fun _ => True) (fun _ => 0) 0 ⟨rfl, trivial⟩ (fun w hw => hw) rfl trivial ?_
    rintro k g _
    refine H_seq ?_
    refine H_seq ?_
    refine R0 ?_
    refine xV (e_mv (v := .int _ _) (q0 rfl)) rfl rfl ?_
    refine xV (e_mv (v := .slice _ _ _) (q0 rfl)) rfl rfl ?_
    refine xV (e_len Tryz.underlying65 (q0 rfl)) rfl rfl ?_
    refine xV (e_lt (q0 rfl) (q0 rfl)) rfl rfl ?_
    refine XN ?_
    refine thenJ_normal ?_
    refine H_cond rfl (fun hlt => ?_) (fun hlt => ?_)
    · simp at hlt
    · refine H_exit ?_
      refine thenJ_exit ?_
      refine loopJ_exit ?_
      refine blockJ_hit ?_
      refine thenJ_normal ?_
      refine H_seq ?_
      refine R0 ?_
      refine xV (e_as (v := .bool _) (q0 rfl)) rfl rfl ?_
      refine XN ?_
      refine thenJ_normal ?_
      refine H_ret ?_
      exact ret1 (v := .bool _) rfl rfl rfl fun w' hw => ⟨rfl, hw.1⟩
theorem sf_w (w : World) : Calls Tryz.prog 45 #[.slice none 0 0, .slice none 0 0] w fun e w' => e = .returned (.bool true) ∧ Bel w w' := by
  refine H_enter Tryz.func45 rfl Tryz.ntmps45 rfl ?_
  refine H_seq ?_
  refine R0 ?_
  refine xV (e_as (v := .bool _) (q0 rfl)) rfl rfl ?_
  refine XN ?_
  refine thenJ_normal ?_
  refine H_seq ?_
  refine H_seq ?_
  refine R0 ?_
  refine xV (e_mv (v := .slice _ _ _) (q0 rfl)) rfl rfl ?_
  refine xV (e_len Tryz.underlying67 (q0 rfl)) rfl rfl ?_
  refine xV (e_mv (v := .slice _ _ _) (q0 rfl)) rfl rfl ?_
  refine xV (e_len Tryz.underlying67 (q0 rfl)) rfl rfl ?_
  refine xV (e_ne (q0 rfl) (q0 rfl)) rfl rfl ?_
  refine XN ?_
  refine thenJ_normal ?_
  refine H_cond rfl (fun h1 => ?_) (fun h1 => ?_)
  · simp at h1
  · refine H_skip ?_
    refine thenJ_normal ?_
    refine H_seq ?_
    refine H_seq ?_
    refine R0 ?_
    refine xV (e_as (v := .int _ _) (q0 rfl)) rfl rfl ?_
    refine XN ?_
    refine thenJ_normal ?_
    refine H_block ?_
    refine H_loop [4, 5, 11, 12, 13, 14, 15, 16, 17, 18, 19, 20, 21, 22, 23, 24, 25, 26] (fun _ : Nat => [(5, .int .i64 0)]) (fun _ => []) (fun _ => True) (fun _ => 0) 0 ⟨rfl, trivial⟩ (fun w hw => hw) rfl trivial ?_
    rintro k g _
    refine H_seq ?_
    refine H_seq ?_
    refine R0 ?_
    refine xV (e_mv (v := .int _ _) (q0 rfl)) rfl rfl ?_
    refine xV (e_mv (v := .slice _ _ _) (q0 rfl)) rfl rfl ?_
    refine xV (e_len Tryz.underlying67 (q0 rfl)) rfl rfl ?_
    refine xV (e_lt (q0 rfl) (q0 rfl)) rfl rfl ?_
    refine XN ?_
    refine thenJ_normal ?_
    refine H_cond rfl (fun hlt => ?_) (fun hlt => ?_)
    · simp at hlt
    · refine H_exit ?_
      refine thenJ_exit ?_
      refine loopJ_exit ?_
      refine blockJ_hit ?_
      refine thenJ_normal ?_
      refine H_seq ?_
      refine R0 ?_
      refine xV (e_as (v := .bool _) (q0 rfl)) rfl rfl ?_
      refine XN ?_
      refine thenJ_normal ?_
      refine H_ret ?_
      exact ret1 (v := .bool _) rfl rfl rfl fun w' hw => ⟨rfl, hw.1⟩
theorem sp_w (w : World) : Calls Tryz.prog 46 #[.slice none 0 0, .slice none 0 0] w fun e w' => e = .returned (.bool true) ∧ Bel w w' := by
  refine H_enter Tryz.func46 rfl Tryz.ntmps46 rfl ?_
  refine H_seq ?_
  refine R0 ?_
  refine xV (e_as (v := .bool _) (q0 rfl)) rfl rfl ?_
  refine XN ?_
  refine thenJ_normal ?_
  refine H_seq ?_
  refine H_seq ?_
  refine R0 ?_
  refine xV (e_mv (v := .slice _ _ _) (q0 rfl)) rfl rfl ?_
  refine xV (e_len Tryz.underlying68 (q0 rfl)) rfl rfl ?_
  refine xV (e_mv (v := .slice _ _ _) (q0 rfl)) rfl rfl ?_
  refine xV (e_len Tryz.underlying68 (q0 rfl)) rfl rfl ?_
  refine xV (e_ne (q0 rfl) (q0 rfl)) rfl rfl ?_
  refine XN ?_
  refine thenJ_normal ?_
  refine H_cond rfl (fun h1 => ?_) (fun h1 => ?_)
  · simp at h1
  · refine H_skip ?_
    refine thenJ_normal ?_
    refine H_seq ?_
    refine H_seq ?_
    refine R0 ?_
    refine xV (e_as (v := .int _ _) (q0 rfl)) rfl rfl ?_
    refine XN ?_
    refine thenJ_normal ?_
    refine H_block ?_
    refine H_loop [4, 5, 11, 12, 13, 14, 15, 16, 17, 18, 19, 20, 21, 22, 23, 24, 25] (fun _ : Nat => [(5, .int .i64 0)]) (fun _ => []) (fun _ => True) (fun _ => 0) 0 ⟨rfl, trivial⟩ (fun w hw => hw) rfl trivial ?_
    rintro k g _
    refine H_seq ?_
    refine H_seq ?_
    refine R0 ?_
    refine xV (e_mv (v := .int _ _) (q0 rfl)) rfl rfl ?_
    refine xV (e_mv (v := .slice _ _ _) (q0 rfl)) rfl rfl ?_
    refine xV (e_len Tryz.underlying68 (q0 rfl)) rfl rfl ?_
    refine xV (e_lt (q0 rfl) (q0 rfl)) rfl rfl ?_
    refine XN ?_
    refine thenJ_normal ?_
    refine H_cond rfl (fun hlt => ?_) (fun hlt => ?_)
    · simp at hlt
    · refine H_exit ?_
      refine thenJ_exit ?_
      refine loopJ_exit ?_
      refine blockJ_hit ?_
      refine thenJ_normal ?_
      refine H_seq ?_
      refine R0 ?_
      refine xV (e_as (v := .bool _) (q0 rfl)) rfl rfl ?_
      refine XN ?_
      refine thenJ_normal ?_
      refine H_ret ?_
      exact ret1 (v := .bool _) rfl rfl rfl fun w' hw => ⟨rfl, hw.1⟩
theorem sl_w (w : World) : Calls Tryz.prog 48 #[.slice none 0 0, .slice none 0 0] w fun e w' => e = .returned (.bool true) ∧ Bel w w' := by
  refine H_enter Tryz.func48 rfl Tryz.ntmps48 rfl ?_
  refine H_seq ?_
  refine R0 ?_
  refine xV (e_as (v := .bool _) (q0 rfl)) rfl rfl ?_
  refine XN ?_
  refine thenJ_normal ?_
  refine H_seq ?_
  refine H_seq ?_
  refine R0 ?_
  refine xV (e_mv (v := .slice _ _ _) (q0 rfl)) rfl rfl ?_
  refine xV (e_len Tryz.underlying72 (q0 rfl)) rfl rfl ?_
  refine xV (e_mv (v := .slice _ _ _) (q0 rfl)) rfl rfl ?_
  refine xV (e_len Tryz.underlying72 (q0 rfl)) rfl rfl ?_
  refine xV (e_ne (q0 rfl) (q0 rfl)) rfl rfl ?_
  refine XN ?_
  refine thenJ_normal ?_
  refine H_cond rfl (fun h1 => ?_) (fun h1 => ?_)
  · simp at h1
  · refine H_skip ?_
    refine thenJ_normal ?_
    refine H_seq ?_
    refine H_seq ?_
    refine R0 ?_
    refine xV (e_as (v := .int _ _) (q0 rfl)) rfl rfl ?_
    refine XN ?_
    refine thenJ_normal ?_
    refine H_block ?_
    refine H_loop [4, 5, 11, 12, 13, 14, 15, 16, 17, 18, 19, 20, 21, 22, 23, 24, 25, 26] (fun _ : Nat => [(5, .int .i64 0)]) (fun _ => []) (fun _ => True) (fun _ => 0) 0 ⟨rfl, trivial⟩ (fun w hw => hw) rfl trivial ?_
    rintro k g _
    refine H_seq ?_
    refine H_seq ?_
    refine R0 ?_
    refine xV (e_mv (v := .int _ _) (q0 rfl)) rfl rfl ?_
    refine xV (e_mv (v := .slice _ _ _) (q0 rfl)) rfl rfl ?_
    refine xV (e_len Tryz.underlying72 (q0 rfl)) rfl rfl ?_
    refine xV (e_lt (q0 rfl) (q0 rfl)) rfl rfl ?_
    refine XN ?_
    refine thenJ_normal ?_
    refine H_cond rfl (fun hlt => ?_) (fun hlt => ?_)
    · simp at hlt
    · refine H_exit ?_
      refine thenJ_exit ?_
      refine loopJ_exit ?_
      refine blockJ_hit ?_
      refine thenJ_normal ?_
      refine H_seq ?_
      refine R0 ?_
      refine xV (e_as (v := .bool _) (q0 rfl)) rfl rfl ?_
      refine XN ?_
      refine thenJ_normal ?_
      refine H_ret ?_
      exact ret1 (v := .bool _) rfl rfl rfl fun w' hw => ⟨rfl, hw.1⟩
theorem sn_w (w : World) : Calls Tryz.prog 49 #[.slice none 0 0, .slice none 0 0] w fun e w' => e = .returned (.bool true) ∧ Bel w w' := by
  refine H_enter Tryz.func49 rfl Tryz.ntmps49 rfl ?_
  refine H_seq ?_
  refine R0 ?_
  refine xV (e_as (v := .bool _) (q0 rfl)) rfl rfl ?_
  refine XN ?_
  refine thenJ_normal ?_
  refine H_seq ?_
  refine H_seq ?_
  refine R0 ?_
  refine xV (e_mv (v := .slice _ _ _) (q0 rfl)) rfl rfl ?_
  refine xV (e_len Tryz.underlying74 (q0 rfl)) rfl rfl ?_
  refine xV (e_mv (v := .slice _ _ _) (q0 rfl)) rfl rfl ?_
  refine xV (e_len Tryz.underlying74 (q0 rfl)) rfl rfl ?_
  refine xV (e_ne (q0 rfl) (q0 rfl)) rfl rfl ?_
  refine XN ?_
  refine thenJ_normal ?_
  refine H_cond rfl (fun h1 => ?_) (fun h1 => ?_)
  · simp at h1
  · refine H_skip ?_
    refine thenJ_normal ?_
    refine H_seq ?_
    refine H_seq ?_
    refine R0 ?_
    refine xV (e_as (v := .int _ _) (q0 rfl)) rfl rfl ?_
    refine XN ?_
    refine thenJ_normal ?_
    refine H_block ?_
    refine H_loop [4, 5, 11, 12, 13, 14, 15, 16, 17, 18, 19, 20, 21, 22, 23, 24, 25, 26] (fun _ : Nat => [(5, .int .i64 0)]) (fun _ => []) (fun _ => True) (fun _ => 0) 0 ⟨rfl, trivial⟩ (fun w hw => hw) rfl trivial ?_
    rintro k g _
    refine H_seq ?_
    refine H_seq ?_
    refine R0 ?_
    refine xV (e_mv (v := .int _ _) (q0 rfl)) rfl rfl ?_
    refine xV (e_mv (v := .slice _ _ _) (q0 rfl)) rfl rfl ?_
    refine xV (e_len Tryz.underlying74 (q0 rfl)) rfl rfl ?_
    refine xV (e_lt (q0 rfl) (q0 rfl)) rfl rfl ?_
    refine XN ?_
    refine thenJ_normal ?_
    refine H_cond rfl (fun hlt => ?_) (fun hlt => ?_)
    · simp at hlt
    · refine H_exit ?_
      refine thenJ_exit ?_
      refine loopJ_exit ?_
      refine blockJ_hit ?_
      refine thenJ_normal ?_
      refine H_seq ?_
      refine R0 ?_
      refine xV (e_as (v := .bool _) (q0 rfl)) rfl rfl ?_
      refine XN ?_
      refine thenJ_normal ?_
      refine H_ret ?_
      exact ret1 (v := .bool _) rfl rfl rfl fun w' hw => ⟨rfl, hw.1⟩
theorem so_w (w : World) : Calls Tryz.prog 47 #[.agg zB.toArray, .agg zB.toArray] w fun e w' => e = .returned (.bool true) ∧ Bel w w' := by
  refine H_enter Tryz.func47 rfl Tryz.ntmps47 rfl ?_
  refine H_seq ?_
  refine R0 ?_
  refine X_box (v := .agg _) rfl rfl fun b2 => ?_
  refine X_box (v := .agg _) rfl rfl fun b3 => ?_
  refine xV (e_as (v := .bool _) (q0 rfl)) rfl rfl ?_
  refine XN ?_
  refine thenJ_normal ?_
  refine H_seq ?_
  refine H_seq ?_
  refine R0 ?_
  refine xV (e_fld Tryz.underlying76 rfl Tryz.sizeOf66 rfl (q0 rfl)) rfl rfl ?_
  refine xV (eL Tryz.isAgg66 (q0 rfl)) rfl rfl ?_
  refine xV (e_len Tryz.underlying66 (q0 rfl)) rfl rfl ?_
  refine xV (e_fld Tryz.underlying76 rfl Tryz.sizeOf66 rfl (q0 rfl)) rfl rfl ?_
  refine xV (eL Tryz.isAgg66 (q0 rfl)) rfl rfl ?_
  refine xV (e_len Tryz.underlying66 (q0 rfl)) rfl rfl ?_
  refine xV (e_ne (q0 rfl) (q0 rfl)) rfl rfl ?_
  refine xV (e_mv (v := .bool _) (q0 rfl)) rfl rfl ?_
  refine xVF (e_fld Tryz.underlying76 rfl Tryz.sizeOf71 rfl (q0 rfl)) rfl rfl rfl rfl ?_
  refine xVF (eL Tryz.isAgg71 (q1 rfl)) rfl rfl rfl rfl ?_
  refine xVF (e_len Tryz.underlying71 (q1 rfl)) rfl rfl rfl rfl ?_
  refine xVF (e_fld Tryz.underlying76 rfl Tryz.sizeOf71 rfl (q0 rfl)) rfl rfl rfl rfl ?_
  refine xVF (eL Tryz.isAgg71 (q1 rfl)) rfl rfl rfl rfl ?_
  refine xVF (e_len Tryz.underlying71 (q1 rfl)) rfl rfl rfl rfl ?_
  refine xVF (e_ne (q1 rfl) (q1 rfl)) rfl rfl rfl rfl ?_
  refine xV (e_or (q0 rfl) rfl (fun h => by first | rfl | (rw [h]; rfl))) rfl rfl ?_
  refine xV (e_mv (v := .bool _) (q0 rfl)) rfl rfl ?_
  refine xVF (e_fld Tryz.underlying76 rfl Tryz.sizeOf73 rfl (q0 rfl)) rfl rfl rfl rfl ?_
  refine xVF (eL Tryz.isAgg73 (q1 rfl)) rfl rfl rfl rfl ?_
  refine xVF (e_len Tryz.underlying73 (q1 rfl)) rfl rfl rfl rfl ?_
  refine xVF (e_fld Tryz.underlying76 rfl Tryz.sizeOf73 rfl (q0 rfl)) rfl rfl rfl rfl ?_
  refine xVF (eL Tryz.isAgg73 (q1 rfl)) rfl rfl rfl rfl ?_
  refine xVF (e_len Tryz.underlying73 (q1 rfl)) rfl rfl rfl rfl ?_
  refine xVF (e_ne (q1 rfl) (q1 rfl)) rfl rfl rfl rfl ?_
  refine xV (e_or (q0 rfl) rfl (fun h => by first | rfl | (rw [h]; rfl))) rfl rfl ?_
  refine XN ?_
  refine thenJ_normal ?_
  refine H_cond rfl (fun h1 => ?_) (fun h1 => ?_)
  · simp at h1
  · refine H_skip ?_
    refine thenJ_normal ?_
    refine H_seq ?_
    refine H_seq ?_
    refine R0 ?_
    refine xV (e_as (v := .int _ _) (q0 rfl)) rfl rfl ?_
    refine XN ?_
    refine thenJ_normal ?_
    refine H_block ?_
    refine H_loop [4, 5, 33, 34, 35, 36, 37, 38, 39, 40, 41, 42, 43, 44, 45, 46, 47, 48, 49, 50] (fun _ : Nat => [(5, .int .i64 0)]) (fun _ => [box b2 76 zB, box b3 76 zB]) (fun _ => True) (fun _ => 0) 0 ⟨rfl, trivial⟩ (fun w hw => hw.pick [1, 0] (by decide)) rfl trivial ?_
    rintro k g _
    refine H_seq ?_
    refine H_seq ?_
    refine R0 ?_
    refine xV (e_mv (v := .int _ _) (q0 rfl)) rfl rfl ?_
    refine xV (e_fld Tryz.underlying76 rfl Tryz.sizeOf66 rfl (q0 rfl)) rfl rfl ?_
    refine xV (eL Tryz.isAgg66 (q0 rfl)) rfl rfl ?_
    refine xV (e_len Tryz.underlying66 (q0 rfl)) rfl rfl ?_
    refine xV (e_lt (q0 rfl) (q0 rfl)) rfl rfl ?_
    refine XN ?_
    refine thenJ_normal ?_
    refine H_cond rfl (fun hlt => ?_) (fun hlt => ?_)
    · simp at hlt
    · refine H_exit ?_
      refine thenJ_exit ?_
      refine loopJ_exit ?_
      refine blockJ_hit ?_
      refine thenJ_normal ?_
      refine H_seq ?_
      refine H_seq ?_
      refine R0 ?_
      refine xV (e_as (v := .int _ _) (q0 rfl)) rfl rfl ?_
      refine XN ?_
      refine thenJ_normal ?_
      refine H_block ?_
      refine H_loop [4, 6, 51, 52, 53, 54, 55, 56, 57, 58, 59, 60, 61, 62, 63, 64, 65, 66, 67, 68] (fun _ : Nat => [(6, .int .i64 0)]) (fun _ => [box b2 76 zB, box b3 76 zB]) (fun _ => True) (fun _ => 0) 0 ⟨rfl, trivial⟩ (fun w hw => hw) rfl trivial ?_
      rintro k2 g2 _
      refine H_seq ?_
      refine H_seq ?_
      refine R0 ?_
      refine xV (e_mv (v := .int _ _) (q0 rfl)) rfl rfl ?_
      refine xV (e_fld Tryz.underlying76 rfl Tryz.sizeOf71 rfl (q0 rfl)) rfl rfl ?_
      refine xV (eL Tryz.isAgg71 (q0 rfl)) rfl rfl ?_
      refine xV (e_len Tryz.underlying71 (q0 rfl)) rfl rfl ?_
      refine xV (e_lt (q0 rfl) (q0 rfl)) rfl rfl ?_
      refine XN ?_
      refine thenJ_normal ?_
      refine H_cond rfl (fun hlt2 => ?_) (fun hlt2 => ?_)
      · simp at hlt2
      · refine H_exit ?_
        refine thenJ_exit ?_
        refine loopJ_exit ?_
        refine blockJ_hit ?_
        refine thenJ_normal ?_
        refine H_seq ?_
        refine H_seq ?_
        refine R0 ?_
        refine xV (e_as (v := .int _ _) (q0 rfl)) rfl rfl ?_
        refine XN ?_
        refine thenJ_normal ?_
        refine H_block ?_
        refine H_loop [4, 7, 69, 70, 71, 72, 73, 74, 75, 76, 77, 78, 79, 80, 81, 82, 83, 84, 85, 86] (fun _ : Nat => [(7, .int .i64 0)]) (fun _ => [box b2 76 zB, box b3 76 zB]) (fun _ => True) (fun _ => 0) 0 ⟨rfl, trivial⟩ (fun w hw => hw) rfl trivial ?_
        rintro k3 g3 _
        refine H_seq ?_
        refine H_seq ?_
        refine R0 ?_
        refine xV (e_mv (v := .int _ _) (q0 rfl)) rfl rfl ?_
        refine xV (e_fld Tryz.underlying76 rfl Tryz.sizeOf73 rfl (q0 rfl)) rfl rfl ?_
        refine xV (eL Tryz.isAgg73 (q0 rfl)) rfl rfl ?_
        refine xV (e_len Tryz.underlying73 (q0 rfl)) rfl rfl ?_
        refine xV (e_lt (q0 rfl) (q0 rfl)) rfl rfl ?_
        refine XN ?_
        refine thenJ_normal ?_
        refine H_cond rfl (fun hlt3 => ?_) (fun hlt3 => ?_)
        · simp at hlt3
        · refine H_exit ?_
          refine thenJ_exit ?_
          refine loopJ_exit ?_
          refine blockJ_hit ?_
          refine thenJ_normal ?_
          refine H_seq ?_
          refine R0 ?_
          refine xV (e_as (v := .bool _) (q0 rfl)) rfl rfl ?_
          refine XN ?_
          refine thenJ_normal ?_
          refine H_ret ?_
          exact ret1 (v := .bool _) rfl rfl rfl fun w' hw => ⟨rfl, hw.1⟩
theorem same_w (w : World) : Calls Tryz.prog 13 #[.agg zB.toArray, .agg zB.toArray] w fun e w' => e = .returned (.bool true) ∧ Bel w w' := by
  refine H_enter Tryz.func13 rfl Tryz.ntmps13 rfl ?_
  refine H_seq ?_
  refine R0 ?_
  refine X_box (v := .agg _) rfl rfl fun b2 => ?_
  refine X_box (v := .agg _) rfl rfl fun b3 => ?_
  refine xV (e_as (v := .bool _) (q0 rfl)) rfl rfl ?_
  refine XN ?_
  refine thenJ_normal ?_
  refine H_seq ?_
  refine R0 ?_
  refine xV (e_fld Tryz.underlying76 rfl Tryz.sizeOf3 rfl (q0 rfl)) rfl rfl ?_
  refine xV (eL Tryz.isAgg3 (q0 rfl)) rfl rfl ?_
  refine xV (e_fld Tryz.underlying76 rfl Tryz.sizeOf3 rfl (q0 rfl)) rfl rfl ?_
  refine xV (eL Tryz.isAgg3 (q0 rfl)) rfl rfl ?_
  refine xV (e_eq (q0 rfl) (q0 rfl)) rfl rfl ?_
  refine xV (e_mv (v := .bool _) (q0 rfl)) rfl rfl ?_
  refine xVT (e_fld Tryz.underlying76 rfl Tryz.sizeOf63 rfl (q0 rfl)) rfl rfl rfl rfl ?_
  refine xVT (eL Tryz.isAgg63 (q1 rfl)) rfl rfl rfl rfl ?_
  refine xVT (e_fld Tryz.underlying76 rfl Tryz.sizeOf63 rfl (q0 rfl)) rfl rfl rfl rfl ?_
  refine xVT (eL Tryz.isAgg63 (q1 rfl)) rfl rfl rfl rfl ?_
  refine xCT (en Tryz.call42 (ha2 (q1 (v := .slice _ _ _) rfl) (q1 (v := .slice _ _ _) rfl))) (fun _ w _ => se_w w) rfl rfl rfl rfl ?_
  refine xV (e_and (q0 rfl) rfl (fun h => by first | rfl | (rw [h]; rfl))) rfl rfl ?_
  refine xV (e_mv (v := .bool _) (q0 rfl)) rfl rfl ?_
  refine xVT (e_fld Tryz.underlying76 rfl Tryz.sizeOf64 rfl (q0 rfl)) rfl rfl rfl rfl ?_
  refine xVT (eL Tryz.isAgg64 (q1 rfl)) rfl rfl rfl rfl ?_
  refine xVT (e_fld Tryz.underlying76 rfl Tryz.sizeOf64 rfl (q0 rfl)) rfl rfl rfl rfl ?_
  refine xVT (eL Tryz.isAgg64 (q1 rfl)) rfl rfl rfl rfl ?_
  refine xCT (en Tryz.call43 (ha2 (q1 (v := .slice _ _ _) rfl) (q1 (v := .slice _ _ _) rfl))) (fun _ w _ => ss_w w) rfl rfl rfl rfl ?_
  refine xV (e_and (q0 rfl) rfl (fun h => by first | rfl | (rw [h]; rfl))) rfl rfl ?_
  refine xV (e_mv (v := .bool _) (q0 rfl)) rfl rfl ?_
  refine xVT (e_fld Tryz.underlying76 rfl Tryz.sizeOf65 rfl (q0 rfl)) rfl rfl rfl rfl ?_
  refine xVT (eL Tryz.isAgg65 (q1 rfl)) rfl rfl rfl rfl ?_
  refine xVT (e_fld Tryz.underlying76 rfl Tryz.sizeOf65 rfl (q0 rfl)) rfl rfl rfl rfl ?_
  refine xVT (eL Tryz.isAgg65 (q1 rfl)) rfl rfl rfl rfl ?_
  refine xCT (en Tryz.call44 (ha2 (q1 (v := .slice _ _ _) rfl) (q1 (v := .slice _ _ _) rfl))) (fun _ w _ => sr_w w) rfl rfl rfl rfl ?_
  refine xV (e_and (q0 rfl) rfl (fun h => by first | rfl | (rw [h]; rfl))) rfl rfl ?_
  refine xV (e_mv (v := .bool _) (q0 rfl)) rfl rfl ?_
  refine xVT (e_fld Tryz.underlying76 rfl Tryz.sizeOf67 rfl (q0 rfl)) rfl rfl rfl rfl ?_
  refine xVT (eL Tryz.isAgg67 (q1 rfl)) rfl rfl rfl rfl ?_
  refine xVT (e_fld Tryz.underlying76 rfl Tryz.sizeOf67 rfl (q0 rfl)) rfl rfl rfl rfl ?_
  refine xVT (eL Tryz.isAgg67 (q1 rfl)) rfl rfl rfl rfl ?_
  refine xCT (en Tryz.call45 (ha2 (q1 (v := .slice _ _ _) rfl) (q1 (v := .slice _ _ _) rfl))) (fun _ w _ => sf_w w) rfl rfl rfl rfl ?_
  refine xV (e_and (q0 rfl) rfl (fun h => by first | rfl | (rw [h]; rfl))) rfl rfl ?_
  refine xV (e_mv (v := .bool _) (q0 rfl)) rfl rfl ?_
  refine xVT (e_fld Tryz.underlying76 rfl Tryz.sizeOf70 rfl (q0 rfl)) rfl rfl rfl rfl ?_
  refine xVT (e_fld Tryz.underlying70 rfl Tryz.sizeOf68 rfl (q1 rfl)) rfl rfl rfl rfl ?_
  refine xVT (eL Tryz.isAgg68 (q1 rfl)) rfl rfl rfl rfl ?_
  refine xVT (e_fld Tryz.underlying76 rfl Tryz.sizeOf70 rfl (q0 rfl)) rfl rfl rfl rfl ?_
  refine xVT (e_fld Tryz.underlying70 rfl Tryz.sizeOf68 rfl (q1 rfl)) rfl rfl rfl rfl ?_
  refine xVT (eL Tryz.isAgg68 (q1 rfl)) rfl rfl rfl rfl ?_
  refine xCT (en Tryz.call46 (ha2 (q1 (v := .slice _ _ _) rfl) (q1 (v := .slice _ _ _) rfl))) (fun _ w _ => sp_w w) rfl rfl rfl rfl ?_
  refine xV (e_and (q0 rfl) rfl (fun h => by first | rfl | (rw [h]; rfl))) rfl rfl ?_
  refine xV (e_mv (v := .bool _) (q0 rfl)) rfl rfl ?_
  refine xVT (eS Tryz.isAgg76 Tryz.sizeOf76 (q0 rfl)) rfl rfl rfl rfl ?_
  refine xVT (eS Tryz.isAgg76 Tryz.sizeOf76 (q0 rfl)) rfl rfl rfl rfl ?_
  refine xCT (en Tryz.call47 (ha2 (q1 (v := .agg _) rfl) (q1 (v := .agg _) rfl))) (fun _ w _ => so_w w) rfl rfl rfl rfl ?_
  refine xV (e_and (q0 rfl) rfl (fun h => by first | rfl | (rw [h]; rfl))) rfl rfl ?_
  refine xV (e_mv (v := .bool _) (q0 rfl)) rfl rfl ?_
  refine xVT (e_fld Tryz.underlying76 rfl Tryz.sizeOf72 rfl (q0 rfl)) rfl rfl rfl rfl ?_
  refine xVT (eL Tryz.isAgg72 (q1 rfl)) rfl rfl rfl rfl ?_
  refine xVT (e_fld Tryz.underlying76 rfl Tryz.sizeOf72 rfl (q0 rfl)) rfl rfl rfl rfl ?_
  refine xVT (eL Tryz.isAgg72 (q1 rfl)) rfl rfl rfl rfl ?_
  refine xCT (en Tryz.call48 (ha2 (q1 (v := .slice _ _ _) rfl) (q1 (v := .slice _ _ _) rfl))) (fun _ w _ => sl_w w) rfl rfl rfl rfl ?_
  refine xV (e_and (q0 rfl) rfl (fun h => by first | rfl | (rw [h]; rfl))) rfl rfl ?_
  refine xV (e_mv (v := .bool _) (q0 rfl)) rfl rfl ?_
  refine xVT (e_fld Tryz.underlying76 rfl Tryz.sizeOf74 rfl (q0 rfl)) rfl rfl rfl rfl ?_
  refine xVT (eL Tryz.isAgg74 (q1 rfl)) rfl rfl rfl rfl ?_
  refine xVT (e_fld Tryz.underlying76 rfl Tryz.sizeOf74 rfl (q0 rfl)) rfl rfl rfl rfl ?_
  refine xVT (eL Tryz.isAgg74 (q1 rfl)) rfl rfl rfl rfl ?_
  refine xCT (en Tryz.call49 (ha2 (q1 (v := .slice _ _ _) rfl) (q1 (v := .slice _ _ _) rfl))) (fun _ w _ => sn_w w) rfl rfl rfl rfl ?_
  refine xV (e_and (q0 rfl) rfl (fun h => by first | rfl | (rw [h]; rfl))) rfl rfl ?_
  refine xV (e_as (v := .bool _) (q0 rfl)) rfl rfl ?_
  refine XN ?_
  refine thenJ_normal ?_
  refine H_ret ?_
  exact ret1 (v := .bool _) rfl rfl rfl fun w' hw => ⟨rfl, hw.1⟩
theorem do_w (cs : List Value) (hn : cs.length = 20) (w : World) : Calls Tryz.prog 10 #[.pointer none, .agg cs.toArray] w fun e w' => e = .returned (.tuple #[.int .i64 0, .int .i64 11]) ∧ Bel w w' := by
  match cs, hn with
  | [c0, c1, c2, c3, c4, c5, c6, c7, c8, c9, c10, c11, c12, c13, c14, c15, c16, c17, c18, c19], _ =>
  refine H_enter Tryz.func10 rfl Tryz.ntmps10 rfl ?_
  refine H_seq ?_
  refine R0 ?_
  refine X_box (v := .agg _) rfl rfl fun b3 => ?_
  refine xV (e_as (v := .int _ _) (q0 rfl)) rfl rfl ?_
  refine xV (e_as (v := .int _ _) (q0 rfl)) rfl rfl ?_
  refine XN ?_
  refine thenJ_normal ?_
  refine H_seq ?_
  refine H_seq ?_
  refine R0 ?_
  refine xV (e_mv (v := .pointer _) (q0 rfl)) rfl rfl ?_
  refine xV (e_eqNilP Tryz.underlying47 (q0 rfl)) rfl rfl ?_
  refine XN ?_
  refine thenJ_normal ?_
  refine H_cond rfl (fun hn => ?_) (fun hn => ?_)
  · refine H_seq ?_
    refine R0 ?_
    refine xV (e_as (v := .int _ _) (q0 rfl)) rfl rfl ?_
    refine xV (e_as (v := .int _ _) (q0 rfl)) rfl rfl ?_
    refine XN ?_
    refine thenJ_normal ?_
    refine H_ret ?_
    refine thenJ_ret ?_
    exact ret2 (v := .int _ _) (x := .int _ _) rfl rfl rfl rfl fun w' hw => ⟨rfl, hw.1⟩
  · cases hn
theorem horizon_w (w : World) : Calls Tryz.prog 11 #[.pointer none] w fun e w' => e = .returned (.int .i64 0) ∧ Bel w w' := by
  refine H_enter Tryz.func11 rfl Tryz.ntmps11 rfl ?_
  refine H_seq ?_
  refine R0 ?_
  refine xV (e_as (v := .int _ _) (q0 rfl)) rfl rfl ?_
  refine XN ?_
  refine thenJ_normal ?_
  refine H_seq ?_
  refine H_seq ?_
  refine R0 ?_
  refine xV (e_mv (v := .pointer _) (q0 rfl)) rfl rfl ?_
  refine xV (e_eqNilP Tryz.underlying47 (q0 rfl)) rfl rfl ?_
  refine XN ?_
  refine thenJ_normal ?_
  refine H_cond rfl (fun hn => ?_) (fun hn => ?_)
  · refine H_seq ?_
    refine R0 ?_
    refine xV (e_as (v := .int _ _) (q0 rfl)) rfl rfl ?_
    refine XN ?_
    refine thenJ_normal ?_
    refine H_ret ?_
    refine thenJ_ret ?_
    exact ret1 (v := .int _ _) rfl rfl rfl fun w' hw => ⟨rfl, hw.1⟩
  · cases hn
theorem copy_w (w : World) : Calls Tryz.prog 12 #[.pointer none] w fun e w' => e = .returned (.pointer none) ∧ Bel w w' := by
  refine H_enter Tryz.func12 rfl Tryz.ntmps12 rfl ?_
  refine H_seq ?_
  refine R0 ?_
  refine xV (e_as (v := .pointer _) (q0 rfl)) rfl rfl ?_
  refine XN ?_
  refine thenJ_normal ?_
  refine H_seq ?_
  refine H_seq ?_
  refine R0 ?_
  refine xV (e_mv (v := .pointer _) (q0 rfl)) rfl rfl ?_
  refine xV (e_eqNilP Tryz.underlying47 (q0 rfl)) rfl rfl ?_
  refine XN ?_
  refine thenJ_normal ?_
  refine H_cond rfl (fun hn => ?_) (fun hn => ?_)
  · refine H_seq ?_
    refine R0 ?_
    refine xV (e_as (v := .pointer _) (q0 rfl)) rfl rfl ?_
    refine XN ?_
    refine thenJ_normal ?_
    refine H_ret ?_
    refine thenJ_ret ?_
    exact ret1 (v := .pointer _) rfl rfl rfl fun w' hw => ⟨rfl, hw.1⟩
  · cases hn
theorem books_w (w : World) : Calls Tryz.prog 14 #[.pointer none] w fun e w' => e = .returned (.agg zB.toArray) ∧ Bel w w' := by
  refine H_enter Tryz.func14 rfl Tryz.ntmps14 rfl ?_
  refine H_seq ?_
  refine R0 ?_
  refine X_alloc Tryz.zeroValue76 rfl fun b2 => ?_
  refine XN ?_
  refine thenJ_normal ?_
  refine H_seq ?_
  refine H_seq ?_
  refine R0 ?_
  refine xV (e_mv (v := .pointer _) (q0 rfl)) rfl rfl ?_
  refine xV (e_eqNilP Tryz.underlying47 (q0 rfl)) rfl rfl ?_
  refine XN ?_
  refine thenJ_normal ?_
  refine H_cond rfl (fun hn => ?_) (fun hn => ?_)
  · refine H_seq ?_
    refine R0 ?_
    refine xV (e_build Tryz.underlying76 fl76 Tryz.zeroValue76 E.p0 rfl) rfl rfl ?_
    refine X_st (v := .agg _) rfl rfl Tryz.sizeOf76 ?_
    refine XN ?_
    refine thenJ_normal ?_
    refine H_ret ?_
    refine thenJ_ret ?_
    exact ret_of rfl (resC rfl rfl Tryz.isAgg76 Tryz.sizeOf76) fun w' hw => ⟨rfl, hw.1⟩
  · cases hn
theorem nilLaw_w (cs : List Value) (hn : cs.length = 20) (w : World) : Calls Tryz.prog 4 #[.agg cs.toArray] w fun e w' => e = .returned (.bool true) ∧ Bel w w' := by
  match cs, hn with
  | [c0, c1, c2, c3, c4, c5, c6, c7, c8, c9, c10, c11, c12, c13, c14, c15, c16, c17, c18, c19], _ =>
  refine H_enter Tryz.func4 rfl Tryz.ntmps4 rfl ?_
  refine H_seq ?_
  refine R0 ?_
  refine X_box (v := .agg _) rfl rfl fun b1 => ?_
  refine xV (e_as (v := .bool _) (q0 rfl)) rfl rfl ?_
  refine XN ?_
  refine thenJ_normal ?_
  refine H_seq ?_
  refine R0 ?_
  refine xV (e_as (v := .pointer _) (q0 rfl)) rfl rfl ?_
  refine XN ?_
  refine thenJ_normal ?_
  refine H_seq ?_
  refine R0 ?_
  refine xV (e_mv (v := .pointer _) (q0 rfl)) rfl rfl ?_
  refine xV (eS Tryz.isAgg57 Tryz.sizeOf57 (q0 rfl)) rfl rfl ?_
  refine xC (en Tryz.call10 (ha2 (q0 rfl) (q0 rfl))) (fun _ w _ => do_w [c0, c1, c2, c3, c4, c5, c6, c7, c8, c9, c10, c11, c12, c13, c14, c15, c16, c17, c18, c19] rfl w) rfl rfl ?_
  refine xV (e_mv (q0 rfl)) rfl rfl ?_
  refine xV (e_ext (q0 rfl) rfl) rfl rfl ?_
  refine xV (e_ext (q0 rfl) rfl) rfl rfl ?_
  refine xV (e_as (v := .int _ _) (q0 rfl)) rfl rfl ?_
  refine xV (e_as (v := .int _ _) (q0 rfl)) rfl rfl ?_
  refine XN ?_
  refine thenJ_normal ?_
  refine H_seq ?_
  refine R0 ?_
  refine xV (e_mv (v := .int _ _) (q0 rfl)) rfl rfl ?_
  refine xV (e_eq (q0 rfl) (q0 rfl)) rfl rfl ?_
  refine xV (e_mv (v := .bool _) (q0 rfl)) rfl rfl ?_
  refine xVT (e_mv (v := .int _ _) (q0 rfl)) rfl rfl rfl rfl ?_
  refine xVT (e_eq (q1 rfl) (q0 rfl)) rfl rfl rfl rfl ?_
  refine xV (e_and (q0 rfl) rfl (fun h => by first | rfl | (rw [h]; rfl))) rfl rfl ?_
  refine xV (e_mv (v := .bool _) (q0 rfl)) rfl rfl ?_
  refine xVT (e_mv (v := .pointer _) (q0 rfl)) rfl rfl rfl rfl ?_
  refine xCT (en Tryz.call11 (ha1 (q1 (v := .pointer _) rfl))) (fun _ w _ => horizon_w w) rfl rfl rfl rfl ?_
  refine xVT (e_eq (q1 rfl) (q0 rfl)) rfl rfl rfl rfl ?_
  refine xV (e_and (q0 rfl) rfl (fun h => by first | rfl | (rw [h]; rfl))) rfl rfl ?_
  refine xV (e_mv (v := .bool _) (q0 rfl)) rfl rfl ?_
  refine xVT (e_mv (v := .pointer _) (q0 rfl)) rfl rfl rfl rfl ?_
  refine xCT (en Tryz.call12 (ha1 (q1 (v := .pointer _) rfl))) (fun _ w _ => copy_w w) rfl rfl rfl rfl ?_
  refine xVT (e_eqNilP Tryz.underlying47 (q1 rfl)) rfl rfl rfl rfl ?_
  refine xV (e_and (q0 rfl) rfl (fun h => by first | rfl | (rw [h]; rfl))) rfl rfl ?_
  refine xV (e_mv (v := .bool _) (q0 rfl)) rfl rfl ?_
  refine xVT (e_mv (v := .pointer _) (q0 rfl)) rfl rfl rfl rfl ?_
  refine xCT (en Tryz.call14 (ha1 (q1 (v := .pointer _) rfl))) (fun _ w _ => books_w w) rfl rfl rfl rfl ?_
  refine xVT (EvG.any (e_build Tryz.underlying76 fl76 Tryz.zeroValue76 E.p0 rfl)) rfl rfl rfl rfl ?_
  refine xCT (en Tryz.call13 (ha2 (q1 (v := .agg _) rfl) (q1 (v := .agg _) rfl))) (fun _ w _ => same_w w) rfl rfl rfl rfl ?_
  refine xV (e_and (q0 rfl) rfl (fun h => by first | rfl | (rw [h]; rfl))) rfl rfl ?_
  refine xV (e_mv (v := .bool _) (q0 rfl)) rfl rfl ?_
  refine xCT (en Tryz.call6 (ha0)) (fun _ w _ => Go.Proofs.O.awake_w w) rfl rfl rfl rfl ?_
  refine xV (e_and (q0 rfl) rfl (fun h => by first | rfl | (rw [h]; rfl))) rfl rfl ?_
  refine xV (e_as (v := .bool _) (q0 rfl)) rfl rfl ?_
  refine XN ?_
  refine thenJ_normal ?_
  refine H_ret ?_
  exact ret1 (v := .bool _) rfl rfl rfl fun w' hw => ⟨rfl, hw.1⟩
end Go.Proofs.Nil
