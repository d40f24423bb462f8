import Derived.Test.YtnikolfakmgbbaaCusB
import Derived.Test.YtnikolfakmgbbaaEng2
import Derived.Test.YtnikolfakmgbbaaCusR
import Derived.Test.YtnikolfakmgbbaaCusS
import Derived.Test.YtnikolfakmgbbaaEng1
import Derived.OpenShut
set_option linter.unusedVariables false
set_option linter.unusedSimpArgs false
/-
  The walks: the reference's comparisons of lists. (Printed by a program.)
-/
namespace Go.Proofs.Cus
open Go Go.RowKit Go.Proofs.E

deriving instance DecidableEq for Ev
deriving instance Inhabited for Ev

theorem sameEv_w_eq (x y : Ev) (w : World) : (Op.equal 67 (.agg (Ev.cells x).toArray) (.agg (Ev.cells y).toArray)).run Try.prog w = .ok (decide (x = y)) w := by
  have h : (Op.equalIn 10000 67 (.agg (Ev.cells x).toArray) (.agg (Ev.cells y).toArray)).run Try.prog w = .ok ((x.device == y.device && (x.seq == y.seq && (x.at_ == y.at_ && (x.late == y.late && (x.kind == y.kind && (x.bike == y.bike && (x.place == y.place && (x.rider == y.rider && (x.ride == y.ride && true)))))))))) w :=
    eqS_of w Try.underlying67 (by kernel_rfl) (eqF_cons w (by decide) (run_part_one w Try.isAgg3 rfl) (run_part_one w Try.isAgg3 rfl) (run_equalIn_int w _ _ .i64 .i64 _ _ Try.underlying3) (eqF_cons w (by decide) (run_part_one w Try.isAgg3 rfl) (run_part_one w Try.isAgg3 rfl) (run_equalIn_int w _ _ .i64 .i64 _ _ Try.underlying3) (eqF_cons w (by decide) (run_part_one w Try.isAgg3 rfl) (run_part_one w Try.isAgg3 rfl) (run_equalIn_int w _ _ .i64 .i64 _ _ Try.underlying3) (eqF_cons w (by decide) (run_part_one w Try.isAgg3 rfl) (run_part_one w Try.isAgg3 rfl) (run_equalIn_int w _ _ .i64 .i64 _ _ Try.underlying3) (eqF_cons w (by decide) (run_part_one w Try.isAgg3 rfl) (run_part_one w Try.isAgg3 rfl) (run_equalIn_int w _ _ .i64 .i64 _ _ Try.underlying3) (eqF_cons w (by decide) (run_part_one w Try.isAgg3 rfl) (run_part_one w Try.isAgg3 rfl) (run_equalIn_int w _ _ .i64 .i64 _ _ Try.underlying3) (eqF_cons w (by decide) (run_part_one w Try.isAgg3 rfl) (run_part_one w Try.isAgg3 rfl) (run_equalIn_int w _ _ .i64 .i64 _ _ Try.underlying3) (eqF_cons w (by decide) (run_part_one w Try.isAgg3 rfl) (run_part_one w Try.isAgg3 rfl) (run_equalIn_int w _ _ .i64 .i64 _ _ Try.underlying3) (eqF_cons w (by decide) (run_part_one w Try.isAgg3 rfl) (run_part_one w Try.isAgg3 rfl) (run_equalIn_int w _ _ .i64 .i64 _ _ Try.underlying3) (eqF_nil w))))))))))
  have e : ((x.device == y.device && (x.seq == y.seq && (x.at_ == y.at_ && (x.late == y.late && (x.kind == y.kind && (x.bike == y.bike && (x.place == y.place && (x.rider == y.rider && (x.ride == y.ride && true)))))))))) = decide (x = y) := by
    rw [Bool.eq_iff_iff]
    cases x; cases y
    simp
  rw [← e]; exact h
theorem sameEv_w (A B : Option Addr) (n m c d : Nat) (xs ys : List Ev) (w : World) (hx : SlAt w 9 Ev.cells A n xs) (hy : SlAt w 9 Ev.cells B m ys) :
    Calls Try.prog 18 #[.slice A n c, .slice B m d] w fun e w' => e = .returned (.bool (decide (xs = ys))) ∧ Bel w w' := by
  have hl := hx.1
  have hn := hx.2.1
  have hl2 := hy.1
  refine H_enter Try.func18 rfl Try.ntmps18 rfl ?_
  refine H_seq ?_
  refine R0 ?_
  refine xV (e_as (v := .bool _) (q0 rfl)) rfl rfl ?_
  refine XN ?_
  refine thenJ_normal ?_
  refine H_seq ?_
  refine H_seq ?_
  refine R0 ?_
  refine xV (e_mv (v := .slice _ _ _) (q0 rfl)) rfl rfl ?_
  refine xV (e_len Try.underlying25 (q0 rfl)) rfl rfl ?_
  refine xV (e_mv (v := .slice _ _ _) (q0 rfl)) rfl rfl ?_
  refine xV (e_len Try.underlying25 (q0 rfl)) rfl rfl ?_
  refine xV (e_ne (q0 rfl) (q0 rfl)) rfl rfl ?_
  refine XN ?_
  refine thenJ_normal ?_
  refine H_cond rfl (fun h1 => ?_) (fun h1 => ?_)
  · refine H_seq ?_
    refine R0 ?_
    refine xV (e_as (v := .bool _) (q0 rfl)) rfl rfl ?_
    refine XN ?_
    refine thenJ_normal ?_
    refine H_ret ?_
    refine thenJ_ret ?_
    exact ret1 (v := .bool _) rfl rfl rfl fun w' hw => ⟨ret_bool (by
      rw [eq_comm, decide_eq_false_iff_not]
      intro e
      rw [e] at hl
      simp at h1
      omega), hw.1⟩
  · have hnm : n = m := by simp at h1; omega
    subst hnm
    refine H_skip ?_
    refine thenJ_normal ?_
    refine H_seq ?_
    refine H_seq ?_
    refine R0 ?_
    refine xV (e_as (v := .int _ _) (q0 rfl)) rfl rfl ?_
    refine XN ?_
    refine thenJ_normal ?_
    refine H_block ?_
    refine H_loop [4, 5, 11, 12, 13, 14, 15, 16, 17, 18, 19, 20, 21, 22, 23, 24, 25] (fun k : Nat => [(5, .int .i64 k)]) (fun _ => []) (fun k => k ≤ n ∧ xs.take k = ys.take k) (fun k => n - k) 0 ⟨rfl, trivial⟩ (fun _ h => h) rfl ⟨Nat.zero_le _, rfl⟩ ?_
    rintro k g ⟨hk, hall⟩
    refine H_seq ?_
    refine H_seq ?_
    refine R0 ?_
    refine xV (e_mv (v := .int _ _) (q0 rfl)) rfl rfl ?_
    refine xV (e_mv (v := .slice _ _ _) (q0 rfl)) rfl rfl ?_
    refine xV (e_len Try.underlying25 (q0 rfl)) rfl rfl ?_
    refine xV (e_lt (q0 rfl) (q0 rfl)) rfl rfl ?_
    refine XN ?_
    refine thenJ_normal ?_
    refine H_cond rfl (fun hlt => ?_) (fun hlt => ?_)
    · simp at hlt
      obtain ⟨b, off, x, rfl, hbl, hxk, hrx⟩ := hx.at_ hlt
      obtain ⟨b2, off2, y, rfl, hbl2, hyk, hry⟩ := hy.at_ hlt
      refine H_skip ?_
      refine thenJ_normal ?_
      refine H_seq ?_
      refine H_block ?_
      refine H_seq ?_
      refine R1 rfl (by decide +kernel) ?_
      refine xV (e_mv (v := .slice _ _ _) (q0 rfl)) rfl rfl ?_
      refine xV (e_mv (v := .int _ _) (q0 rfl)) rfl rfl ?_
      refine xV (e_idx _ Try.underlying25 Try.sizeOf67 (q0 rfl) (q0 rfl) (fun _ => ⟨rfl, by omega⟩)) rfl rfl ?_
      refine xV (eS Try.isAgg67 Try.sizeOf67 (q0 rfl)) rfl rfl ?_
      refine xV (e_mv (v := .slice _ _ _) (q0 rfl)) rfl rfl ?_
      refine xV (e_mv (v := .int _ _) (q0 rfl)) rfl rfl ?_
      refine xV (e_idx _ Try.underlying25 Try.sizeOf67 (q0 rfl) (q0 rfl) (fun _ => ⟨rfl, by omega⟩)) rfl rfl ?_
      refine xV (eS Try.isAgg67 Try.sizeOf67 (q0 rfl)) rfl rfl ?_
      refine xV (e_neS (fun w => sameEv_w_eq x y w) (by kernel_rfl) (q0 rfl) (q0 rfl)) rfl rfl ?_
      refine XN ?_
      refine thenJ_normal ?_
      refine H_cond rfl (fun hb => ?_) (fun hb => ?_)
      · refine H_seq ?_
        refine R0 ?_
        refine xV (e_as (v := .bool _) (q0 rfl)) rfl rfl ?_
        refine XN ?_
        refine thenJ_normal ?_
        refine H_ret ?_
        refine blockJ_ret ?_
        refine thenJ_ret ?_
        refine loopJ_ret ?_
        refine blockJ_ret ?_
        refine thenJ_ret ?_
        exact ret1 (v := .bool _) rfl rfl rfl fun w' hw => ⟨ret_bool (by
          rw [eq_comm, decide_eq_false_iff_not]
          intro e
          rw [e, hyk] at hxk
          cases hxk
          simp at hb), hw.1⟩
      · have hxy : x = y := by simpa using hb
        refine H_skip ?_
        refine blockJ_normal ?_
        refine thenJ_normal ?_
        refine R0 ?_
        refine xV (e_mv (v := .int _ _) (q0 rfl)) rfl rfl ?_
        refine xV (e_add (q0 rfl) (q0 rfl) (fun _ => ⟨rfl, by omega, by omega⟩)) rfl rfl ?_
        refine xV (e_as (v := .int _ _) (q0 rfl)) rfl rfl ?_
        refine XN ?_
        exact loopJ_normal (k + 1) (by repeat (first | exact agree_self | exact agree_over | refine agree_upd rfl ?_ | refine agree_updL rfl ?_ | refine agree_over2 rfl ?_)) ⟨rfl, trivial⟩ (fun w hw => mem_nil.2 hw.1) rfl ⟨by omega, by rw [take_snoc _ _ _ hxk, take_snoc _ _ _ hyk, hall, hxy]⟩ (by show n - (k + 1) < n - k; omega)
    · obtain rfl : k = n := by simp at hlt; omega
      refine H_exit ?_
      refine thenJ_exit ?_
      refine loopJ_exit ?_
      refine blockJ_hit ?_
      refine thenJ_normal ?_
      refine H_seq ?_
      refine R0 ?_
      refine xV (e_as (v := .bool _) (q0 rfl)) rfl rfl ?_
      refine XN ?_
      refine thenJ_normal ?_
      refine H_ret ?_
      exact ret1 (v := .bool _) rfl rfl rfl fun w' hw => ⟨ret_bool (by
        rw [eq_comm, decide_eq_true_eq]
        rw [List.take_of_length_le (by omega), List.take_of_length_le (by omega)] at hall
        exact hall), hw.1⟩

theorem sameRj_w_eq (x y : Rj) (w : World) : (Op.equal 69 (.agg (Rj.cells x).toArray) (.agg (Rj.cells y).toArray)).run Try.prog w = .ok (decide (x = y)) w := by
  have h : (Op.equalIn 10000 69 (.agg (Rj.cells x).toArray) (.agg (Rj.cells y).toArray)).run Try.prog w = .ok ((x.device == y.device && (x.seq == y.seq && (x.err == y.err && true)))) w :=
    eqS_of w Try.underlying69 (by kernel_rfl) (eqF_cons w (by decide) (run_part_one w Try.isAgg3 rfl) (run_part_one w Try.isAgg3 rfl) (run_equalIn_int w _ _ .i64 .i64 _ _ Try.underlying3) (eqF_cons w (by decide) (run_part_one w Try.isAgg3 rfl) (run_part_one w Try.isAgg3 rfl) (run_equalIn_int w _ _ .i64 .i64 _ _ Try.underlying3) (eqF_cons w (by decide) (run_part_one w Try.isAgg28 rfl) (run_part_one w Try.isAgg28 rfl) (run_equalIn_int w _ _ .i64 .i64 _ _ Try.underlying28) (eqF_nil w))))
  have e : ((x.device == y.device && (x.seq == y.seq && (x.err == y.err && true)))) = decide (x = y) := by
    rw [Bool.eq_iff_iff]
    cases x; cases y
    simp
  rw [← e]; exact h
theorem sameRj_w (A B : Option Addr) (n m c d : Nat) (xs ys : List Rj) (w : World) (hx : SlAt w 3 Rj.cells A n xs) (hy : SlAt w 3 Rj.cells B m ys) :
    Calls Try.prog 19 #[.slice A n c, .slice B m d] w fun e w' => e = .returned (.bool (decide (xs = ys))) ∧ Bel w w' := by
  have hl := hx.1
  have hn := hx.2.1
  have hl2 := hy.1
  refine H_enter Try.func19 rfl Try.ntmps19 rfl ?_
  refine H_seq ?_
  refine R0 ?_
  refine xV (e_as (v := .bool _) (q0 rfl)) rfl rfl ?_
  refine XN ?_
  refine thenJ_normal ?_
  refine H_seq ?_
  refine H_seq ?_
  refine R0 ?_
  refine xV (e_mv (v := .slice _ _ _) (q0 rfl)) rfl rfl ?_
  refine xV (e_len Try.underlying31 (q0 rfl)) rfl rfl ?_
  refine xV (e_mv (v := .slice _ _ _) (q0 rfl)) rfl rfl ?_
  refine xV (e_len Try.underlying31 (q0 rfl)) rfl rfl ?_
  refine xV (e_ne (q0 rfl) (q0 rfl)) rfl rfl ?_
  refine XN ?_
  refine thenJ_normal ?_
  refine H_cond rfl (fun h1 => ?_) (fun h1 => ?_)
  · refine H_seq ?_
    refine R0 ?_
    refine xV (e_as (v := .bool _) (q0 rfl)) rfl rfl ?_
    refine XN ?_
    refine thenJ_normal ?_
    refine H_ret ?_
    refine thenJ_ret ?_
    exact ret1 (v := .bool _) rfl rfl rfl fun w' hw => ⟨ret_bool (by
      rw [eq_comm, decide_eq_false_iff_not]
      intro e
      rw [e] at hl
      simp at h1
      omega), hw.1⟩
  · have hnm : n = m := by simp at h1; omega
    subst hnm
    refine H_skip ?_
    refine thenJ_normal ?_
    refine H_seq ?_
    refine H_seq ?_
    refine R0 ?_
    refine xV (e_as (v := .int _ _) (q0 rfl)) rfl rfl ?_
    refine XN ?_
    refine thenJ_normal ?_
    refine H_block ?_
    refine H_loop [4, 5, 11, 12, 13, 14, 15, 16, 17, 18, 19, 20, 21, 22, 23, 24, 25] (fun k : Nat => [(5, .int .i64 k)]) (fun _ => []) (fun k => k ≤ n ∧ xs.take k = ys.take k) (fun k => n - k) 0 ⟨rfl, trivial⟩ (fun _ h => h) rfl ⟨Nat.zero_le _, rfl⟩ ?_
    rintro k g ⟨hk, hall⟩
    refine H_seq ?_
    refine H_seq ?_
    refine R0 ?_
    refine xV (e_mv (v := .int _ _) (q0 rfl)) rfl rfl ?_
    refine xV (e_mv (v := .slice _ _ _) (q0 rfl)) rfl rfl ?_
    refine xV (e_len Try.underlying31 (q0 rfl)) rfl rfl ?_
    refine xV (e_lt (q0 rfl) (q0 rfl)) rfl rfl ?_
    refine XN ?_
    refine thenJ_normal ?_
    refine H_cond rfl (fun hlt => ?_) (fun hlt => ?_)
    · simp at hlt
      obtain ⟨b, off, x, rfl, hbl, hxk, hrx⟩ := hx.at_ hlt
      obtain ⟨b2, off2, y, rfl, hbl2, hyk, hry⟩ := hy.at_ hlt
      refine H_skip ?_
      refine thenJ_normal ?_
      refine H_seq ?_
      refine H_block ?_
      refine H_seq ?_
      refine R1 rfl (by decide +kernel) ?_
      refine xV (e_mv (v := .slice _ _ _) (q0 rfl)) rfl rfl ?_
      refine xV (e_mv (v := .int _ _) (q0 rfl)) rfl rfl ?_
      refine xV (e_idx _ Try.underlying31 Try.sizeOf69 (q0 rfl) (q0 rfl) (fun _ => ⟨rfl, by omega⟩)) rfl rfl ?_
      refine xV (eS Try.isAgg69 Try.sizeOf69 (q0 rfl)) rfl rfl ?_
      refine xV (e_mv (v := .slice _ _ _) (q0 rfl)) rfl rfl ?_
      refine xV (e_mv (v := .int _ _) (q0 rfl)) rfl rfl ?_
      refine xV (e_idx _ Try.underlying31 Try.sizeOf69 (q0 rfl) (q0 rfl) (fun _ => ⟨rfl, by omega⟩)) rfl rfl ?_
      refine xV (eS Try.isAgg69 Try.sizeOf69 (q0 rfl)) rfl rfl ?_
      refine xV (e_neS (fun w => sameRj_w_eq x y w) (by kernel_rfl) (q0 rfl) (q0 rfl)) rfl rfl ?_
      refine XN ?_
      refine thenJ_normal ?_
      refine H_cond rfl (fun hb => ?_) (fun hb => ?_)
      · refine H_seq ?_
        refine R0 ?_
        refine xV (e_as (v := .bool _) (q0 rfl)) rfl rfl ?_
        refine XN ?_
        refine thenJ_normal ?_
        refine H_ret ?_
        refine blockJ_ret ?_
        refine thenJ_ret ?_
        refine loopJ_ret ?_
        refine blockJ_ret ?_
        refine thenJ_ret ?_
        exact ret1 (v := .bool _) rfl rfl rfl fun w' hw => ⟨ret_bool (by
          rw [eq_comm, decide_eq_false_iff_not]
          intro e
          rw [e, hyk] at hxk
          cases hxk
          simp at hb), hw.1⟩
      · have hxy : x = y := by simpa using hb
        refine H_skip ?_
        refine blockJ_normal ?_
        refine thenJ_normal ?_
        refine R0 ?_
        refine xV (e_mv (v := .int _ _) (q0 rfl)) rfl rfl ?_
        refine xV (e_add (q0 rfl) (q0 rfl) (fun _ => ⟨rfl, by omega, by omega⟩)) rfl rfl ?_
        refine xV (e_as (v := .int _ _) (q0 rfl)) rfl rfl ?_
        refine XN ?_
        exact loopJ_normal (k + 1) (by repeat (first | exact agree_self | exact agree_over | refine agree_upd rfl ?_ | refine agree_updL rfl ?_ | refine agree_over2 rfl ?_)) ⟨rfl, trivial⟩ (fun w hw => mem_nil.2 hw.1) rfl ⟨by omega, by rw [take_snoc _ _ _ hxk, take_snoc _ _ _ hyk, hall, hxy]⟩ (by show n - (k + 1) < n - k; omega)
    · obtain rfl : k = n := by simp at hlt; omega
      refine H_exit ?_
      refine thenJ_exit ?_
      refine loopJ_exit ?_
      refine blockJ_hit ?_
      refine thenJ_normal ?_
      refine H_seq ?_
      refine R0 ?_
      refine xV (e_as (v := .bool _) (q0 rfl)) rfl rfl ?_
      refine XN ?_
      refine thenJ_normal ?_
      refine H_ret ?_
      exact ret1 (v := .bool _) rfl rfl rfl fun w' hw => ⟨ret_bool (by
        rw [eq_comm, decide_eq_true_eq]
        rw [List.take_of_length_le (by omega), List.take_of_length_le (by omega)] at hall
        exact hall), hw.1⟩

theorem sameSp_w_eq (x y : Sp) (w : World) : (Op.equal 41 (.agg (Sp.cells x).toArray) (.agg (Sp.cells y).toArray)).run Try.prog w = .ok (decide (x = y)) w := by
  have h : (Op.equalIn 10000 41 (.agg (Sp.cells x).toArray) (.agg (Sp.cells y).toArray)).run Try.prog w = .ok ((x.where_ == y.where_ && (x.place == y.place && (x.ride == y.ride && (x.paused == y.paused && true))))) w :=
    eqS_of w Try.underlying41 (by kernel_rfl) (eqF_cons w (by decide) (run_part_one w Try.isAgg3 rfl) (run_part_one w Try.isAgg3 rfl) (run_equalIn_int w _ _ .i64 .i64 _ _ Try.underlying3) (eqF_cons w (by decide) (run_part_one w Try.isAgg3 rfl) (run_part_one w Try.isAgg3 rfl) (run_equalIn_int w _ _ .i64 .i64 _ _ Try.underlying3) (eqF_cons w (by decide) (run_part_one w Try.isAgg3 rfl) (run_part_one w Try.isAgg3 rfl) (run_equalIn_int w _ _ .i64 .i64 _ _ Try.underlying3) (eqF_cons w (by decide) (run_part_one w Try.isAgg4 rfl) (run_part_one w Try.isAgg4 rfl) (run_equalIn_bool' w _ _ _ _ Try.underlying4) (eqF_nil w)))))
  have e : ((x.where_ == y.where_ && (x.place == y.place && (x.ride == y.ride && (x.paused == y.paused && true))))) = decide (x = y) := by
    rw [Bool.eq_iff_iff]
    cases x; cases y
    simp
  rw [← e]; exact h
theorem sameSp_w (A B : Option Addr) (n m c d : Nat) (xs ys : List Sp) (w : World) (hx : SlAt w 4 Sp.cells A n xs) (hy : SlAt w 4 Sp.cells B m ys) :
    Calls Try.prog 24 #[.slice A n c, .slice B m d] w fun e w' => e = .returned (.bool (decide (xs = ys))) ∧ Bel w w' := by
  have hl := hx.1
  have hn := hx.2.1
  have hl2 := hy.1
  refine H_enter Try.func24 rfl Try.ntmps24 rfl ?_
  refine H_seq ?_
  refine R0 ?_
  refine xV (e_as (v := .bool _) (q0 rfl)) rfl rfl ?_
  refine XN ?_
  refine thenJ_normal ?_
  refine H_seq ?_
  refine H_seq ?_
  refine R0 ?_
  refine xV (e_mv (v := .slice _ _ _) (q0 rfl)) rfl rfl ?_
  refine xV (e_len Try.underlying37 (q0 rfl)) rfl rfl ?_
  refine xV (e_mv (v := .slice _ _ _) (q0 rfl)) rfl rfl ?_
  refine xV (e_len Try.underlying37 (q0 rfl)) rfl rfl ?_
  refine xV (e_ne (q0 rfl) (q0 rfl)) rfl rfl ?_
  refine XN ?_
  refine thenJ_normal ?_
  refine H_cond rfl (fun h1 => ?_) (fun h1 => ?_)
  · refine H_seq ?_
    refine R0 ?_
    refine xV (e_as (v := .bool _) (q0 rfl)) rfl rfl ?_
    refine XN ?_
    refine thenJ_normal ?_
    refine H_ret ?_
    refine thenJ_ret ?_
    exact ret1 (v := .bool _) rfl rfl rfl fun w' hw => ⟨ret_bool (by
      rw [eq_comm, decide_eq_false_iff_not]
      intro e
      rw [e] at hl
      simp at h1
      omega), hw.1⟩
  · have hnm : n = m := by simp at h1; omega
    subst hnm
    refine H_skip ?_
    refine thenJ_normal ?_
    refine H_seq ?_
    refine H_seq ?_
    refine R0 ?_
    refine xV (e_as (v := .int _ _) (q0 rfl)) rfl rfl ?_
    refine XN ?_
    refine thenJ_normal ?_
    refine H_block ?_
    refine H_loop [4, 5, 11, 12, 13, 14, 15, 16, 17, 18, 19, 20, 21, 22, 23, 24, 25] (fun k : Nat => [(5, .int .i64 k)]) (fun _ => []) (fun k => k ≤ n ∧ xs.take k = ys.take k) (fun k => n - k) 0 ⟨rfl, trivial⟩ (fun _ h => h) rfl ⟨Nat.zero_le _, rfl⟩ ?_
    rintro k g ⟨hk, hall⟩
    refine H_seq ?_
    refine H_seq ?_
    refine R0 ?_
    refine xV (e_mv (v := .int _ _) (q0 rfl)) rfl rfl ?_
    refine xV (e_mv (v := .slice _ _ _) (q0 rfl)) rfl rfl ?_
    refine xV (e_len Try.underlying37 (q0 rfl)) rfl rfl ?_
    refine xV (e_lt (q0 rfl) (q0 rfl)) rfl rfl ?_
    refine XN ?_
    refine thenJ_normal ?_
    refine H_cond rfl (fun hlt => ?_) (fun hlt => ?_)
    · simp at hlt
      obtain ⟨b, off, x, rfl, hbl, hxk, hrx⟩ := hx.at_ hlt
      obtain ⟨b2, off2, y, rfl, hbl2, hyk, hry⟩ := hy.at_ hlt
      refine H_skip ?_
      refine thenJ_normal ?_
      refine H_seq ?_
      refine H_block ?_
      refine H_seq ?_
      refine R1 rfl (by decide +kernel) ?_
      refine xV (e_mv (v := .slice _ _ _) (q0 rfl)) rfl rfl ?_
      refine xV (e_mv (v := .int _ _) (q0 rfl)) rfl rfl ?_
      refine xV (e_idx _ Try.underlying37 Try.sizeOf41 (q0 rfl) (q0 rfl) (fun _ => ⟨rfl, by omega⟩)) rfl rfl ?_
      refine xV (eS Try.isAgg41 Try.sizeOf41 (q0 rfl)) rfl rfl ?_
      refine xV (e_mv (v := .slice _ _ _) (q0 rfl)) rfl rfl ?_
      refine xV (e_mv (v := .int _ _) (q0 rfl)) rfl rfl ?_
      refine xV (e_idx _ Try.underlying37 Try.sizeOf41 (q0 rfl) (q0 rfl) (fun _ => ⟨rfl, by omega⟩)) rfl rfl ?_
      refine xV (eS Try.isAgg41 Try.sizeOf41 (q0 rfl)) rfl rfl ?_
      refine xV (e_neS (fun w => sameSp_w_eq x y w) (by kernel_rfl) (q0 rfl) (q0 rfl)) rfl rfl ?_
      refine XN ?_
      refine thenJ_normal ?_
      refine H_cond rfl (fun hb => ?_) (fun hb => ?_)
      · refine H_seq ?_
        refine R0 ?_
        refine xV (e_as (v := .bool _) (q0 rfl)) rfl rfl ?_
        refine XN ?_
        refine thenJ_normal ?_
        refine H_ret ?_
        refine blockJ_ret ?_
        refine thenJ_ret ?_
        refine loopJ_ret ?_
        refine blockJ_ret ?_
        refine thenJ_ret ?_
        exact ret1 (v := .bool _) rfl rfl rfl fun w' hw => ⟨ret_bool (by
          rw [eq_comm, decide_eq_false_iff_not]
          intro e
          rw [e, hyk] at hxk
          cases hxk
          simp at hb), hw.1⟩
      · have hxy : x = y := by simpa using hb
        refine H_skip ?_
        refine blockJ_normal ?_
        refine thenJ_normal ?_
        refine R0 ?_
        refine xV (e_mv (v := .int _ _) (q0 rfl)) rfl rfl ?_
        refine xV (e_add (q0 rfl) (q0 rfl) (fun _ => ⟨rfl, by omega, by omega⟩)) rfl rfl ?_
        refine xV (e_as (v := .int _ _) (q0 rfl)) rfl rfl ?_
        refine XN ?_
        exact loopJ_normal (k + 1) (by repeat (first | exact agree_self | exact agree_over | refine agree_upd rfl ?_ | refine agree_updL rfl ?_ | refine agree_over2 rfl ?_)) ⟨rfl, trivial⟩ (fun w hw => mem_nil.2 hw.1) rfl ⟨by omega, by rw [take_snoc _ _ _ hxk, take_snoc _ _ _ hyk, hall, hxy]⟩ (by show n - (k + 1) < n - k; omega)
    · obtain rfl : k = n := by simp at hlt; omega
      refine H_exit ?_
      refine thenJ_exit ?_
      refine loopJ_exit ?_
      refine blockJ_hit ?_
      refine thenJ_normal ?_
      refine H_seq ?_
      refine R0 ?_
      refine xV (e_as (v := .bool _) (q0 rfl)) rfl rfl ?_
      refine XN ?_
      refine thenJ_normal ?_
      refine H_ret ?_
      exact ret1 (v := .bool _) rfl rfl rfl fun w' hw => ⟨ret_bool (by
        rw [eq_comm, decide_eq_true_eq]
        rw [List.take_of_length_le (by omega), List.take_of_length_le (by omega)] at hall
        exact hall), hw.1⟩

theorem sameSty_w_eq (x y : Sty) (w : World) : (Op.equal 57 (.agg (Sty.cells x).toArray) (.agg (Sty.cells y).toArray)).run Try.prog w = .ok (decide (x = y)) w := by
  have h : (Op.equalIn 10000 57 (.agg (Sty.cells x).toArray) (.agg (Sty.cells y).toArray)).run Try.prog w = .ok ((x.bike == y.bike && (x.where_ == y.where_ && (x.place == y.place && (x.ride == y.ride && ((x.from_ == y.from_ && (x.to_ == y.to_ && true)) && true)))))) w :=
    eqS_of w Try.underlying57 (by kernel_rfl) (eqF_cons w (by decide) (run_part_one w Try.isAgg3 rfl) (run_part_one w Try.isAgg3 rfl) (run_equalIn_int w _ _ .i64 .i64 _ _ Try.underlying3) (eqF_cons w (by decide) (run_part_one w Try.isAgg3 rfl) (run_part_one w Try.isAgg3 rfl) (run_equalIn_int w _ _ .i64 .i64 _ _ Try.underlying3) (eqF_cons w (by decide) (run_part_one w Try.isAgg3 rfl) (run_part_one w Try.isAgg3 rfl) (run_equalIn_int w _ _ .i64 .i64 _ _ Try.underlying3) (eqF_cons w (by decide) (run_part_one w Try.isAgg3 rfl) (run_part_one w Try.isAgg3 rfl) (run_equalIn_int w _ _ .i64 .i64 _ _ Try.underlying3) (eqF_cons w (by decide) (run_part_agg w Try.isAgg55 Try.sizeOf55 rfl) (run_part_agg w Try.isAgg55 Try.sizeOf55 rfl) (eqS_of w Try.underlying55 (by kernel_rfl) (eqF_cons w (by decide) (run_part_one w Try.isAgg3 rfl) (run_part_one w Try.isAgg3 rfl) (run_equalIn_int w _ _ .i64 .i64 _ _ Try.underlying3) (eqF_cons w (by decide) (run_part_one w Try.isAgg3 rfl) (run_part_one w Try.isAgg3 rfl) (run_equalIn_int w _ _ .i64 .i64 _ _ Try.underlying3) (eqF_nil w)))) (eqF_nil w))))))
  have e : ((x.bike == y.bike && (x.where_ == y.where_ && (x.place == y.place && (x.ride == y.ride && ((x.from_ == y.from_ && (x.to_ == y.to_ && true)) && true)))))) = decide (x = y) := by
    rw [Bool.eq_iff_iff]
    cases x; cases y
    simp
  rw [← e]; exact h
theorem sameSty_w (A B : Option Addr) (n m c d : Nat) (xs ys : List Sty) (w : World) (hx : SlAt w 6 Sty.cells A n xs) (hy : SlAt w 6 Sty.cells B m ys) :
    Calls Try.prog 29 #[.slice A n c, .slice B m d] w fun e w' => e = .returned (.bool (decide (xs = ys))) ∧ Bel w w' := by
  have hl := hx.1
  have hn := hx.2.1
  have hl2 := hy.1
  refine H_enter Try.func29 rfl Try.ntmps29 rfl ?_
  refine H_seq ?_
  refine R0 ?_
  refine xV (e_as (v := .bool _) (q0 rfl)) rfl rfl ?_
  refine XN ?_
  refine thenJ_normal ?_
  refine H_seq ?_
  refine H_seq ?_
  refine R0 ?_
  refine xV (e_mv (v := .slice _ _ _) (q0 rfl)) rfl rfl ?_
  refine xV (e_len Try.underlying46 (q0 rfl)) rfl rfl ?_
  refine xV (e_mv (v := .slice _ _ _) (q0 rfl)) rfl rfl ?_
  refine xV (e_len Try.underlying46 (q0 rfl)) rfl rfl ?_
  refine xV (e_ne (q0 rfl) (q0 rfl)) rfl rfl ?_
  refine XN ?_
  refine thenJ_normal ?_
  refine H_cond rfl (fun h1 => ?_) (fun h1 => ?_)
  · refine H_seq ?_
    refine R0 ?_
    refine xV (e_as (v := .bool _) (q0 rfl)) rfl rfl ?_
    refine XN ?_
    refine thenJ_normal ?_
    refine H_ret ?_
    refine thenJ_ret ?_
    exact ret1 (v := .bool _) rfl rfl rfl fun w' hw => ⟨ret_bool (by
      rw [eq_comm, decide_eq_false_iff_not]
      intro e
      rw [e] at hl
      simp at h1
      omega), hw.1⟩
  · have hnm : n = m := by simp at h1; omega
    subst hnm
    refine H_skip ?_
    refine thenJ_normal ?_
    refine H_seq ?_
    refine H_seq ?_
    refine R0 ?_
    refine xV (e_as (v := .int _ _) (q0 rfl)) rfl rfl ?_
    refine XN ?_
    refine thenJ_normal ?_
    refine H_block ?_
    refine H_loop [4, 5, 11, 12, 13, 14, 15, 16, 17, 18, 19, 20, 21, 22, 23, 24, 25] (fun k : Nat => [(5, .int .i64 k)]) (fun _ => []) (fun k => k ≤ n ∧ xs.take k = ys.take k) (fun k => n - k) 0 ⟨rfl, trivial⟩ (fun _ h => h) rfl ⟨Nat.zero_le _, rfl⟩ ?_
    rintro k g ⟨hk, hall⟩
    refine H_seq ?_
    refine H_seq ?_
    refine R0 ?_
    refine xV (e_mv (v := .int _ _) (q0 rfl)) rfl rfl ?_
    refine xV (e_mv (v := .slice _ _ _) (q0 rfl)) rfl rfl ?_
    refine xV (e_len Try.underlying46 (q0 rfl)) rfl rfl ?_
    refine xV (e_lt (q0 rfl) (q0 rfl)) rfl rfl ?_
    refine XN ?_
    refine thenJ_normal ?_
    refine H_cond rfl (fun hlt => ?_) (fun hlt => ?_)
    · simp at hlt
      obtain ⟨b, off, x, rfl, hbl, hxk, hrx⟩ := hx.at_ hlt
      obtain ⟨b2, off2, y, rfl, hbl2, hyk, hry⟩ := hy.at_ hlt
      refine H_skip ?_
      refine thenJ_normal ?_
      refine H_seq ?_
      refine H_block ?_
      refine H_seq ?_
      refine R1 rfl (by decide +kernel) ?_
      refine xV (e_mv (v := .slice _ _ _) (q0 rfl)) rfl rfl ?_
      refine xV (e_mv (v := .int _ _) (q0 rfl)) rfl rfl ?_
      refine xV (e_idx _ Try.underlying46 Try.sizeOf57 (q0 rfl) (q0 rfl) (fun _ => ⟨rfl, by omega⟩)) rfl rfl ?_
      refine xV (eS Try.isAgg57 Try.sizeOf57 (q0 rfl)) rfl rfl ?_
      refine xV (e_mv (v := .slice _ _ _) (q0 rfl)) rfl rfl ?_
      refine xV (e_mv (v := .int _ _) (q0 rfl)) rfl rfl ?_
      refine xV (e_idx _ Try.underlying46 Try.sizeOf57 (q0 rfl) (q0 rfl) (fun _ => ⟨rfl, by omega⟩)) rfl rfl ?_
      refine xV (eS Try.isAgg57 Try.sizeOf57 (q0 rfl)) rfl rfl ?_
      refine xV (e_neS (fun w => sameSty_w_eq x y w) (by kernel_rfl) (q0 rfl) (q0 rfl)) rfl rfl ?_
      refine XN ?_
      refine thenJ_normal ?_
      refine H_cond rfl (fun hb => ?_) (fun hb => ?_)
      · refine H_seq ?_
        refine R0 ?_
        refine xV (e_as (v := .bool _) (q0 rfl)) rfl rfl ?_
        refine XN ?_
        refine thenJ_normal ?_
        refine H_ret ?_
        refine blockJ_ret ?_
        refine thenJ_ret ?_
        refine loopJ_ret ?_
        refine blockJ_ret ?_
        refine thenJ_ret ?_
        exact ret1 (v := .bool _) rfl rfl rfl fun w' hw => ⟨ret_bool (by
          rw [eq_comm, decide_eq_false_iff_not]
          intro e
          rw [e, hyk] at hxk
          cases hxk
          simp at hb), hw.1⟩
      · have hxy : x = y := by simpa using hb
        refine H_skip ?_
        refine blockJ_normal ?_
        refine thenJ_normal ?_
        refine R0 ?_
        refine xV (e_mv (v := .int _ _) (q0 rfl)) rfl rfl ?_
        refine xV (e_add (q0 rfl) (q0 rfl) (fun _ => ⟨rfl, by omega, by omega⟩)) rfl rfl ?_
        refine xV (e_as (v := .int _ _) (q0 rfl)) rfl rfl ?_
        refine XN ?_
        exact loopJ_normal (k + 1) (by repeat (first | exact agree_self | exact agree_over | refine agree_upd rfl ?_ | refine agree_updL rfl ?_ | refine agree_over2 rfl ?_)) ⟨rfl, trivial⟩ (fun w hw => mem_nil.2 hw.1) rfl ⟨by omega, by rw [take_snoc _ _ _ hxk, take_snoc _ _ _ hyk, hall, hxy]⟩ (by show n - (k + 1) < n - k; omega)
    · obtain rfl : k = n := by simp at hlt; omega
      refine H_exit ?_
      refine thenJ_exit ?_
      refine loopJ_exit ?_
      refine blockJ_hit ?_
      refine thenJ_normal ?_
      refine H_seq ?_
      refine R0 ?_
      refine xV (e_as (v := .bool _) (q0 rfl)) rfl rfl ?_
      refine XN ?_
      refine thenJ_normal ?_
      refine H_ret ?_
      exact ret1 (v := .bool _) rfl rfl rfl fun w' hw => ⟨ret_bool (by
        rw [eq_comm, decide_eq_true_eq]
        rw [List.take_of_length_le (by omega), List.take_of_length_le (by omega)] at hall
        exact hall), hw.1⟩

theorem sameLv_w_eq (x y : Lv) (w : World) : (Op.equal 63 (.agg (Lv.cells x).toArray) (.agg (Lv.cells y).toArray)).run Try.prog w = .ok (decide (x = y)) w := by
  have h : (Op.equalIn 10000 63 (.agg (Lv.cells x).toArray) (.agg (Lv.cells y).toArray)).run Try.prog w = .ok ((x.at_ == y.at_ && (x.count == y.count && true))) w :=
    eqS_of w Try.underlying63 (by kernel_rfl) (eqF_cons w (by decide) (run_part_one w Try.isAgg3 rfl) (run_part_one w Try.isAgg3 rfl) (run_equalIn_int w _ _ .i64 .i64 _ _ Try.underlying3) (eqF_cons w (by decide) (run_part_one w Try.isAgg3 rfl) (run_part_one w Try.isAgg3 rfl) (run_equalIn_int w _ _ .i64 .i64 _ _ Try.underlying3) (eqF_nil w)))
  have e : ((x.at_ == y.at_ && (x.count == y.count && true))) = decide (x = y) := by
    rw [Bool.eq_iff_iff]
    cases x; cases y
    simp
  rw [← e]; exact h
theorem sameLv_w (A B : Option Addr) (n m c d : Nat) (xs ys : List Lv) (w : World) (hx : SlAt w 2 Lv.cells A n xs) (hy : SlAt w 2 Lv.cells B m ys) :
    Calls Try.prog 30 #[.slice A n c, .slice B m d] w fun e w' => e = .returned (.bool (decide (xs = ys))) ∧ Bel w w' := by
  have hl := hx.1
  have hn := hx.2.1
  have hl2 := hy.1
  refine H_enter Try.func30 rfl Try.ntmps30 rfl ?_
  refine H_seq ?_
  refine R0 ?_
  refine xV (e_as (v := .bool _) (q0 rfl)) rfl rfl ?_
  refine XN ?_
  refine thenJ_normal ?_
  refine H_seq ?_
  refine H_seq ?_
  refine R0 ?_
  refine xV (e_mv (v := .slice _ _ _) (q0 rfl)) rfl rfl ?_
  refine xV (e_len Try.underlying49 (q0 rfl)) rfl rfl ?_
  refine xV (e_mv (v := .slice _ _ _) (q0 rfl)) rfl rfl ?_
  refine xV (e_len Try.underlying49 (q0 rfl)) rfl rfl ?_
  refine xV (e_ne (q0 rfl) (q0 rfl)) rfl rfl ?_
  refine XN ?_
  refine thenJ_normal ?_
  refine H_cond rfl (fun h1 => ?_) (fun h1 => ?_)
  · refine H_seq ?_
    refine R0 ?_
    refine xV (e_as (v := .bool _) (q0 rfl)) rfl rfl ?_
    refine XN ?_
    refine thenJ_normal ?_
    refine H_ret ?_
    refine thenJ_ret ?_
    exact ret1 (v := .bool _) rfl rfl rfl fun w' hw => ⟨ret_bool (by
      rw [eq_comm, decide_eq_false_iff_not]
      intro e
      rw [e] at hl
      simp at h1
      omega), hw.1⟩
  · have hnm : n = m := by simp at h1; omega
    subst hnm
    refine H_skip ?_
    refine thenJ_normal ?_
    refine H_seq ?_
    refine H_seq ?_
    refine R0 ?_
    refine xV (e_as (v := .int _ _) (q0 rfl)) rfl rfl ?_
    refine XN ?_
    refine thenJ_normal ?_
    refine H_block ?_
    refine H_loop [4, 5, 11, 12, 13, 14, 15, 16, 17, 18, 19, 20, 21, 22, 23, 24, 25] (fun k : Nat => [(5, .int .i64 k)]) (fun _ => []) (fun k => k ≤ n ∧ xs.take k = ys.take k) (fun k => n - k) 0 ⟨rfl, trivial⟩ (fun _ h => h) rfl ⟨Nat.zero_le _, rfl⟩ ?_
    rintro k g ⟨hk, hall⟩
    refine H_seq ?_
    refine H_seq ?_
    refine R0 ?_
    refine xV (e_mv (v := .int _ _) (q0 rfl)) rfl rfl ?_
    refine xV (e_mv (v := .slice _ _ _) (q0 rfl)) rfl rfl ?_
    refine xV (e_len Try.underlying49 (q0 rfl)) rfl rfl ?_
    refine xV (e_lt (q0 rfl) (q0 rfl)) rfl rfl ?_
    refine XN ?_
    refine thenJ_normal ?_
    refine H_cond rfl (fun hlt => ?_) (fun hlt => ?_)
    · simp at hlt
      obtain ⟨b, off, x, rfl, hbl, hxk, hrx⟩ := hx.at_ hlt
      obtain ⟨b2, off2, y, rfl, hbl2, hyk, hry⟩ := hy.at_ hlt
      refine H_skip ?_
      refine thenJ_normal ?_
      refine H_seq ?_
      refine H_block ?_
      refine H_seq ?_
      refine R1 rfl (by decide +kernel) ?_
      refine xV (e_mv (v := .slice _ _ _) (q0 rfl)) rfl rfl ?_
      refine xV (e_mv (v := .int _ _) (q0 rfl)) rfl rfl ?_
      refine xV (e_idx _ Try.underlying49 Try.sizeOf63 (q0 rfl) (q0 rfl) (fun _ => ⟨rfl, by omega⟩)) rfl rfl ?_
      refine xV (eS Try.isAgg63 Try.sizeOf63 (q0 rfl)) rfl rfl ?_
      refine xV (e_mv (v := .slice _ _ _) (q0 rfl)) rfl rfl ?_
      refine xV (e_mv (v := .int _ _) (q0 rfl)) rfl rfl ?_
      refine xV (e_idx _ Try.underlying49 Try.sizeOf63 (q0 rfl) (q0 rfl) (fun _ => ⟨rfl, by omega⟩)) rfl rfl ?_
      refine xV (eS Try.isAgg63 Try.sizeOf63 (q0 rfl)) rfl rfl ?_
      refine xV (e_neS (fun w => sameLv_w_eq x y w) (by kernel_rfl) (q0 rfl) (q0 rfl)) rfl rfl ?_
      refine XN ?_
      refine thenJ_normal ?_
      refine H_cond rfl (fun hb => ?_) (fun hb => ?_)
      · refine H_seq ?_
        refine R0 ?_
        refine xV (e_as (v := .bool _) (q0 rfl)) rfl rfl ?_
        refine XN ?_
        refine thenJ_normal ?_
        refine H_ret ?_
        refine blockJ_ret ?_
        refine thenJ_ret ?_
        refine loopJ_ret ?_
        refine blockJ_ret ?_
        refine thenJ_ret ?_
        exact ret1 (v := .bool _) rfl rfl rfl fun w' hw => ⟨ret_bool (by
          rw [eq_comm, decide_eq_false_iff_not]
          intro e
          rw [e, hyk] at hxk
          cases hxk
          simp at hb), hw.1⟩
      · have hxy : x = y := by simpa using hb
        refine H_skip ?_
        refine blockJ_normal ?_
        refine thenJ_normal ?_
        refine R0 ?_
        refine xV (e_mv (v := .int _ _) (q0 rfl)) rfl rfl ?_
        refine xV (e_add (q0 rfl) (q0 rfl) (fun _ => ⟨rfl, by omega, by omega⟩)) rfl rfl ?_
        refine xV (e_as (v := .int _ _) (q0 rfl)) rfl rfl ?_
        refine XN ?_
        exact loopJ_normal (k + 1) (by repeat (first | exact agree_self | exact agree_over | refine agree_upd rfl ?_ | refine agree_updL rfl ?_ | refine agree_over2 rfl ?_)) ⟨rfl, trivial⟩ (fun w hw => mem_nil.2 hw.1) rfl ⟨by omega, by rw [take_snoc _ _ _ hxk, take_snoc _ _ _ hyk, hall, hxy]⟩ (by show n - (k + 1) < n - k; omega)
    · obtain rfl : k = n := by simp at hlt; omega
      refine H_exit ?_
      refine thenJ_exit ?_
      refine loopJ_exit ?_
      refine blockJ_hit ?_
      refine thenJ_normal ?_
      refine H_seq ?_
      refine R0 ?_
      refine xV (e_as (v := .bool _) (q0 rfl)) rfl rfl ?_
      refine XN ?_
      refine thenJ_normal ?_
      refine H_ret ?_
      exact ret1 (v := .bool _) rfl rfl rfl fun w' hw => ⟨ret_bool (by
        rw [eq_comm, decide_eq_true_eq]
        rw [List.take_of_length_le (by omega), List.take_of_length_le (by omega)] at hall
        exact hall), hw.1⟩


end Go.Proofs.Cus

/-
  The walks: the chapter's examples.
-/
namespace Go.Proofs.Cus
open Go Go.RowKit Go.Proofs.E

def cityF : Fl := ⟨2, 1, 1, [2], [1]⟩
def dayL : List Ev := [⟨0, 1, 100, 100, 1, 0, 0, 0, 0⟩, ⟨0, 2, 200, 200, 1, 1, 0, 0, 0⟩, ⟨0, 3, 300, 300, 3, 0, 0, 0, 7⟩, ⟨0, 4, 900, 900, 1, 0, 1, 0, 0⟩, ⟨0, 5, 1000, 1000, 7, 0, 0, 0, 0⟩, ⟨0, 6, 1000, 1000, 7, 1, 0, 0, 0⟩]
theorem fl24 {fs : Array Field} (h : Try.prog.underlying 24 = some (.struct fs) := by exact Try.underlying24) : FieldsLie Try.prog fs [(0, 1), (1, 1), (2, 1), (3, 1), (4, 1)] := by
  rw [Try.underlying24] at h
  cases h
  intro w
  kernel_rfl
theorem fl67 {fs : Array Field} (h : Try.prog.underlying 67 = some (.struct fs) := by exact Try.underlying67) : FieldsLie Try.prog fs [(0, 1), (1, 1), (2, 1), (3, 1), (4, 1), (5, 1), (6, 1), (7, 1), (8, 1)] := by
  rw [Try.underlying67] at h
  cases h
  intro w
  kernel_rfl
def cityA (x : Nat × Nat) : FA := ⟨some ⟨x.1, 0, none⟩, 1, 1, some ⟨x.2, 0, none⟩, 1, 1⟩
theorem city_w (w : World) : Calls Try.prog 35 #[] w fun e w' => ∃ x : Nat × Nat, e = .returned (.agg (cityF.cells (cityA x)).toArray) ∧ Mem w [box x.2 3 [.int .i64 1], box x.1 3 [.int .i64 2]] w' := by
  refine H_enter Try.func35 rfl Try.ntmps35 rfl ?_
  refine H_seq ?_
  refine R0 ?_
  refine X_alloc Try.zeroValue24 rfl fun b0 => ?_
  refine XN ?_
  refine thenJ_normal ?_
  refine H_seq ?_
  refine R0 ?_
  refine X_slit [(.int .i64 0)] Try.underlying22 Try.sizeOf3 Try.zeroValue3 rfl (by kernel_rfl) (pt (v := .int _ _) rfl E.p0) rfl rfl fun b1 => ?_
  refine X_slit [(.int .i64 0)] Try.underlying22 Try.sizeOf3 Try.zeroValue3 rfl (by kernel_rfl) (pt (v := .int _ _) rfl E.p0) rfl rfl fun b2 => ?_
  refine xV (e_build Try.underlying24 fl24 Try.zeroValue24 (pt (v := .int _ _) rfl (pt (v := .int _ _) rfl (pt (v := .int _ _) rfl (pt (v := .slice _ _ _) rfl (pt (v := .slice _ _ _) rfl E.p0))))) rfl) rfl rfl ?_
  refine X_st (v := .agg _) rfl rfl Try.sizeOf24 ?_
  refine XN ?_
  refine thenJ_normal ?_
  refine H_ret ?_
  exact ret_of rfl (resc1 2 rfl rfl Try.isAgg24 Try.sizeOf24 rfl rfl) fun w' hw => ⟨(b1, b2), rfl, hw.pick [0, 1] (by decide)⟩
theorem day_w (w : World) : Calls Try.prog 36 #[] w fun e w' => ∃ b : Nat, e = .returned (.slice (some ⟨b, 0, none⟩) 6 6) ∧ Mem w [box b 67 (dayL.flatMap Ev.cells)] w' := by
  refine H_enter Try.func36 rfl Try.ntmps36 rfl ?_
  refine H_seq ?_
  refine R0 ?_
  refine xV (e_as (v := .slice _ _ _) (q0 rfl)) rfl rfl ?_
  refine XN ?_
  refine thenJ_normal ?_
  refine H_seq ?_
  refine R0 ?_
  refine xV (e_build Try.underlying67 fl67 Try.zeroValue67 (pt (v := .int _ _) rfl (pt (v := .int _ _) rfl (pt (v := .int _ _) rfl (pt (v := .int _ _) rfl E.p0)))) rfl) rfl rfl ?_
  refine xV (e_build Try.underlying67 fl67 Try.zeroValue67 (pt (v := .int _ _) rfl (pt (v := .int _ _) rfl (pt (v := .int _ _) rfl (pt (v := .int _ _) rfl (pt (v := .int _ _) rfl E.p0))))) rfl) rfl rfl ?_
  refine xV (e_build Try.underlying67 fl67 Try.zeroValue67 (pt (v := .int _ _) rfl (pt (v := .int _ _) rfl (pt (v := .int _ _) rfl (pt (v := .int _ _) rfl (pt (v := .int _ _) rfl E.p0))))) rfl) rfl rfl ?_
  refine xV (e_build Try.underlying67 fl67 Try.zeroValue67 (pt (v := .int _ _) rfl (pt (v := .int _ _) rfl (pt (v := .int _ _) rfl (pt (v := .int _ _) rfl (pt (v := .int _ _) rfl E.p0))))) rfl) rfl rfl ?_
  refine xV (e_build Try.underlying67 fl67 Try.zeroValue67 (pt (v := .int _ _) rfl (pt (v := .int _ _) rfl (pt (v := .int _ _) rfl (pt (v := .int _ _) rfl E.p0)))) rfl) rfl rfl ?_
  refine xV (e_build Try.underlying67 fl67 Try.zeroValue67 (pt (v := .int _ _) rfl (pt (v := .int _ _) rfl (pt (v := .int _ _) rfl (pt (v := .int _ _) rfl (pt (v := .int _ _) rfl E.p0))))) rfl) rfl rfl ?_
  refine X_slit [(.int .i64 0), (.int .i64 0), (.int .i64 0), (.int .i64 0), (.int .i64 0), (.int .i64 0), (.int .i64 0), (.int .i64 0), (.int .i64 0), (.int .i64 0), (.int .i64 0), (.int .i64 0), (.int .i64 0), (.int .i64 0), (.int .i64 0), (.int .i64 0), (.int .i64 0), (.int .i64 0), (.int .i64 0), (.int .i64 0), (.int .i64 0), (.int .i64 0), (.int .i64 0), (.int .i64 0), (.int .i64 0), (.int .i64 0), (.int .i64 0), (.int .i64 0), (.int .i64 0), (.int .i64 0), (.int .i64 0), (.int .i64 0), (.int .i64 0), (.int .i64 0), (.int .i64 0), (.int .i64 0), (.int .i64 0), (.int .i64 0), (.int .i64 0), (.int .i64 0), (.int .i64 0), (.int .i64 0), (.int .i64 0), (.int .i64 0), (.int .i64 0), (.int .i64 0), (.int .i64 0), (.int .i64 0), (.int .i64 0), (.int .i64 0), (.int .i64 0), (.int .i64 0), (.int .i64 0), (.int .i64 0)] Try.underlying25 Try.sizeOf67 Try.zeroValue67 rfl (by kernel_rfl) (pt (v := .agg _) rfl (pt (v := .agg _) rfl (pt (v := .agg _) rfl (pt (v := .agg _) rfl (pt (v := .agg _) rfl (pt (v := .agg _) rfl E.p0)))))) rfl rfl fun b7 => ?_
  refine xV (e_as (v := .slice _ _ _) (q0 rfl)) rfl rfl ?_
  refine XN ?_
  refine thenJ_normal ?_
  refine H_ret ?_
  exact ret1 (v := .slice _ _ _) rfl rfl rfl fun w' hw => ⟨b7, rfl, hw⟩
theorem city_at {w0 w : World} {L : List E.Item} {x : Nat × Nat} (hw : Mem w0 L w) (i j : Nat) (hi : L[i]? = some (box x.2 3 [.int .i64 1])) (hj : L[j]? = some (box x.1 3 [.int .i64 2])) : FlAt w cityF (cityA x) :=
  ⟨slAt_box (enc := encInt) (xs := [2]) hw hj (fun _ => rfl) (by decide), slAt_box (enc := encInt) (xs := [1]) hw hi (fun _ => rfl) (by decide)⟩
theorem day_at {w0 w : World} {L : List E.Item} {b : Nat} (hw : Mem w0 L w) (i : Nat) (hi : L[i]? = some (box b 67 (dayL.flatMap Ev.cells))) : EvsAt w (some ⟨b, 0, none⟩) 6 dayL := slAt_box (xs := dayL) hw hi (fun _ => rfl) (by decide)
theorem aw_fl : flErr cityF = 0 := by decide +kernel
theorem aw_acc : (accOf cityF dayL).length = 4 := by unfold accOf; simp only [← refSet_eq]; decide +kernel
theorem aw_rej : rejOf cityF dayL = [⟨0, 2, 22⟩, ⟨0, 6, 24⟩] := by unfold rejOf; simp only [← refSet_eq]; decide +kernel
theorem aw_sty : staysOf cityF dayL 0 = [⟨0, 5, 0, 0, 0, 100⟩, ⟨0, 1, 0, 0, 100, 300⟩, ⟨0, 3, 0, 7, 300, 900⟩, ⟨0, 1, 1, 0, 900, 1000⟩, ⟨0, 4, 0, 0, 1000, 4294944000⟩] := by unfold staysOf; simp only [← refSet_eq]; decide +kernel
theorem aw_at1 : atOf cityF dayL 0 300 = ⟨3, 0, 7, false⟩ := by unfold atOf spotsOf untilP; simp only [← refSet_eq]; decide +kernel
theorem aw_at2 : atOf cityF dayL 0 299 = ⟨1, 0, 0, false⟩ := by unfold atOf spotsOf untilP; simp only [← refSet_eq]; decide +kernel
theorem aw_lv : loadsOf cityF dayL 0 = [⟨0, 0⟩, ⟨1000, 1⟩] := by unfold loadsOf; simp only [← refSet_eq]; decide +kernel
theorem aw_e1 : atErr cityF 0 300 = 0 := by decide +kernel
theorem aw_e2 : atErr cityF 0 299 = 0 := by decide +kernel
theorem aw_e3 : stayErr cityF 0 = 0 := by decide +kernel
theorem aw_e4 : loadErr cityF 0 = 0 := by decide +kernel
theorem aw_pl : PlOk dayL := by intro e he; simp [dayL] at he; rcases he with rfl | rfl | rfl | rfl | rfl | rfl <;> decide

attribute [local irreducible] accOf rejOf staysOf atOf loadsOf flErr
set_option maxRecDepth 20000 in
theorem awake_w (w : World) : Calls Try.prog 13 #[] w fun e w' => e = .returned (.bool true) ∧ Bel w w' := by
  refine H_enter Try.func13 rfl Try.ntmps13 rfl ?_
  refine H_seq ?_
  refine R0 ?_
  refine xV (e_as (v := .bool _) (q0 rfl)) rfl rfl ?_
  refine XN ?_
  refine thenJ_normal ?_
  refine H_seq ?_
  refine R0 ?_
  refine xCX (en Try.call35 (ha0)) (fun w hw => city_w w) rfl (fun _ => rfl) fun c1 => ?_
  refine xCX (en Try.call36 (ha0)) (fun w hw => day_w w) rfl (fun _ => rfl) fun d1 => ?_
  refine xCX (en Try.call14 (ha2 (q0 rfl) (q0 rfl))) (fun w hw => accepted_w cityF (cityA c1) _ 6 6 dayL w (city_at hw 1 2 rfl rfl) (day_at hw 0 rfl) (by decide) aw_pl) rfl (fun _ => rfl) fun r1 => ?_
  refine xV (e_mv (q0 rfl)) rfl rfl ?_
  refine xV (e_ext (q0 rfl) rfl) rfl rfl ?_
  refine xV (e_ext (q0 rfl) rfl) rfl rfl ?_
  refine xV (e_as (v := .slice _ _ _) (q0 rfl)) rfl rfl ?_
  refine xV (e_as (v := .int _ _) (q0 rfl)) rfl rfl ?_
  refine XN ?_
  refine thenJ_normal ?_
  refine H_seq ?_
  refine H_mem (L' := []) (fun w hw => mem_nil.2 hw.1) rfl ?_
  refine R0 ?_
  refine xCX (en Try.call35 (ha0)) (fun w hw => city_w w) rfl (fun _ => rfl) fun c2 => ?_
  refine xCX (en Try.call36 (ha0)) (fun w hw => day_w w) rfl (fun _ => rfl) fun d2 => ?_
  refine xCX (en Try.call16 (ha2 (q0 rfl) (q0 rfl))) (fun w hw => rejected_w cityF (cityA c2) _ 6 6 dayL w (city_at hw 1 2 rfl rfl) (day_at hw 0 rfl) (by decide) aw_pl) rfl (fun _ => rfl) fun r2 => ?_
  refine xV (e_mv (q0 rfl)) rfl rfl ?_
  refine xV (e_ext (q0 rfl) rfl) rfl rfl ?_
  refine xV (e_ext (q0 rfl) rfl) rfl rfl ?_
  refine xV (e_as (v := .slice _ _ _) (q0 rfl)) rfl rfl ?_
  refine xV (e_as (v := .int _ _) (q0 rfl)) rfl rfl ?_
  refine XN ?_
  refine thenJ_normal ?_
  refine H_seq ?_
  refine H_mem (L' := [rjRow r2.1 r2.2 (rejOf cityF dayL)]) (fun w hw => hw.pick [0] (by decide)) rfl ?_
  refine R0 ?_
  refine xCX (en Try.call35 (ha0)) (fun w hw => city_w w) rfl (fun _ => rfl) fun c3 => ?_
  refine xCX (en Try.call36 (ha0)) (fun w hw => day_w w) rfl (fun _ => rfl) fun d3 => ?_
  refine xCX (en Try.call25 (ha3 (q0 rfl) (q0 rfl) (q0 rfl))) (fun w hw => stays_w cityF (cityA c3) _ 6 6 dayL 0 w (city_at hw 1 2 rfl rfl) (day_at hw 0 rfl) (by decide) aw_pl) rfl (fun _ => rfl) fun r3 => ?_
  refine xV (e_mv (q0 rfl)) rfl rfl ?_
  refine xV (e_ext (q0 rfl) rfl) rfl rfl ?_
  refine xV (e_ext (q0 rfl) rfl) rfl rfl ?_
  refine xV (e_as (v := .slice _ _ _) (q0 rfl)) rfl rfl ?_
  refine xV (e_as (v := .int _ _) (q0 rfl)) rfl rfl ?_
  refine XN ?_
  refine thenJ_normal ?_
  refine H_seq ?_
  refine H_mem (L' := [styRow r3.1 r3.2 (staysOf cityF dayL 0), rjRow r2.1 r2.2 (rejOf cityF dayL)]) (fun w hw => hw.pick [0, 4] (by decide)) rfl ?_
  refine R0 ?_
  refine xCX (en Try.call35 (ha0)) (fun w hw => city_w w) rfl (fun _ => rfl) fun c4 => ?_
  refine xCX (en Try.call36 (ha0)) (fun w hw => day_w w) rfl (fun _ => rfl) fun d4 => ?_
  refine xC (en Try.call22 (ha4 (q0 rfl) (q0 rfl) (q0 rfl) (q0 rfl))) (fun _ w hw => at_w cityF (cityA c4) _ 6 6 dayL 0 300 w (city_at hw 1 2 rfl rfl) (day_at hw 0 rfl) (by decide) aw_pl) rfl rfl ?_
  refine xV (e_mv (q0 rfl)) rfl rfl ?_
  refine xV (e_ext (q0 rfl) rfl) rfl rfl ?_
  refine xV (e_ext (q0 rfl) rfl) rfl rfl ?_
  refine X_alloc Try.zeroValue41 rfl fun b7 => ?_
  refine X_st (v := .agg _) rfl rfl Try.sizeOf41 ?_
  refine xV (e_as (v := .int _ _) (q0 rfl)) rfl rfl ?_
  refine XN ?_
  refine thenJ_normal ?_
  refine H_seq ?_
  refine H_mem (L' := [box b7 41 (atOf cityF dayL 0 300).cells, styRow r3.1 r3.2 (staysOf cityF dayL 0), rjRow r2.1 r2.2 (rejOf cityF dayL)]) (fun w hw => hw.pick [0, 4, 5] (by decide)) rfl ?_
  refine R0 ?_
  refine xCX (en Try.call35 (ha0)) (fun w hw => city_w w) rfl (fun _ => rfl) fun c5 => ?_
  refine xCX (en Try.call36 (ha0)) (fun w hw => day_w w) rfl (fun _ => rfl) fun d5 => ?_
  refine xC (en Try.call22 (ha4 (q0 rfl) (q0 rfl) (q0 rfl) (q0 rfl))) (fun _ w hw => at_w cityF (cityA c5) _ 6 6 dayL 0 299 w (city_at hw 1 2 rfl rfl) (day_at hw 0 rfl) (by decide) aw_pl) rfl rfl ?_
  refine xV (e_mv (q0 rfl)) rfl rfl ?_
  refine xV (e_ext (q0 rfl) rfl) rfl rfl ?_
  refine xV (e_ext (q0 rfl) rfl) rfl rfl ?_
  refine X_alloc Try.zeroValue41 rfl fun b9 => ?_
  refine X_st (v := .agg _) rfl rfl Try.sizeOf41 ?_
  refine xV (e_as (v := .int _ _) (q0 rfl)) rfl rfl ?_
  refine XN ?_
  refine thenJ_normal ?_
  refine H_seq ?_
  refine H_mem (L' := [box b9 41 (atOf cityF dayL 0 299).cells, box b7 41 (atOf cityF dayL 0 300).cells, styRow r3.1 r3.2 (staysOf cityF dayL 0), rjRow r2.1 r2.2 (rejOf cityF dayL)]) (fun w hw => hw.pick [0, 4, 5, 6] (by decide)) rfl ?_
  refine R0 ?_
  refine xCX (en Try.call35 (ha0)) (fun w hw => city_w w) rfl (fun _ => rfl) fun c6 => ?_
  refine xCX (en Try.call36 (ha0)) (fun w hw => day_w w) rfl (fun _ => rfl) fun d6 => ?_
  refine xCX (en Try.call27 (ha3 (q0 rfl) (q0 rfl) (q0 rfl))) (fun w hw => loads_w cityF (cityA c6) _ 6 6 dayL 0 w (city_at hw 1 2 rfl rfl) (day_at hw 0 rfl) (by decide) aw_pl) rfl (fun _ => rfl) fun r6 => ?_
  refine xV (e_mv (q0 rfl)) rfl rfl ?_
  refine xV (e_ext (q0 rfl) rfl) rfl rfl ?_
  refine xV (e_ext (q0 rfl) rfl) rfl rfl ?_
  refine xV (e_as (v := .slice _ _ _) (q0 rfl)) rfl rfl ?_
  refine xV (e_as (v := .int _ _) (q0 rfl)) rfl rfl ?_
  refine XN ?_
  refine thenJ_normal ?_
  refine H_seq ?_
  refine H_seq ?_
  refine H_mem (L' := [lvRow r6.1 r6.2 (loadsOf cityF dayL 0), box b9 41 (atOf cityF dayL 0 299).cells, box b7 41 (atOf cityF dayL 0 300).cells, styRow r3.1 r3.2 (staysOf cityF dayL 0), rjRow r2.1 r2.2 (rejOf cityF dayL)]) (fun w hw => hw.pick [0, 4, 5, 6, 7] (by decide)) rfl ?_
  rw [aw_lv, aw_at1, aw_at2, aw_sty, aw_rej, aw_acc, aw_fl, aw_e1, aw_e2, aw_e3, aw_e4]
  refine H_know (fun w hw => rowT_at (j := 3) hw rfl (by decide)) fun ⟨q3, hq3⟩ => ?_
  obtain ⟨r31, r32⟩ := r3
  simp only at hq3
  subst hq3
  refine R0 ?_
  refine xV (e_mv (v := .int _ _) (q0 rfl)) rfl rfl ?_
  refine xV (e_ne (q0 rfl) (q0 rfl)) rfl rfl ?_
  refine xV (e_mv (v := .bool _) (q0 rfl)) rfl rfl ?_
  refine xVF (e_mv (v := .int _ _) (q0 rfl)) rfl rfl rfl rfl ?_
  refine xVF (e_ne (q1 rfl) (q0 rfl)) rfl rfl rfl rfl ?_
  refine xV (e_or (q0 rfl) rfl (fun h => by first | rfl | (rw [h]; rfl))) rfl rfl ?_
  refine xV (e_mv (v := .bool _) (q0 rfl)) rfl rfl ?_
  refine xVF (e_mv (v := .int _ _) (q0 rfl)) rfl rfl rfl rfl ?_
  refine xVF (e_ne (q1 rfl) (q0 rfl)) rfl rfl rfl rfl ?_
  refine xV (e_or (q0 rfl) rfl (fun h => by first | rfl | (rw [h]; rfl))) rfl rfl ?_
  refine xV (e_mv (v := .bool _) (q0 rfl)) rfl rfl ?_
  refine xVF (e_mv (v := .int _ _) (q0 rfl)) rfl rfl rfl rfl ?_
  refine xVF (e_ne (q1 rfl) (q0 rfl)) rfl rfl rfl rfl ?_
  refine xV (e_or (q0 rfl) rfl (fun h => by first | rfl | (rw [h]; rfl))) rfl rfl ?_
  refine xV (e_mv (v := .bool _) (q0 rfl)) rfl rfl ?_
  refine xVF (e_mv (v := .int _ _) (q0 rfl)) rfl rfl rfl rfl ?_
  refine xVF (e_ne (q1 rfl) (q0 rfl)) rfl rfl rfl rfl ?_
  refine xV (e_or (q0 rfl) rfl (fun h => by first | rfl | (rw [h]; rfl))) rfl rfl ?_
  refine xV (e_mv (v := .bool _) (q0 rfl)) rfl rfl ?_
  refine xVF (e_mv (v := .int _ _) (q0 rfl)) rfl rfl rfl rfl ?_
  refine xVF (e_ne (q1 rfl) (q0 rfl)) rfl rfl rfl rfl ?_
  refine xV (e_or (q0 rfl) rfl (fun h => by first | rfl | (rw [h]; rfl))) rfl rfl ?_
  refine xV (e_mv (v := .bool _) (q0 rfl)) rfl rfl ?_
  refine xVF (e_mv (v := .slice _ _ _) (q0 rfl)) rfl rfl rfl rfl ?_
  refine xVF (e_len Try.underlying25 (q1 rfl)) rfl rfl rfl rfl ?_
  refine xVF (e_ne (q1 rfl) (q0 rfl)) rfl rfl rfl rfl ?_
  refine xV (e_or (q0 rfl) rfl (fun h => by first | rfl | (rw [h]; rfl))) rfl rfl ?_
  refine xV (e_mv (v := .bool _) (q0 rfl)) rfl rfl ?_
  refine xVF (e_mv (v := .slice _ _ _) (q0 rfl)) rfl rfl rfl rfl ?_
  refine xVF (e_len Try.underlying46 (q1 rfl)) rfl rfl rfl rfl ?_
  refine xVF (e_ne (q1 rfl) (q0 rfl)) rfl rfl rfl rfl ?_
  refine xV (e_or (q0 rfl) rfl (fun h => by first | rfl | (rw [h]; rfl))) rfl rfl ?_
  refine XN ?_
  refine thenJ_normal ?_
  refine H_cond rfl (fun h1 => ?_) (fun h1 => ?_)
  · exact absurd h1 (by decide)
  · refine H_skip ?_
    refine thenJ_normal ?_
    refine H_seq ?_
    refine H_seq ?_
    refine R0 ?_
    refine xV (e_mv (v := .slice _ _ _) (q0 rfl)) rfl rfl ?_
    refine xV (e_build Try.underlying69 fl69 Try.zeroValue69 (pt (v := .int _ _) rfl (pt (v := .int _ _) rfl E.p0)) rfl) rfl rfl ?_
    refine xV (e_build Try.underlying69 fl69 Try.zeroValue69 (pt (v := .int _ _) rfl (pt (v := .int _ _) rfl E.p0)) rfl) rfl rfl ?_
    refine X_slit [(.int .i64 0), (.int .i64 0), (.int .i64 0), (.int .i64 0), (.int .i64 0), (.int .i64 0)] Try.underlying31 Try.sizeOf69 Try.zeroValue69 rfl (by kernel_rfl) (pt (v := .agg _) rfl (pt (v := .agg _) rfl E.p0)) rfl rfl fun b84 => ?_
    refine xC (en Try.call19 (ha2 (q0 rfl) (q0 rfl))) (fun _ w hw => sameRj_w r2.1 (some ⟨b84, 0, none⟩) 2 2 r2.2 2 [⟨0, 2, 22⟩, ⟨0, 6, 24⟩] [⟨0, 2, 22⟩, ⟨0, 6, 24⟩] w (slAt_row hw (j := 5) rfl (fun _ => rfl) (by decide)) (slAt_box (enc := Rj.cells) (xs := [⟨0, 2, 22⟩, ⟨0, 6, 24⟩]) hw (j := 0) rfl (fun _ => rfl) (by decide))) rfl rfl ?_
    refine xV (e_not (q0 rfl)) rfl rfl ?_
    refine XN ?_
    refine thenJ_normal ?_
    refine H_cond rfl (fun h2 => ?_) (fun h2 => ?_)
    · exact absurd h2 (by decide)
    · have _ht : True := trivial
      refine H_skip ?_
      refine thenJ_normal ?_
      refine H_seq ?_
      refine H_seq ?_
      refine R0 ?_
      refine xV (e_mv (v := .slice _ _ _) (q0 rfl)) rfl rfl ?_
      refine xV (e_idx 2 Try.underlying46 Try.sizeOf57 (q0 rfl) (q0 rfl) (fun _ => ⟨rfl, by decide⟩)) rfl rfl ?_
      refine xV (e_lds Try.isAgg57 Try.sizeOf57 (q0 rfl) (rrs 4 rfl (x := ⟨0, 3, 0, 7, 300, 900⟩) rfl) rfl) rfl rfl ?_
      refine xV (e_build Try.underlying55 fl55 Try.zeroValue55 (pt (v := .int _ _) rfl (pt (v := .int _ _) rfl E.p0)) rfl) rfl rfl ?_
      refine xV (e_build Try.underlying57 fl57 Try.zeroValue57 (pt (v := .int _ _) rfl (pt (v := .int _ _) rfl (pt (v := .agg _) rfl E.p0))) rfl) rfl rfl ?_
      refine xV (e_neS (fun w => sameSty_w_eq ⟨0, 3, 0, 7, 300, 900⟩ ⟨0, 3, 0, 7, 300, 900⟩ w) (by kernel_rfl) (q0 rfl) (q0 rfl)) rfl rfl ?_
      refine xV (e_mv (v := .bool _) (q0 rfl)) rfl rfl ?_
      refine xVF (e_mv (v := .slice _ _ _) (q0 rfl)) rfl rfl rfl rfl ?_
      refine xVF (e_idx 4 Try.underlying46 Try.sizeOf57 (q1 rfl) (q0 rfl) (fun _ => ⟨rfl, by decide⟩)) rfl rfl rfl rfl ?_
      refine xVF (e_fld Try.underlying57 rfl Try.sizeOf55 rfl (q1 rfl)) rfl rfl rfl rfl ?_
      refine xVF (e_fld Try.underlying55 rfl Try.sizeOf3 rfl (q1 rfl)) rfl rfl rfl rfl ?_
      refine xVF (e_ld (v := .int .i64 4294944000) Try.isAgg3 (q1 rfl) (rr 4 (r := 5) rfl (x := ⟨0, 4, 0, 0, 1000, 4294944000⟩) rfl rfl)) rfl rfl rfl rfl ?_
      refine xVF (e_ne (q1 rfl) (q0 rfl)) rfl rfl rfl rfl ?_
      refine xV (e_or (q0 rfl) rfl (fun h => by first | rfl | (rw [h]; rfl))) rfl rfl ?_
      refine XN ?_
      refine thenJ_normal ?_
      refine H_cond rfl (fun h3 => ?_) (fun h3 => ?_)
      · exact absurd h3 (by decide)
      · have _ht : True := trivial
        refine H_skip ?_
        refine thenJ_normal ?_
        refine H_seq ?_
        refine R0 ?_
        refine xV (eS Try.isAgg41 Try.sizeOf41 (q0 rfl)) rfl rfl ?_
        refine xV (e_build Try.underlying41 fl41 Try.zeroValue41 (pt (v := .int _ _) rfl (pt (v := .int _ _) rfl E.p0)) rfl) rfl rfl ?_
        refine xV (e_eqS (fun w => sameSp_w_eq ⟨3, 0, 7, false⟩ ⟨3, 0, 7, false⟩ w) (by kernel_rfl) (q0 rfl) (q0 rfl)) rfl rfl ?_
        refine xV (e_mv (v := .bool _) (q0 rfl)) rfl rfl ?_
        refine xVT (eS Try.isAgg41 Try.sizeOf41 (q0 rfl)) rfl rfl rfl rfl ?_
        refine xVT (EvG.any (e_build Try.underlying41 fl41 Try.zeroValue41 (pt (v := .int _ _) rfl E.p0) rfl)) rfl rfl rfl rfl ?_
        refine xVT (e_eqS (fun w => sameSp_w_eq ⟨1, 0, 0, false⟩ ⟨1, 0, 0, false⟩ w) (by kernel_rfl) (q1 rfl) (q1 rfl)) rfl rfl rfl rfl ?_
        refine xV (e_and (q0 rfl) rfl (fun h => by first | rfl | (rw [h]; rfl))) rfl rfl ?_
        refine xV (e_mv (v := .bool _) (q0 rfl)) rfl rfl ?_
        refine xVk (gdT (by decide) rfl rfl) (e_mv (v := .slice _ _ _) (q0 rfl)) rfl rfl ?_
        refine xVk (gdT (by decide) rfl rfl) (e_build Try.underlying63 fl63 Try.zeroValue63 E.p0 rfl) rfl rfl ?_
        refine xVk (gdT (by decide) rfl rfl) (e_build Try.underlying63 fl63 Try.zeroValue63 (pt (v := .int _ _) rfl (pt (v := .int _ _) rfl E.p0)) rfl) rfl rfl ?_
        refine X_slitG (gdT (by decide) rfl rfl) [.int .i64 0, .int .i64 0, .int .i64 0, .int .i64 0] Try.underlying49 Try.sizeOf63 Try.zeroValue63 rfl (by kernel_rfl) (pt (v := .agg _) rfl (pt (v := .agg _) rfl E.p0)) rfl rfl fun b113 => ?_
        refine xCk (gdT (by decide) rfl rfl) (en Try.call30 (ha2 (q0 rfl) (q0 rfl))) (fun _ w hw => sameLv_w r6.1 (some ⟨b113, 0, none⟩) 2 2 r6.2 2 [⟨0, 0⟩, ⟨1000, 1⟩] [⟨0, 0⟩, ⟨1000, 1⟩] w (slAt_row hw (j := 2) rfl (fun _ => rfl) (by decide)) (slAt_box (enc := Lv.cells) (xs := [⟨0, 0⟩, ⟨1000, 1⟩]) hw (j := 0) rfl (fun _ => rfl) (by decide))) rfl rfl ?_
        refine xV (e_and (g2 := true) (q0 rfl) gv_true.symm (fun _ => by decide)) rfl rfl ?_
        refine xV (e_as (v := .bool _) (q0 rfl)) rfl rfl ?_
        refine XN ?_
        refine thenJ_normal ?_
        refine H_ret ?_
        exact ret1 (v := .bool _) rfl rfl rfl fun w' hw => ⟨ret_bool (by decide), hw.1⟩

end Go.Proofs.Cus

/-
  The walks: few, turned; the law of the order.
-/
namespace Go.Proofs.Cus
open Go Go.RowKit Go.Proofs.E

def fewP (a : FA) (n : Nat) : Bool := (decide ((n : Int) ≤ 60) && decide ((a.dn : Int) ≤ 40)) && decide ((a.tn : Int) ≤ 20)
theorem few_w (f : Fl) (a : FA) (A : Option Addr) (n c : Nat) (w : World) : Calls Try.prog 12 #[.agg (f.cells a).toArray, .slice A n c] w fun e w' => e = .returned (.bool (fewP a n)) ∧ Bel w w' := by
  refine H_enter Try.func12 rfl Try.ntmps12 rfl ?_
  refine H_seq ?_
  refine R0 ?_
  refine X_box (v := .agg _) rfl rfl fun b2 => ?_
  refine xV (e_as (v := .bool _) (q0 rfl)) rfl rfl ?_
  refine XN ?_
  refine thenJ_normal ?_
  refine H_seq ?_
  refine R0 ?_
  refine xV (e_mv (v := .slice _ _ _) (q0 rfl)) rfl rfl ?_
  refine xV (e_len Try.underlying25 (q0 rfl)) rfl rfl ?_
  refine xV (e_le (q0 rfl) (q0 rfl)) rfl rfl ?_
  refine xV (e_mv (v := .bool _) (q0 rfl)) rfl rfl ?_
  refine xVT (e_fld Try.underlying24 rfl Try.sizeOf22 rfl (q0 rfl)) rfl rfl rfl rfl ?_
  refine xVT (eL Try.isAgg22 (q1 rfl)) rfl rfl rfl rfl ?_
  refine xVT (e_len Try.underlying22 (q1 rfl)) rfl rfl rfl rfl ?_
  refine xVT (e_le (q1 rfl) (q0 rfl)) rfl rfl rfl rfl ?_
  refine xV (e_and (q0 rfl) rfl (fun h => by first | rfl | (rw [h]; rfl))) rfl rfl ?_
  refine xV (e_mv (v := .bool _) (q0 rfl)) rfl rfl ?_
  refine xVT (e_fld Try.underlying24 rfl Try.sizeOf22 rfl (q0 rfl)) rfl rfl rfl rfl ?_
  refine xVT (eL Try.isAgg22 (q1 rfl)) rfl rfl rfl rfl ?_
  refine xVT (e_len Try.underlying22 (q1 rfl)) rfl rfl rfl rfl ?_
  refine xVT (e_le (q1 rfl) (q0 rfl)) rfl rfl rfl rfl ?_
  refine xV (e_and (q0 rfl) rfl (fun h => by first | rfl | (rw [h]; rfl))) rfl rfl ?_
  refine xV (e_as (v := .bool _) (q0 rfl)) rfl rfl ?_
  refine XN ?_
  refine thenJ_normal ?_
  refine H_ret ?_
  exact ret1 (v := .bool _) rfl rfl rfl fun w' hw => ⟨rfl, hw.1⟩

def turnEl (step : Int) (i : Nat) (x : Ev) : List Ev := if ((i : Int) + step) % 3 = 0 then [x, x] else [x]
/-- from the k-th element down -/
def turnP (xs : List Ev) (step : Int) : Nat → List Ev
  | 0 => []
  | k + 1 => (match xs[k]? with | some x => turnEl step k x | none => []) ++ turnP xs step k
def turnTo (xs : List Ev) (step : Int) (n : Nat) : Nat → List Ev
  | 0 => []
  | d + 1 => turnTo xs step n d ++ (match xs[n - 1 - d]? with | some x => turnEl step (n - 1 - d) x | none => [])
theorem turnTo_len (xs : List Ev) (step : Int) (n : Nat) : ∀ d, (turnTo xs step n d).length ≤ 2 * d
  | 0 => by simp [turnTo]
  | d + 1 => by
    have := turnTo_len xs step n d
    simp only [turnTo, List.length_append]
    split
    · unfold turnEl; split <;> simp <;> omega
    · simp; omega
theorem turnTo_mem {n : Nat} (xs : List Ev) (step : Int) (hn : xs.length = n) : ∀ d, d ≤ n → ∀ e, e ∈ turnTo xs step n d ↔ ∃ i, n - d ≤ i ∧ xs[i]? = some e
  | 0, _, e => by
    simp only [turnTo, List.not_mem_nil, false_iff, not_exists, not_and]
    intro i hi h
    have := (List.getElem?_eq_some_iff.1 h).1
    omega
  | d + 1, hd, e => by
    simp only [turnTo, List.mem_append, turnTo_mem xs step hn d (by omega)]
    obtain ⟨x, hx⟩ : ∃ x, xs[n - 1 - d]? = some x := ⟨_, List.getElem?_eq_getElem (by omega)⟩
    rw [hx]
    simp only
    have hmem : e ∈ turnEl step (n - 1 - d) x ↔ e = x := by unfold turnEl; split <;> simp
    rw [hmem]
    constructor
    · rintro (⟨i, hi, h⟩ | rfl)
      · exact ⟨i, by omega, h⟩
      · exact ⟨n - 1 - d, by omega, hx⟩
    · rintro ⟨i, hi, h⟩
      by_cases hid : i = n - 1 - d
      · right; rw [hid, hx] at h; simpa using h.symm
      · left; exact ⟨i, by omega, h⟩
theorem turned_set (xs : List Ev) (step : Int) : setOf (turnTo xs step xs.length xs.length) = setOf xs := by
  refine (set_isSet _).unique ((set_isSet xs).congr fun e => ?_)
  rw [turnTo_mem xs step rfl _ (Nat.le_refl _)]
  simp only [Nat.sub_self, Nat.zero_le, true_and]
  exact List.mem_iff_getElem?
theorem turned_pl (xs : List Ev) (step : Int) (h : PlOk xs) : PlOk (turnTo xs step xs.length xs.length) := fun e he => by
  obtain ⟨i, _, hi⟩ := (turnTo_mem xs step rfl _ (Nat.le_refl _) e).1 he
  exact h e (List.mem_of_getElem? hi)
attribute [local irreducible] turnTo
theorem turned_w (A : Option Addr) (n c : Nat) (xs : List Ev) (step : Int) (w : World) (hx : EvsAt w A n xs) (hn : n ≤ 10000) (hst : 0 ≤ step ∧ step ≤ 255) :
    Calls Try.prog 31 #[.slice A n c, .int .u8 step] w fun e w' => ∃ x : Option Addr × Nat, e = .returned (.slice x.1 (turnTo xs step n n).length x.2) ∧ Mem w [evRow x.1 x.2 (turnTo xs step n n)] w' := by
  have hl := hx.1
  have h0 : turnTo xs step n 0 = [] := by unfold turnTo; rfl
  have hs : ∀ d x, xs[n - 1 - d]? = some x → turnTo xs step n (d + 1) = turnTo xs step n d ++ turnEl step (n - 1 - d) x := fun d x hx => by conv => lhs; unfold turnTo; rw [hx]
  have hlen := turnTo_len xs step n
  generalize turnTo xs step n = T at *
  refine H_enter Try.func31 rfl Try.ntmps31 rfl ?_
  refine H_seq ?_
  refine R0 ?_
  refine xV (e_as (v := .slice _ _ _) (q0 rfl)) rfl rfl ?_
  refine XN ?_
  refine thenJ_normal ?_
  refine H_seq ?_
  refine R0 ?_
  refine xV (e_as (v := .slice _ _ _) (q0 rfl)) rfl rfl ?_
  refine XN ?_
  refine thenJ_normal ?_
  refine H_seq ?_
  refine H_seq ?_
  refine R0 ?_
  refine xV (e_mv (v := .slice _ _ _) (q0 rfl)) rfl rfl ?_
  refine xV (e_len Try.underlying25 (q0 rfl)) rfl rfl ?_
  refine xV (e_sub (q0 rfl) (q0 rfl) (fun _ => ⟨rfl, by omega, by omega⟩)) rfl rfl ?_
  refine xV (e_as (v := .int _ _) (q0 rfl)) rfl rfl ?_
  refine XN ?_
  refine thenJ_normal ?_
  refine H_block ?_
  refine H_loop [5, 6, 10, 11, 12, 13, 14, 15, 16, 17, 18, 19, 20, 21, 22, 23, 24, 25, 26, 27, 28, 29, 30, 31, 32, 33] (fun s : Nat × Option Addr × Nat => [(6, .int .i64 ((n : Int) - 1 - s.1)), (5, .slice s.2.1 (T s.1).length s.2.2)]) (fun s => [evRow s.2.1 s.2.2 (T s.1)]) (fun s => s.1 ≤ n) (fun s => n - s.1) (0, none, 0) ⟨by show Value.int .i64 ((n : Int) - 1) = Value.int .i64 ((n : Int) - 1 - 0); simp, by show _ = Value.slice none (T 0).length 0; rw [h0]; rfl, trivial⟩ (fun w hw => by show Mem _ [evRow none 0 (T 0)] w; rw [h0]; exact hw.nilRow _ _ _ rfl) rfl (Nat.zero_le _) ?_
  rintro s g hk
  refine H_seq ?_
  refine H_seq ?_
  refine R0 ?_
  refine xV (e_mv (v := .int _ _) (q0 rfl)) rfl rfl ?_
  refine xV (e_ge (q0 rfl) (q0 rfl)) rfl rfl ?_
  refine XN ?_
  refine thenJ_normal ?_
  refine H_cond rfl (fun hlt => ?_) (fun hlt => ?_)
  · have hlt' : s.1 < n := by simp at hlt; omega
    obtain ⟨i, hi⟩ : ∃ i : Nat, i = n - 1 - s.1 := ⟨_, rfl⟩
    have hin : (n : Int) - 1 - (s.1 : Int) = (i : Int) := by omega
    have hi2 : i < n := by omega
    obtain ⟨b, off, x, rfl, hbl, hxk, hrx⟩ := hx.at_ hi2
    have hst2 := hs s.1 x (by rw [← hi]; exact hxk)
    have hll := hlen s.1
    rw [← hi] at hst2
    rw [hin]
    refine H_skip ?_
    refine thenJ_normal ?_
    refine H_seq ?_
    refine H_block ?_
    refine H_seq ?_
    refine R0 ?_
    refine xV (e_mv (v := .slice _ _ _) (q0 rfl)) rfl rfl ?_
    refine xV (e_mv (v := .slice _ _ _) (q0 rfl)) rfl rfl ?_
    refine xV (e_mv (v := .int _ _) (q0 rfl)) rfl rfl ?_
    refine xV (e_idx _ Try.underlying25 Try.sizeOf67 (q0 rfl) (q0 rfl) (fun _ => ⟨rfl, by omega⟩)) rfl rfl ?_
    refine xV (eS Try.isAgg67 Try.sizeOf67 (q0 rfl)) rfl rfl ?_
    refine X_push (k := 9) (i := Try.t67) 0 (x) Try.underlying25 (by kernel_rfl) rfl rfl rfl rfl Try.sizeOf67 Try.zeroValue67 rfl rfl rfl rfl rfl rfl ⟨by omega, by decide⟩ rfl rfl fun B A1 c1 => ?_
    refine xV (e_as (v := .slice _ _ _) (q0 rfl)) rfl rfl ?_
    refine XN ?_
    refine thenJ_normal ?_
    refine H_seq ?_
    refine R0 ?_
    refine xV (e_mv (v := .int _ _) (q0 rfl)) rfl rfl ?_
    refine xV (e_mv (v := .int _ _) (q0 rfl)) rfl rfl ?_
    refine xV (e_cvt Try.underlying5 Try.underlying3 (q0 rfl) (fun _ => by omega)) rfl rfl ?_
    refine xV (e_add (q0 rfl) (q0 rfl) (fun _ => ⟨rfl, by omega, by omega⟩)) rfl rfl ?_
    refine xV (e_rem (q0 rfl) (q0 rfl) (fun _ => by omega)) rfl rfl ?_
    refine xV (e_eq (q0 rfl) (q0 rfl)) rfl rfl ?_
    refine XN ?_
    refine thenJ_normal ?_
    refine H_cond rfl (fun hm => ?_) (fun hm => ?_)
    · have hm' : ((i : Int) + step) % 3 = 0 := by simpa using hm
      have hT : T (s.1 + 1) = T s.1 ++ [x] ++ [x] := by rw [hst2]; unfold turnEl; rw [if_pos hm']; simp
      refine R0 ?_
      refine xV (e_mv (v := .slice _ _ _) (q0 rfl)) rfl rfl ?_
      refine xV (e_mv (v := .slice _ _ _) (q0 rfl)) rfl rfl ?_
      refine xV (e_mv (v := .int _ _) (q0 rfl)) rfl rfl ?_
      refine xV (e_idx _ Try.underlying25 Try.sizeOf67 (q0 rfl) (q0 rfl) (fun _ => ⟨rfl, by omega⟩)) rfl rfl ?_
      refine xV (eS Try.isAgg67 Try.sizeOf67 (q0 rfl)) rfl rfl ?_
      refine X_push (k := 9) (i := Try.t67) 0 (x) Try.underlying25 (by kernel_rfl) rfl rfl rfl rfl Try.sizeOf67 Try.zeroValue67 rfl rfl rfl rfl rfl rfl ⟨by simp; omega, by decide⟩ rfl rfl fun B2 A2 c2 => ?_
      refine xV (e_as (v := .slice _ _ _) (q0 rfl)) rfl rfl ?_
      refine XN ?_
      refine blockJ_normal ?_
      refine thenJ_normal ?_
      refine R0 ?_
      refine xV (e_mv (v := .int _ _) (q0 rfl)) rfl rfl ?_
      refine xV (e_sub (q0 rfl) (q0 rfl) (fun _ => ⟨rfl, by omega, by omega⟩)) rfl rfl ?_
      refine xV (e_as (v := .int _ _) (q0 rfl)) rfl rfl ?_
      refine XN ?_
      exact loopJ_normal (s.1 + 1, A2, c2) (by repeat (first | exact agree_self | exact agree_over | refine agree_upd rfl ?_ | refine agree_updL rfl ?_ | refine agree_over2 rfl ?_)) ⟨by show Value.int .i64 ((i : Int) - 1) = Value.int .i64 ((n : Int) - 1 - ((s.1 + 1 : Nat) : Int)); congr 1; omega, by show _ = Value.slice _ (T (s.1 + 1)).length _; rw [hT]; rfl, trivial⟩ (fun w hw => by show Mem _ [evRow A2 c2 (T (s.1 + 1))] w; rw [hT]; exact hw) rfl (by show s.1 + 1 ≤ n; omega) (by show n - (s.1 + 1) < n - s.1; omega)
    · have hm' : ¬ ((i : Int) + step) % 3 = 0 := by simpa using hm
      have hT : T (s.1 + 1) = T s.1 ++ [x] := by rw [hst2]; unfold turnEl; rw [if_neg hm']
      refine H_skip ?_
      refine blockJ_normal ?_
      refine thenJ_normal ?_
      refine R0 ?_
      refine xV (e_mv (v := .int _ _) (q0 rfl)) rfl rfl ?_
      refine xV (e_sub (q0 rfl) (q0 rfl) (fun _ => ⟨rfl, by omega, by omega⟩)) rfl rfl ?_
      refine xV (e_as (v := .int _ _) (q0 rfl)) rfl rfl ?_
      refine XN ?_
      exact loopJ_normal (s.1 + 1, A1, c1) (by repeat (first | exact agree_self | exact agree_over | refine agree_upd rfl ?_ | refine agree_updL rfl ?_ | refine agree_over2 rfl ?_)) ⟨by show Value.int .i64 ((i : Int) - 1) = Value.int .i64 ((n : Int) - 1 - ((s.1 + 1 : Nat) : Int)); congr 1; omega, by show _ = Value.slice _ (T (s.1 + 1)).length _; rw [hT]; rfl, trivial⟩ (fun w hw => by show Mem _ [evRow A1 c1 (T (s.1 + 1))] w; rw [hT]; exact hw) rfl (by show s.1 + 1 ≤ n; omega) (by show n - (s.1 + 1) < n - s.1; omega)
  · have hend : s.1 = n := by simp at hlt; omega
    refine H_exit ?_
    refine thenJ_exit ?_
    refine loopJ_exit ?_
    refine blockJ_hit ?_
    refine thenJ_normal ?_
    refine H_seq ?_
    refine R0 ?_
    refine xV (e_mv (v := .slice _ _ _) (q0 rfl)) rfl rfl ?_
    refine xV (e_as (v := .slice _ _ _) (q0 rfl)) rfl rfl ?_
    refine XN ?_
    refine thenJ_normal ?_
    refine H_ret ?_
    exact ret1 (v := .slice _ _ _) rfl rfl rfl fun w' hw => ⟨(s.2.1, s.2.2), by rw [← hend], by rw [← hend]; exact hw⟩

theorem slRow {α : Type} {e : TypeId} {k : Nat} {enc : α → List Value} {A : Option Addr} {xs : List α} {w0 w : World} {L : List E.Item} {j c : Nat} (h : Mem w0 L w) (hk : L[j]? = some (rowT e k enc A c xs)) (he : ∀ x, (enc x).length = k) : SlAt w k enc A xs.length xs :=
  slAt_row h hk he (by have := rowT_cap h hk; omega)
theorem ord_eq {f : Fl} {xs ys : List Ev} (h : setOf xs = setOf ys) (bike : Int) : spotsOf f xs = spotsOf f ys ∧ rejOf f xs = rejOf f ys ∧ staysOf f xs bike = staysOf f ys bike := by
  unfold spotsOf rejOf staysOf
  rw [h]
  exact ⟨rfl, rfl, rfl⟩
attribute [local irreducible] spotsOf rejOf staysOf flErr stayErr fewP
set_option maxRecDepth 20000 in
theorem order_w (f : Fl) (a : FA) (A : Option Addr) (n c : Nat) (xs : List Ev) (bike step : Int) (w : World) (hf : FlAt w f a) (hx : EvsAt w A n xs) (hpl : PlOk xs) (hst : 0 ≤ step ∧ step ≤ 255) :
    Calls Try.prog 7 #[.agg (f.cells a).toArray, .slice A n c, .int .i64 bike, .int .u8 step] w fun e w' => e = .returned (.bool true) ∧ Bel w w' := by
  have hl := hx.1
  refine H_enter Try.func7 rfl Try.ntmps7 rfl ?_
  refine H_seq ?_
  refine R0 ?_
  refine X_box (v := .agg _) rfl rfl fun b4 => ?_
  refine xV (e_as (v := .bool _) (q0 rfl)) rfl rfl ?_
  refine XN ?_
  refine thenJ_normal ?_
  refine H_seq ?_
  refine H_seq ?_
  refine R0 ?_
  refine xV (eS Try.isAgg24 Try.sizeOf24 (q0 rfl)) rfl rfl ?_
  refine xV (e_mv (v := .slice _ _ _) (q0 rfl)) rfl rfl ?_
  refine xC (en Try.call12 (ha2 (q0 rfl) (q0 rfl))) (fun _ w _ => few_w f a A n c w) rfl rfl ?_
  refine xV (e_not (q0 rfl)) rfl rfl ?_
  refine xV (e_mv (v := .bool _) (q0 rfl)) rfl rfl ?_
  refine xVF (e_mv (v := .slice _ _ _) (q0 rfl)) rfl rfl rfl rfl ?_
  refine xVF (e_len Try.underlying25 (q1 rfl)) rfl rfl rfl rfl ?_
  refine xVF (e_gt (q1 rfl) (q0 rfl)) rfl rfl rfl rfl ?_
  refine xV (e_or (q0 rfl) rfl (fun h => by first | rfl | (rw [h]; rfl))) rfl rfl ?_
  refine XN ?_
  refine thenJ_normal ?_
  refine H_cond rfl (fun h1 => ?_) (fun h1 => ?_)
  · refine H_seq ?_
    refine R0 ?_
    refine xC (en Try.call13 (ha0)) (fun _ w _ => awake_w w) rfl rfl ?_
    refine xV (e_as (v := .bool _) (q0 rfl)) rfl rfl ?_
    refine XN ?_
    refine thenJ_normal ?_
    refine H_ret ?_
    refine thenJ_ret ?_
    exact ret1 (v := .bool _) rfl rfl rfl fun w' hw => ⟨rfl, hw.1⟩
  · have hn : n ≤ 40 := by
      have h2 : (!fewP a n || decide ((40 : Int) < n)) = false := h1
      simp at h2
      omega
    subst hl
    obtain ⟨e1, e2, e3⟩ := ord_eq (f := f) (turned_set xs step) bike
    have hlen := turnTo_len xs step xs.length xs.length
    have hpl2 := turned_pl xs step hpl
    refine H_skip ?_
    refine thenJ_normal ?_
    refine H_seq ?_
    refine R0 ?_
    refine xV (e_mv (v := .slice _ _ _) (q0 rfl)) rfl rfl ?_
    refine xV (e_mv (v := .int _ _) (q0 rfl)) rfl rfl ?_
    refine xCX (en Try.call31 (ha2 (q0 rfl) (q0 rfl))) (fun w hw => turned_w A xs.length c xs step w (hx.mem hw) (by omega) hst) rfl (fun _ => rfl) fun m => ?_
    refine xV (e_as (v := .slice _ _ _) (q0 rfl)) rfl rfl ?_
    refine XN ?_
    refine thenJ_normal ?_
    refine H_seq ?_
    refine R0 ?_
    refine xV (eS Try.isAgg24 Try.sizeOf24 (q0 rfl)) rfl rfl ?_
    refine xV (e_mv (v := .slice _ _ _) (q0 rfl)) rfl rfl ?_
    refine xCX (en Try.call20 (ha2 (q0 rfl) (q0 rfl))) (fun w hw => spots_w f a A xs.length c xs w (hf.mem hw) (hx.mem hw) (by omega) hpl) rfl (fun _ => rfl) fun s1 => ?_
    refine xV (e_mv (q0 rfl)) rfl rfl ?_
    refine xV (e_ext (q0 rfl) rfl) rfl rfl ?_
    refine xV (e_ext (q0 rfl) rfl) rfl rfl ?_
    refine xV (e_as (v := .slice _ _ _) (q0 rfl)) rfl rfl ?_
    refine xV (e_as (v := .int _ _) (q0 rfl)) rfl rfl ?_
    refine XN ?_
    refine thenJ_normal ?_
    refine H_seq ?_
    refine R0 ?_
    refine xV (eS Try.isAgg24 Try.sizeOf24 (q0 rfl)) rfl rfl ?_
    refine xV (e_mv (v := .slice _ _ _) (q0 rfl)) rfl rfl ?_
    refine xCX (en Try.call20 (ha2 (q0 rfl) (q0 rfl))) (fun w hw => spots_w f a m.1 _ m.2 (turnTo xs step xs.length xs.length) w (hf.mem hw) (slAt_row hw (j := 1) rfl (fun _ => rfl) (by omega)) (by omega) hpl2) rfl (fun _ => rfl) fun s2 => ?_
    refine xV (e_mv (q0 rfl)) rfl rfl ?_
    refine xV (e_ext (q0 rfl) rfl) rfl rfl ?_
    refine xV (e_ext (q0 rfl) rfl) rfl rfl ?_
    refine xV (e_as (v := .slice _ _ _) (q0 rfl)) rfl rfl ?_
    refine xV (e_as (v := .int _ _) (q0 rfl)) rfl rfl ?_
    refine XN ?_
    refine thenJ_normal ?_
    refine H_seq ?_
    refine R0 ?_
    refine xV (eS Try.isAgg24 Try.sizeOf24 (q0 rfl)) rfl rfl ?_
    refine xV (e_mv (v := .slice _ _ _) (q0 rfl)) rfl rfl ?_
    refine xCX (en Try.call16 (ha2 (q0 rfl) (q0 rfl))) (fun w hw => rejected_w f a A xs.length c xs w (hf.mem hw) (hx.mem hw) (by omega) hpl) rfl (fun _ => rfl) fun s3 => ?_
    refine xV (e_mv (q0 rfl)) rfl rfl ?_
    refine xV (e_ext (q0 rfl) rfl) rfl rfl ?_
    refine xV (e_ext (q0 rfl) rfl) rfl rfl ?_
    refine xV (e_as (v := .slice _ _ _) (q0 rfl)) rfl rfl ?_
    refine xV (e_as (v := .int _ _) (q0 rfl)) rfl rfl ?_
    refine XN ?_
    refine thenJ_normal ?_
    refine H_seq ?_
    refine R0 ?_
    refine xV (eS Try.isAgg24 Try.sizeOf24 (q0 rfl)) rfl rfl ?_
    refine xV (e_mv (v := .slice _ _ _) (q0 rfl)) rfl rfl ?_
    refine xCX (en Try.call16 (ha2 (q0 rfl) (q0 rfl))) (fun w hw => rejected_w f a m.1 _ m.2 (turnTo xs step xs.length xs.length) w (hf.mem hw) (slAt_row hw (j := 3) rfl (fun _ => rfl) (by omega)) (by omega) hpl2) rfl (fun _ => rfl) fun s4 => ?_
    refine xV (e_mv (q0 rfl)) rfl rfl ?_
    refine xV (e_ext (q0 rfl) rfl) rfl rfl ?_
    refine xV (e_ext (q0 rfl) rfl) rfl rfl ?_
    refine xV (e_as (v := .slice _ _ _) (q0 rfl)) rfl rfl ?_
    refine xV (e_as (v := .int _ _) (q0 rfl)) rfl rfl ?_
    refine XN ?_
    refine thenJ_normal ?_
    refine H_seq ?_
    refine R0 ?_
    refine xV (eS Try.isAgg24 Try.sizeOf24 (q0 rfl)) rfl rfl ?_
    refine xV (e_mv (v := .slice _ _ _) (q0 rfl)) rfl rfl ?_
    refine xV (e_mv (v := .int _ _) (q0 rfl)) rfl rfl ?_
    refine xCX (en Try.call25 (ha3 (q0 rfl) (q0 rfl) (q0 rfl))) (fun w hw => stays_w f a A xs.length c xs bike w (hf.mem hw) (hx.mem hw) (by omega) hpl) rfl (fun _ => rfl) fun s5 => ?_
    refine xV (e_mv (q0 rfl)) rfl rfl ?_
    refine xV (e_ext (q0 rfl) rfl) rfl rfl ?_
    refine xV (e_ext (q0 rfl) rfl) rfl rfl ?_
    refine xV (e_as (v := .slice _ _ _) (q0 rfl)) rfl rfl ?_
    refine xV (e_as (v := .int _ _) (q0 rfl)) rfl rfl ?_
    refine XN ?_
    refine thenJ_normal ?_
    refine H_seq ?_
    refine R0 ?_
    refine xV (eS Try.isAgg24 Try.sizeOf24 (q0 rfl)) rfl rfl ?_
    refine xV (e_mv (v := .slice _ _ _) (q0 rfl)) rfl rfl ?_
    refine xV (e_mv (v := .int _ _) (q0 rfl)) rfl rfl ?_
    refine xCX (en Try.call25 (ha3 (q0 rfl) (q0 rfl) (q0 rfl))) (fun w hw => stays_w f a m.1 _ m.2 (turnTo xs step xs.length xs.length) bike w (hf.mem hw) (slAt_row hw (j := 5) rfl (fun _ => rfl) (by omega)) (by omega) hpl2) rfl (fun _ => rfl) fun s6 => ?_
    rw [e1, e2, e3]
    refine xV (e_mv (q0 rfl)) rfl rfl ?_
    refine xV (e_ext (q0 rfl) rfl) rfl rfl ?_
    refine xV (e_ext (q0 rfl) rfl) rfl rfl ?_
    refine xV (e_as (v := .slice _ _ _) (q0 rfl)) rfl rfl ?_
    refine xV (e_as (v := .int _ _) (q0 rfl)) rfl rfl ?_
    refine XN ?_
    refine thenJ_normal ?_
    refine H_seq ?_
    refine R0 ?_
    refine xV (e_mv (v := .int _ _) (q0 rfl)) rfl rfl ?_
    refine xV (e_mv (v := .int _ _) (q0 rfl)) rfl rfl ?_
    refine xV (e_eq (q0 rfl) (q0 rfl)) rfl rfl ?_
    refine xV (e_mv (v := .bool _) (q0 rfl)) rfl rfl ?_
    refine xVT (e_mv (v := .int _ _) (q0 rfl)) rfl rfl rfl rfl ?_
    refine xVT (e_mv (v := .int _ _) (q0 rfl)) rfl rfl rfl rfl ?_
    refine xVT (e_eq (q1 rfl) (q1 rfl)) rfl rfl rfl rfl ?_
    refine xV (e_and (q0 rfl) rfl (fun h => by first | rfl | (rw [h]; rfl))) rfl rfl ?_
    refine xV (e_mv (v := .bool _) (q0 rfl)) rfl rfl ?_
    refine xVT (e_mv (v := .int _ _) (q0 rfl)) rfl rfl rfl rfl ?_
    refine xVT (e_mv (v := .int _ _) (q0 rfl)) rfl rfl rfl rfl ?_
    refine xVT (e_eq (q1 rfl) (q1 rfl)) rfl rfl rfl rfl ?_
    refine xV (e_and (q0 rfl) rfl (fun h => by first | rfl | (rw [h]; rfl))) rfl rfl ?_
    refine xV (e_mv (v := .bool _) (q0 rfl)) rfl rfl ?_
    refine xVT (e_mv (v := .slice _ _ _) (q0 rfl)) rfl rfl rfl rfl ?_
    refine xVT (e_mv (v := .slice _ _ _) (q0 rfl)) rfl rfl rfl rfl ?_
    refine xCT (en Try.call24 (ha2 (q1 (v := .slice _ _ _) rfl) (q1 (v := .slice _ _ _) rfl))) (fun _ w hw => sameSp_w s1.1 s2.1 _ _ s1.2 s2.2 (spotsOf f xs) (spotsOf f xs) w (slRow hw (j := 5) rfl (fun _ => rfl)) (slRow hw (j := 4) rfl (fun _ => rfl))) rfl rfl rfl rfl ?_
    refine xV (e_and (q0 rfl) rfl (fun h => by first | rfl | (rw [h]; rfl))) rfl rfl ?_
    refine xV (e_mv (v := .bool _) (q0 rfl)) rfl rfl ?_
    refine xVT (e_mv (v := .slice _ _ _) (q0 rfl)) rfl rfl rfl rfl ?_
    refine xVT (e_mv (v := .slice _ _ _) (q0 rfl)) rfl rfl rfl rfl ?_
    refine xCT (en Try.call19 (ha2 (q1 (v := .slice _ _ _) rfl) (q1 (v := .slice _ _ _) rfl))) (fun _ w hw => sameRj_w s3.1 s4.1 _ _ s3.2 s4.2 (rejOf f xs) (rejOf f xs) w (slRow hw (j := 3) rfl (fun _ => rfl)) (slRow hw (j := 2) rfl (fun _ => rfl))) rfl rfl rfl rfl ?_
    refine xV (e_and (q0 rfl) rfl (fun h => by first | rfl | (rw [h]; rfl))) rfl rfl ?_
    refine xV (e_mv (v := .bool _) (q0 rfl)) rfl rfl ?_
    refine xVT (e_mv (v := .slice _ _ _) (q0 rfl)) rfl rfl rfl rfl ?_
    refine xVT (e_mv (v := .slice _ _ _) (q0 rfl)) rfl rfl rfl rfl ?_
    refine xCT (en Try.call29 (ha2 (q1 (v := .slice _ _ _) rfl) (q1 (v := .slice _ _ _) rfl))) (fun _ w hw => sameSty_w s5.1 s6.1 _ _ s5.2 s6.2 (staysOf f xs bike) (staysOf f xs bike) w (slRow hw (j := 1) rfl (fun _ => rfl)) (slRow hw (j := 0) rfl (fun _ => rfl))) rfl rfl rfl rfl ?_
    refine xV (e_and (q0 rfl) rfl (fun h => by first | rfl | (rw [h]; rfl))) rfl rfl ?_
    refine xV (e_mv (v := .bool _) (q0 rfl)) rfl rfl ?_
    refine xCT (en Try.call13 (ha0)) (fun _ w _ => awake_w w) rfl rfl rfl rfl ?_
    refine xV (e_and (q0 rfl) rfl (fun h => by first | rfl | (rw [h]; rfl))) rfl rfl ?_
    refine xV (e_as (v := .bool _) (q0 rfl)) rfl rfl ?_
    refine XN ?_
    refine thenJ_normal ?_
    refine H_ret ?_
    exact ret1 (v := .bool _) rfl rfl rfl fun w' hw => ⟨ret_bool (by simp), hw.1⟩

end Go.Proofs.Cus

/-
  The laws: accepted and rejected; spots and at; the prefix.
-/
namespace Go.Proofs.Cus
open Go Go.RowKit Go.Proofs.E

theorem few_n {a : FA} {n : Nat} (h : (!fewP a n) = false) : n ≤ 60 := by
  unfold fewP at h
  simp at h
  omega
attribute [local irreducible] accOf spotsOf rejOf staysOf flErr stayErr fewP atOf atErr
set_option maxRecDepth 20000 in
theorem accepts_w (f : Fl) (a : FA) (A : Option Addr) (n c : Nat) (xs : List Ev) (w : World) (hf : FlAt w f a) (hx : EvsAt w A n xs) (hpl : PlOk xs) :
    Calls Try.prog 3 #[.agg (f.cells a).toArray, .slice A n c] w fun e w' => e = .returned (.bool true) ∧ Bel w w' := by
  refine H_enter Try.func3 rfl Try.ntmps3 rfl ?_
  refine H_seq ?_
  refine R0 ?_
  refine X_box (v := .agg _) rfl rfl fun b2 => ?_
  refine xV (e_as (v := .bool _) (q0 rfl)) rfl rfl ?_
  refine XN ?_
  refine thenJ_normal ?_
  refine H_seq ?_
  refine H_seq ?_
  refine R0 ?_
  refine xV (eS Try.isAgg24 Try.sizeOf24 (q0 rfl)) rfl rfl ?_
  refine xV (e_mv (v := .slice _ _ _) (q0 rfl)) rfl rfl ?_
  refine xC (en Try.call12 (ha2 (q0 rfl) (q0 rfl))) (fun _ w _ => few_w f a A n c w) rfl rfl ?_
  refine xV (e_not (q0 rfl)) rfl rfl ?_
  refine XN ?_
  refine thenJ_normal ?_
  refine H_cond rfl (fun h1 => ?_) (fun h1 => ?_)
  · refine H_seq ?_
    refine R0 ?_
    refine xC (en Try.call13 (ha0)) (fun _ w _ => awake_w w) rfl rfl ?_
    refine xV (e_as (v := .bool _) (q0 rfl)) rfl rfl ?_
    refine XN ?_
    refine thenJ_normal ?_
    refine H_ret ?_
    refine thenJ_ret ?_
    exact ret1 (v := .bool _) rfl rfl rfl fun w' hw => ⟨rfl, hw.1⟩
  · have hn := few_n h1
    refine H_skip ?_
    refine thenJ_normal ?_
    refine H_seq ?_
    refine R0 ?_
    refine xV (eS Try.isAgg24 Try.sizeOf24 (q0 rfl)) rfl rfl ?_
    refine xV (e_mv (v := .slice _ _ _) (q0 rfl)) rfl rfl ?_
    refine xCX (en Try.call14 (ha2 (q0 rfl) (q0 rfl))) (fun w hw => accepted_w f a A n c xs w (hf.mem hw) (hx.mem hw) (by omega) hpl) rfl (fun _ => rfl) fun s1 => ?_
    refine xV (e_mv (q0 rfl)) rfl rfl ?_
    refine xV (e_ext (q0 rfl) rfl) rfl rfl ?_
    refine xV (e_ext (q0 rfl) rfl) rfl rfl ?_
    refine xV (e_as (v := .slice _ _ _) (q0 rfl)) rfl rfl ?_
    refine xV (e_as (v := .int _ _) (q0 rfl)) rfl rfl ?_
    refine XN ?_
    refine thenJ_normal ?_
    refine H_seq ?_
    refine R0 ?_
    refine xV (eS Try.isAgg24 Try.sizeOf24 (q0 rfl)) rfl rfl ?_
    refine xV (e_mv (v := .slice _ _ _) (q0 rfl)) rfl rfl ?_
    refine xCX (en Try.call15 (ha2 (q0 rfl) (q0 rfl))) (fun w hw => raccepted_w f a A n c xs w (hf.mem hw) (hx.mem hw) (by omega) hpl) rfl (fun _ => rfl) fun s2 => ?_
    refine xV (e_mv (q0 rfl)) rfl rfl ?_
    refine xV (e_ext (q0 rfl) rfl) rfl rfl ?_
    refine xV (e_ext (q0 rfl) rfl) rfl rfl ?_
    refine xV (e_as (v := .slice _ _ _) (q0 rfl)) rfl rfl ?_
    refine xV (e_as (v := .int _ _) (q0 rfl)) rfl rfl ?_
    refine XN ?_
    refine thenJ_normal ?_
    refine H_seq ?_
    refine R0 ?_
    refine xV (eS Try.isAgg24 Try.sizeOf24 (q0 rfl)) rfl rfl ?_
    refine xV (e_mv (v := .slice _ _ _) (q0 rfl)) rfl rfl ?_
    refine xCX (en Try.call16 (ha2 (q0 rfl) (q0 rfl))) (fun w hw => rejected_w f a A n c xs w (hf.mem hw) (hx.mem hw) (by omega) hpl) rfl (fun _ => rfl) fun s3 => ?_
    refine xV (e_mv (q0 rfl)) rfl rfl ?_
    refine xV (e_ext (q0 rfl) rfl) rfl rfl ?_
    refine xV (e_ext (q0 rfl) rfl) rfl rfl ?_
    refine xV (e_as (v := .slice _ _ _) (q0 rfl)) rfl rfl ?_
    refine xV (e_as (v := .int _ _) (q0 rfl)) rfl rfl ?_
    refine XN ?_
    refine thenJ_normal ?_
    refine H_seq ?_
    refine R0 ?_
    refine xV (eS Try.isAgg24 Try.sizeOf24 (q0 rfl)) rfl rfl ?_
    refine xV (e_mv (v := .slice _ _ _) (q0 rfl)) rfl rfl ?_
    refine xCX (en Try.call17 (ha2 (q0 rfl) (q0 rfl))) (fun w hw => rrejected_w f a A n c xs w (hf.mem hw) (hx.mem hw) (by omega) hpl) rfl (fun _ => rfl) fun s4 => ?_
    refine xV (e_mv (q0 rfl)) rfl rfl ?_
    refine xV (e_ext (q0 rfl) rfl) rfl rfl ?_
    refine xV (e_ext (q0 rfl) rfl) rfl rfl ?_
    refine xV (e_as (v := .slice _ _ _) (q0 rfl)) rfl rfl ?_
    refine xV (e_as (v := .int _ _) (q0 rfl)) rfl rfl ?_
    refine XN ?_
    refine thenJ_normal ?_
    refine H_seq ?_
    refine R0 ?_
    refine xV (e_mv (v := .slice _ _ _) (q0 rfl)) rfl rfl ?_
    refine xV (e_mv (v := .slice _ _ _) (q0 rfl)) rfl rfl ?_
    refine xC (en Try.call18 (ha2 (q0 rfl) (q0 rfl))) (fun _ w hw => sameEv_w s1.1 s2.1 _ _ s1.2 s2.2 (accOf f xs) (accOf f xs) w (slRow hw (j := 3) rfl (fun _ => rfl)) (slRow hw (j := 2) rfl (fun _ => rfl))) rfl rfl ?_
    refine xV (e_mv (v := .bool _) (q0 rfl)) rfl rfl ?_
    refine xVT (e_mv (v := .int _ _) (q0 rfl)) rfl rfl rfl rfl ?_
    refine xVT (e_mv (v := .int _ _) (q0 rfl)) rfl rfl rfl rfl ?_
    refine xVT (e_eq (q1 rfl) (q1 rfl)) rfl rfl rfl rfl ?_
    refine xV (e_and (q0 rfl) rfl (fun h => by first | rfl | (rw [h]; rfl))) rfl rfl ?_
    refine xV (e_mv (v := .bool _) (q0 rfl)) rfl rfl ?_
    refine xVT (e_mv (v := .slice _ _ _) (q0 rfl)) rfl rfl rfl rfl ?_
    refine xVT (e_mv (v := .slice _ _ _) (q0 rfl)) rfl rfl rfl rfl ?_
    refine xCT (en Try.call19 (ha2 (q1 (v := .slice _ _ _) rfl) (q1 (v := .slice _ _ _) rfl))) (fun _ w hw => sameRj_w s3.1 s4.1 _ _ s3.2 s4.2 (rejOf f xs) (rejOf f xs) w (slRow hw (j := 1) rfl (fun _ => rfl)) (slRow hw (j := 0) rfl (fun _ => rfl))) rfl rfl rfl rfl ?_
    refine xV (e_and (q0 rfl) rfl (fun h => by first | rfl | (rw [h]; rfl))) rfl rfl ?_
    refine xV (e_mv (v := .bool _) (q0 rfl)) rfl rfl ?_
    refine xVT (e_mv (v := .int _ _) (q0 rfl)) rfl rfl rfl rfl ?_
    refine xVT (e_mv (v := .int _ _) (q0 rfl)) rfl rfl rfl rfl ?_
    refine xVT (e_eq (q1 rfl) (q1 rfl)) rfl rfl rfl rfl ?_
    refine xV (e_and (q0 rfl) rfl (fun h => by first | rfl | (rw [h]; rfl))) rfl rfl ?_
    refine xV (e_mv (v := .bool _) (q0 rfl)) rfl rfl ?_
    refine xCT (en Try.call13 (ha0)) (fun _ w _ => awake_w w) rfl rfl rfl rfl ?_
    refine xV (e_and (q0 rfl) rfl (fun h => by first | rfl | (rw [h]; rfl))) rfl rfl ?_
    refine xV (e_as (v := .bool _) (q0 rfl)) rfl rfl ?_
    refine XN ?_
    refine thenJ_normal ?_
    refine H_ret ?_
    exact ret1 (v := .bool _) rfl rfl rfl fun w' hw => ⟨ret_bool (by simp), hw.1⟩
set_option maxRecDepth 20000 in
theorem spotsLaw_w (f : Fl) (a : FA) (A : Option Addr) (n c : Nat) (xs : List Ev) (t0 t1 : Int) (w : World) (hf : FlAt w f a) (hx : EvsAt w A n xs) (hpl : PlOk xs) :
    Calls Try.prog 4 #[.agg (f.cells a).toArray, .slice A n c, .agg #[.int .i64 t0, .int .i64 t1]] w fun e w' => e = .returned (.bool true) ∧ Bel w w' := by
  refine H_enter Try.func4 rfl Try.ntmps4 rfl ?_
  refine H_seq ?_
  refine R0 ?_
  refine X_box (v := .agg _) rfl rfl fun b3 => ?_
  refine X_box (v := .agg _) rfl rfl fun b5 => ?_
  refine xV (e_as (v := .bool _) (q0 rfl)) rfl rfl ?_
  refine XN ?_
  refine thenJ_normal ?_
  refine H_seq ?_
  refine H_seq ?_
  refine R0 ?_
  refine xV (eS Try.isAgg24 Try.sizeOf24 (q0 rfl)) rfl rfl ?_
  refine xV (e_mv (v := .slice _ _ _) (q0 rfl)) rfl rfl ?_
  refine xC (en Try.call12 (ha2 (q0 rfl) (q0 rfl))) (fun _ w _ => few_w f a A n c w) rfl rfl ?_
  refine xV (e_not (q0 rfl)) rfl rfl ?_
  refine XN ?_
  refine thenJ_normal ?_
  refine H_cond rfl (fun h1 => ?_) (fun h1 => ?_)
  · refine H_seq ?_
    refine R0 ?_
    refine xC (en Try.call13 (ha0)) (fun _ w _ => awake_w w) rfl rfl ?_
    refine xV (e_as (v := .bool _) (q0 rfl)) rfl rfl ?_
    refine XN ?_
    refine thenJ_normal ?_
    refine H_ret ?_
    refine thenJ_ret ?_
    exact ret1 (v := .bool _) rfl rfl rfl fun w' hw => ⟨rfl, hw.1⟩
  · have hn := few_n h1
    refine H_skip ?_
    refine thenJ_normal ?_
    refine H_seq ?_
    refine R0 ?_
    refine xV (eS Try.isAgg24 Try.sizeOf24 (q0 rfl)) rfl rfl ?_
    refine xV (e_mv (v := .slice _ _ _) (q0 rfl)) rfl rfl ?_
    refine xCX (en Try.call20 (ha2 (q0 rfl) (q0 rfl))) (fun w hw => spots_w f a A n c xs w (hf.mem hw) (hx.mem hw) (by omega) hpl) rfl (fun _ => rfl) fun s1 => ?_
    refine xV (e_mv (q0 rfl)) rfl rfl ?_
    refine xV (e_ext (q0 rfl) rfl) rfl rfl ?_
    refine xV (e_ext (q0 rfl) rfl) rfl rfl ?_
    refine xV (e_as (v := .slice _ _ _) (q0 rfl)) rfl rfl ?_
    refine xV (e_as (v := .int _ _) (q0 rfl)) rfl rfl ?_
    refine XN ?_
    refine thenJ_normal ?_
    refine H_seq ?_
    refine R0 ?_
    refine xV (eS Try.isAgg24 Try.sizeOf24 (q0 rfl)) rfl rfl ?_
    refine xV (e_mv (v := .slice _ _ _) (q0 rfl)) rfl rfl ?_
    refine xCX (en Try.call21 (ha2 (q0 rfl) (q0 rfl))) (fun w hw => rspots_w f a A n c xs w (hf.mem hw) (hx.mem hw) (by omega) hpl) rfl (fun _ => rfl) fun s2 => ?_
    refine xV (e_mv (q0 rfl)) rfl rfl ?_
    refine xV (e_ext (q0 rfl) rfl) rfl rfl ?_
    refine xV (e_ext (q0 rfl) rfl) rfl rfl ?_
    refine xV (e_as (v := .slice _ _ _) (q0 rfl)) rfl rfl ?_
    refine xV (e_as (v := .int _ _) (q0 rfl)) rfl rfl ?_
    refine XN ?_
    refine thenJ_normal ?_
    refine H_seq ?_
    refine R0 ?_
    refine xV (eS Try.isAgg24 Try.sizeOf24 (q0 rfl)) rfl rfl ?_
    refine xV (e_mv (v := .slice _ _ _) (q0 rfl)) rfl rfl ?_
    refine xV (e_idxA 0 Try.underlying36 Try.sizeOf3 (q0 rfl) (q0 rfl) (fun _ => ⟨rfl, by decide⟩)) rfl rfl ?_
    refine xV (eL Try.isAgg3 (q0 rfl)) rfl rfl ?_
    refine xV (e_idxA 1 Try.underlying36 Try.sizeOf3 (q0 rfl) (q0 rfl) (fun _ => ⟨rfl, by decide⟩)) rfl rfl ?_
    refine xV (eL Try.isAgg3 (q0 rfl)) rfl rfl ?_
    refine xC (en Try.call22 (ha4 (q0 rfl) (q0 rfl) (q0 rfl) (q0 rfl))) (fun _ w hw => at_w f a A n c xs t0 t1 w (hf.mem hw) (hx.mem hw) (by omega) hpl) rfl rfl ?_
    refine xV (e_mv (q0 rfl)) rfl rfl ?_
    refine xV (e_ext (q0 rfl) rfl) rfl rfl ?_
    refine xV (e_ext (q0 rfl) rfl) rfl rfl ?_
    refine X_alloc Try.zeroValue41 rfl fun b11 => ?_
    refine X_st (v := .agg _) rfl rfl Try.sizeOf41 ?_
    refine xV (e_as (v := .int _ _) (q0 rfl)) rfl rfl ?_
    refine XN ?_
    refine thenJ_normal ?_
    refine H_seq ?_
    refine R0 ?_
    refine xV (eS Try.isAgg24 Try.sizeOf24 (q0 rfl)) rfl rfl ?_
    refine xV (e_mv (v := .slice _ _ _) (q0 rfl)) rfl rfl ?_
    refine xV (e_idxA 0 Try.underlying36 Try.sizeOf3 (q0 rfl) (q0 rfl) (fun _ => ⟨rfl, by decide⟩)) rfl rfl ?_
    refine xV (eL Try.isAgg3 (q0 rfl)) rfl rfl ?_
    refine xV (e_idxA 1 Try.underlying36 Try.sizeOf3 (q0 rfl) (q0 rfl) (fun _ => ⟨rfl, by decide⟩)) rfl rfl ?_
    refine xV (eL Try.isAgg3 (q0 rfl)) rfl rfl ?_
    refine xC (en Try.call23 (ha4 (q0 rfl) (q0 rfl) (q0 rfl) (q0 rfl))) (fun _ w hw => rat_w f a A n c xs t0 t1 w (hf.mem hw) (hx.mem hw) (by omega) hpl) rfl rfl ?_
    refine xV (e_mv (q0 rfl)) rfl rfl ?_
    refine xV (e_ext (q0 rfl) rfl) rfl rfl ?_
    refine xV (e_ext (q0 rfl) rfl) rfl rfl ?_
    refine X_alloc Try.zeroValue41 rfl fun b13 => ?_
    refine X_st (v := .agg _) rfl rfl Try.sizeOf41 ?_
    refine xV (e_as (v := .int _ _) (q0 rfl)) rfl rfl ?_
    refine XN ?_
    refine thenJ_normal ?_
    refine H_seq ?_
    refine R0 ?_
    refine xV (e_mv (v := .slice _ _ _) (q0 rfl)) rfl rfl ?_
    refine xV (e_mv (v := .slice _ _ _) (q0 rfl)) rfl rfl ?_
    refine xC (en Try.call24 (ha2 (q0 rfl) (q0 rfl))) (fun _ w hw => sameSp_w s1.1 s2.1 _ _ s1.2 s2.2 (spotsOf f xs) (spotsOf f xs) w (slRow hw (j := 3) rfl (fun _ => rfl)) (slRow hw (j := 2) rfl (fun _ => rfl))) rfl rfl ?_
    refine xV (e_mv (v := .bool _) (q0 rfl)) rfl rfl ?_
    refine xVT (e_mv (v := .int _ _) (q0 rfl)) rfl rfl rfl rfl ?_
    refine xVT (e_mv (v := .int _ _) (q0 rfl)) rfl rfl rfl rfl ?_
    refine xVT (e_eq (q1 rfl) (q1 rfl)) rfl rfl rfl rfl ?_
    refine xV (e_and (q0 rfl) rfl (fun h => by first | rfl | (rw [h]; rfl))) rfl rfl ?_
    refine xV (e_mv (v := .bool _) (q0 rfl)) rfl rfl ?_
    refine xVT (eS Try.isAgg41 Try.sizeOf41 (q0 rfl)) rfl rfl rfl rfl ?_
    refine xVT (eS Try.isAgg41 Try.sizeOf41 (q0 rfl)) rfl rfl rfl rfl ?_
    refine xVT (e_eqS (fun w => sameSp_w_eq (atOf f xs t0 t1) (atOf f xs t0 t1) w) (by kernel_rfl) (q1 rfl) (q1 rfl)) rfl rfl rfl rfl ?_
    refine xV (e_and (q0 rfl) rfl (fun h => by first | rfl | (rw [h]; rfl))) rfl rfl ?_
    refine xV (e_mv (v := .bool _) (q0 rfl)) rfl rfl ?_
    refine xVT (e_mv (v := .int _ _) (q0 rfl)) rfl rfl rfl rfl ?_
    refine xVT (e_mv (v := .int _ _) (q0 rfl)) rfl rfl rfl rfl ?_
    refine xVT (e_eq (q1 rfl) (q1 rfl)) rfl rfl rfl rfl ?_
    refine xV (e_and (q0 rfl) rfl (fun h => by first | rfl | (rw [h]; rfl))) rfl rfl ?_
    refine xV (e_mv (v := .bool _) (q0 rfl)) rfl rfl ?_
    refine xCT (en Try.call13 (ha0)) (fun _ w _ => awake_w w) rfl rfl rfl rfl ?_
    refine xV (e_and (q0 rfl) rfl (fun h => by first | rfl | (rw [h]; rfl))) rfl rfl ?_
    refine xV (e_as (v := .bool _) (q0 rfl)) rfl rfl ?_
    refine XN ?_
    refine thenJ_normal ?_
    refine H_ret ?_
    exact ret1 (v := .bool _) rfl rfl rfl fun w' hw => ⟨ret_bool (by simp), hw.1⟩

end Go.Proofs.Cus

/-
  The law of the prefix.
-/
namespace Go.Proofs.Cus
open Go Go.RowKit Go.Proofs.E

def beforeP (t : Int) (less : Bool) (xs : List Ev) : List Ev := xs.filter fun e => decide (e.at_ < t) == less
theorem before_w (A : Option Addr) (n c : Nat) (xs : List Ev) (t : Int) (less : Bool) (w : World) (hx : EvsAt w A n xs) (hn : n ≤ 10000) :
    Calls Try.prog 32 #[.slice A n c, .int .i64 t, .bool less] w fun r w' => ∃ x : Option Addr × Nat, r = .returned (.slice x.1 (beforeP t less xs).length x.2) ∧ Mem w [evRow x.1 x.2 (beforeP t less xs)] w' := by
  have hxl := hx.1
  obtain ⟨F, hF⟩ : ∃ F : Nat → List Ev, F = fun k => beforeP t less (xs.take k) := ⟨_, rfl⟩
  have hF0 : F 0 = [] := by rw [hF]; rfl
  have hFn : F n = beforeP t less xs := by rw [hF]; simp only [← hxl, List.take_length]
  have hFs : ∀ k e, xs[k]? = some e → F (k + 1) = F k ++ (if (decide (e.at_ < t) == less) = true then [e] else []) := fun k e he => by
    rw [hF]; simp only [beforeP, take_snoc _ _ _ he, List.filter_append]
    congr 1
    by_cases h : (decide (e.at_ < t) == less) = true
    · rw [if_pos h]; simp only [List.filter_cons, h, if_true, List.filter_nil]
    · rw [if_neg h]; simp only [List.filter_cons, h, List.filter_nil]; rfl
  have hFl : ∀ k, (F k).length ≤ n := fun k => by
    rw [hF]
    have h1 := List.length_filter_le (fun e : Ev => decide (e.at_ < t) == less) (xs.take k)
    rw [List.length_take] at h1
    simp only [beforeP]
    omega
  rw [← hFn]
  clear hF hFn
  refine H_enter Try.func32 rfl Try.ntmps32 rfl ?_
  refine H_seq ?_
  refine R0 ?_
  refine xV (e_as (v := .slice _ _ _) (q0 rfl)) rfl rfl ?_
  refine XN ?_
  refine thenJ_normal ?_
  refine H_seq ?_
  refine R0 ?_
  refine xV (e_as (v := .slice _ _ _) (q0 rfl)) rfl rfl ?_
  refine XN ?_
  refine thenJ_normal ?_
  refine H_seq ?_
  refine H_seq ?_
  refine R0 ?_
  refine xV (e_as (v := .int _ _) (q0 rfl)) rfl rfl ?_
  refine XN ?_
  refine thenJ_normal ?_
  refine H_block ?_
  refine H_loop [7, 8, 9, 10, 11, 12, 13, 14, 15, 16, 17, 18, 19, 20, 21, 22, 23, 24, 25, 26, 27, 28, 29, 30] (fun q : Nat × Option Addr × Nat => [(8, .int .i64 q.1), (7, .slice q.2.1 (F q.1).length q.2.2)]) (fun q => [evRow q.2.1 q.2.2 (F q.1)]) (fun q => q.1 ≤ n) (fun q => n - q.1) (0, none, 0) ⟨rfl, by show _ = Value.slice none (F 0).length 0; rw [hF0]; rfl, trivial⟩ (fun w hw => by show Mem _ [evRow none 0 (F 0)] w; rw [hF0]; exact hw.nilRow _ _ _ rfl) rfl (Nat.zero_le _) ?_
  rintro ⟨k, oA, oc⟩ g hk
  simp only at hk
  refine H_seq ?_
  refine H_seq ?_
  refine R0 ?_
  refine xV (e_mv (v := .int _ _) (q0 rfl)) rfl rfl ?_
  refine xV (e_mv (v := .slice _ _ _) (q0 rfl)) rfl rfl ?_
  refine xV (e_len Try.underlying25 (q0 rfl)) rfl rfl ?_
  refine xV (e_lt (q0 rfl) (q0 rfl)) rfl rfl ?_
  refine XN ?_
  refine thenJ_normal ?_
  refine H_cond rfl (fun hlt => ?_) (fun hlt => ?_)
  · have hlt' : k < n := by simpa using hlt
    obtain ⟨b, off, e, rfl, hbl, he, hre⟩ := hx.at_ hlt'
    have hs := hFs k e he
    have hl := hFl k
    refine H_skip ?_
    refine thenJ_normal ?_
    refine H_seq ?_
    refine H_block ?_
    refine H_seq ?_
    refine R0 ?_
    refine xV (e_mv (v := .slice _ _ _) (q0 rfl)) rfl rfl ?_
    refine xV (e_mv (v := .int _ _) (q0 rfl)) rfl rfl ?_
    refine xV (e_idx _ Try.underlying25 Try.sizeOf67 (q0 rfl) (q0 rfl) (fun _ => ⟨rfl, by omega⟩)) rfl rfl ?_
    refine xV (e_fld Try.underlying67 rfl Try.sizeOf3 rfl (q0 rfl)) rfl rfl ?_
    refine xV (eL Try.isAgg3 (q0 rfl)) rfl rfl ?_
    refine xV (e_mv (v := .int _ _) (q0 rfl)) rfl rfl ?_
    refine xV (e_lt (q0 rfl) (q0 rfl)) rfl rfl ?_
    refine xV (e_mv (v := .bool _) (q0 rfl)) rfl rfl ?_
    refine xV (e_eqb Try.underlying4 (q0 rfl) (q0 rfl)) rfl rfl ?_
    refine XN ?_
    refine thenJ_normal ?_
    refine H_cond rfl (fun hb => ?_) (fun hb => ?_)
    · rw [if_pos hb] at hs
      refine R0 ?_
      refine xV (e_mv (v := .slice _ _ _) (q0 rfl)) rfl rfl ?_
      refine xV (e_mv (v := .slice _ _ _) (q0 rfl)) rfl rfl ?_
      refine xV (e_mv (v := .int _ _) (q0 rfl)) rfl rfl ?_
      refine xV (e_idx _ Try.underlying25 Try.sizeOf67 (q0 rfl) (q0 rfl) (fun _ => ⟨rfl, by omega⟩)) rfl rfl ?_
      refine xV (eS Try.isAgg67 Try.sizeOf67 (q0 rfl)) rfl rfl ?_
      refine X_push (k := 9) (i := Try.t67) 0 (e) Try.underlying25 (by kernel_rfl) rfl rfl rfl rfl Try.sizeOf67 Try.zeroValue67 rfl rfl rfl rfl rfl rfl ⟨by simp only; omega, by decide⟩ rfl rfl fun PB A1 c1 => ?_
      refine xV (e_as (v := .slice _ _ _) (q0 rfl)) rfl rfl ?_
      refine XN ?_
      refine blockJ_normal ?_
      refine thenJ_normal ?_
      refine R0 ?_
      refine xV (e_mv (v := .int _ _) (q0 rfl)) rfl rfl ?_
      refine xV (e_add (q0 rfl) (q0 rfl) (fun _ => ⟨rfl, by omega, by omega⟩)) rfl rfl ?_
      refine xV (e_as (v := .int _ _) (q0 rfl)) rfl rfl ?_
      refine XN ?_
      exact loopJ_normal (k + 1, A1, c1) (by repeat (first | exact agree_self | exact agree_over | refine agree_upd rfl ?_ | refine agree_updL rfl ?_ | refine agree_over2 rfl ?_)) ⟨rfl, by show _ = Value.slice A1 (F (k + 1)).length c1; rw [hs]; rfl, trivial⟩ (fun w hw => by show Mem _ [evRow A1 c1 (F (k + 1))] w; rw [hs]; exact hw) rfl (by show k + 1 ≤ _; omega) (by show n - (k + 1) < n - k; omega)
    · rw [if_neg (by rw [hb]; decide), List.append_nil] at hs
      refine H_skip ?_
      refine blockJ_normal ?_
      refine thenJ_normal ?_
      refine R0 ?_
      refine xV (e_mv (v := .int _ _) (q0 rfl)) rfl rfl ?_
      refine xV (e_add (q0 rfl) (q0 rfl) (fun _ => ⟨rfl, by omega, by omega⟩)) rfl rfl ?_
      refine xV (e_as (v := .int _ _) (q0 rfl)) rfl rfl ?_
      refine XN ?_
      exact loopJ_normal (k + 1, oA, oc) (by repeat (first | exact agree_self | exact agree_over | refine agree_upd rfl ?_ | refine agree_updL rfl ?_ | refine agree_over2 rfl ?_)) ⟨rfl, by show _ = Value.slice oA (F (k + 1)).length oc; rw [hs]; rfl, trivial⟩ (fun w hw => by show Mem _ [evRow oA oc (F (k + 1))] w; rw [hs]; exact hw) rfl (by show k + 1 ≤ _; omega) (by show n - (k + 1) < n - k; omega)
  · have hend : k = n := by simp at hlt; omega
    subst hend
    refine H_exit ?_
    refine thenJ_exit ?_
    refine loopJ_exit ?_
    refine blockJ_hit ?_
    refine thenJ_normal ?_
    refine H_seq ?_
    refine R0 ?_
    refine xV (e_mv (v := .slice _ _ _) (q0 rfl)) rfl rfl ?_
    refine xV (e_as (v := .slice _ _ _) (q0 rfl)) rfl rfl ?_
    refine XN ?_
    refine thenJ_normal ?_
    refine H_ret ?_
    exact ret1 (v := .slice _ _ _) rfl rfl rfl fun w' hw => ⟨(oA, oc), rfl, hw⟩
theorem until_before {t0 t1 : Int} (h : t0 < t1) (xs : List Ev) : untilP t0 (beforeP t1 true xs) = untilP t0 xs := by
  unfold untilP beforeP
  rw [set_early xs (fun e => decide (e.at_ < t1) == true) (fun a b hab hb => by simp at hb ⊢; omega), List.filter_filter]
  congr 1
  funext e
  simp
  omega
theorem at_before {f : Fl} {t0 t1 : Int} (h : t0 < t1) (xs : List Ev) (bike : Int) : atOf f (beforeP t1 true xs) bike t0 = atOf f xs bike t0 := by
  unfold atOf
  rw [until_before h]
attribute [local irreducible] accOf spotsOf rejOf staysOf flErr stayErr fewP atOf atErr
set_option maxRecDepth 20000 in
theorem prefixLaw_w (f : Fl) (a : FA) (A : Option Addr) (n c : Nat) (xs : List Ev) (bike t0 t1 : Int) (w : World) (hf : FlAt w f a) (hx : EvsAt w A n xs) (hpl : PlOk xs) :
    Calls Try.prog 9 #[.agg (f.cells a).toArray, .slice A n c, .int .i64 bike, .agg #[.int .i64 t0, .int .i64 t1]] w fun e w' => e = .returned (.bool true) ∧ Bel w w' := by
  have hxl := hx.1
  refine H_enter Try.func9 rfl Try.ntmps9 rfl ?_
  refine H_seq ?_
  refine R0 ?_
  refine X_box (v := .agg _) rfl rfl fun b4 => ?_
  refine X_box (v := .agg _) rfl rfl fun b7 => ?_
  refine xV (e_as (v := .bool _) (q0 rfl)) rfl rfl ?_
  refine XN ?_
  refine thenJ_normal ?_
  refine H_seq ?_
  refine H_seq ?_
  refine R0 ?_
  refine xV (eS Try.isAgg24 Try.sizeOf24 (q0 rfl)) rfl rfl ?_
  refine xV (e_mv (v := .slice _ _ _) (q0 rfl)) rfl rfl ?_
  refine xC (en Try.call12 (ha2 (q0 rfl) (q0 rfl))) (fun _ w _ => few_w f a A n c w) rfl rfl ?_
  refine xV (e_not (q0 rfl)) rfl rfl ?_
  refine xV (e_mv (v := .bool _) (q0 rfl)) rfl rfl ?_
  refine xVF (e_idxA 0 Try.underlying36 Try.sizeOf3 (q0 rfl) (q0 rfl) (fun _ => ⟨rfl, by decide⟩)) rfl rfl rfl rfl ?_
  refine xVF (eL Try.isAgg3 (q1 rfl)) rfl rfl rfl rfl ?_
  refine xVF (e_idxA 1 Try.underlying36 Try.sizeOf3 (q0 rfl) (q0 rfl) (fun _ => ⟨rfl, by decide⟩)) rfl rfl rfl rfl ?_
  refine xVF (eL Try.isAgg3 (q1 rfl)) rfl rfl rfl rfl ?_
  refine xVF (e_ge (q1 rfl) (q1 rfl)) rfl rfl rfl rfl ?_
  refine xV (e_or (q0 rfl) rfl (fun h => by first | rfl | (rw [h]; rfl))) rfl rfl ?_
  refine XN ?_
  refine thenJ_normal ?_
  refine H_cond rfl (fun h1 => ?_) (fun h1 => ?_)
  · refine H_seq ?_
    refine R0 ?_
    refine xC (en Try.call13 (ha0)) (fun _ w _ => awake_w w) rfl rfl ?_
    refine xV (e_as (v := .bool _) (q0 rfl)) rfl rfl ?_
    refine XN ?_
    refine thenJ_normal ?_
    refine H_ret ?_
    refine thenJ_ret ?_
    exact ret1 (v := .bool _) rfl rfl rfl fun w' hw => ⟨rfl, hw.1⟩
  · have h2 : (!fewP a n || decide (t1 ≤ t0)) = false := h1
    rw [Bool.or_eq_false_iff] at h2
    have hn := few_n h2.1
    have ht : t0 < t1 := by have := h2.2; simp at this; omega
    have hat := at_before (f := f) ht xs bike
    have hbl : (beforeP t1 true xs).length ≤ n := by rw [← hxl]; exact List.length_filter_le _ _
    refine H_skip ?_
    refine thenJ_normal ?_
    refine H_seq ?_
    refine R0 ?_
    refine xV (eS Try.isAgg24 Try.sizeOf24 (q0 rfl)) rfl rfl ?_
    refine xV (e_mv (v := .slice _ _ _) (q0 rfl)) rfl rfl ?_
    refine xV (e_mv (v := .int _ _) (q0 rfl)) rfl rfl ?_
    refine xV (e_idxA 0 Try.underlying36 Try.sizeOf3 (q0 rfl) (q0 rfl) (fun _ => ⟨rfl, by decide⟩)) rfl rfl ?_
    refine xV (eL Try.isAgg3 (q0 rfl)) rfl rfl ?_
    refine xC (en Try.call22 (ha4 (q0 rfl) (q0 rfl) (q0 rfl) (q0 rfl))) (fun _ w hw => at_w f a A n c xs bike t0 w (hf.mem hw) (hx.mem hw) (by omega) hpl) rfl rfl ?_
    refine xV (e_mv (q0 rfl)) rfl rfl ?_
    refine xV (e_ext (q0 rfl) rfl) rfl rfl ?_
    refine xV (e_ext (q0 rfl) rfl) rfl rfl ?_
    refine X_alloc Try.zeroValue41 rfl fun b9 => ?_
    refine X_st (v := .agg _) rfl rfl Try.sizeOf41 ?_
    refine xV (e_as (v := .int _ _) (q0 rfl)) rfl rfl ?_
    refine XN ?_
    refine thenJ_normal ?_
    refine H_seq ?_
    refine H_cut [11, 12, 34, 35, 36, 37, 38, 39, 40, 41, 42, 43, 44, 45] (fun s : Nat => [(11, .pointer (some ⟨s, 0, none⟩)), (12, .int .i64 (atErr f bike t0))]) (fun s => [box s 41 (atOf f (beforeP t1 true xs) bike t0).cells, box b9 41 (atOf f xs bike t0).cells]) (fun _ => True) ?_ ?_
    · refine RA rfl (by decide +kernel) ?_
      refine aV 0 (by decide +kernel) rfl (eS Try.isAgg24 Try.sizeOf24 (q0 rfl)) rfl ?_
      refine aV 1 (by decide +kernel) rfl (e_mv (v := .slice _ _ _) (q0 rfl)) rfl ?_
      refine aV 2 (by decide +kernel) rfl (e_idxA 1 Try.underlying36 Try.sizeOf3 (q0 rfl) (q0 rfl) (fun _ => ⟨rfl, by decide⟩)) rfl ?_
      refine aV 3 (by decide +kernel) rfl (eL Try.isAgg3 (q0 rfl)) rfl ?_
      refine aV 5 (by decide +kernel) rfl (e_mv (v := .int _ _) (q0 rfl)) rfl ?_
      refine aV 6 (by decide +kernel) rfl (e_idxA 0 Try.underlying36 Try.sizeOf3 (q0 rfl) (q0 rfl) (fun _ => ⟨rfl, by decide⟩)) rfl ?_
      refine aV 7 (by decide +kernel) rfl (eL Try.isAgg3 (q0 rfl)) rfl ?_
      refine rdy2 (i := 4) (j := 12) (by decide +kernel) (sub_drop 0) ?_ ?_
      · refine aL rfl (f_callx (en Try.call32 (ha3 (q0 rfl) (q0 rfl) (q0 rfl))) (fun w hw => before_w A n c xs t1 true w (hx.mem hw) (by omega)) rfl (fun _ => rfl) fun U => ?_)
        refine rdy2 (i := 8) (j := 12) (by decide +kernel) (sub_drop 1) ?_ ?_
        · refine aL rfl (f_callx (en Try.call22 (ha4 (q0 rfl) (q0 rfl) (q0 rfl) (q0 rfl))) (fun w hw => toU (at_w f a U.1 (beforeP t1 true xs).length U.2 (beforeP t1 true xs) bike t0 w (hf.mem hw) (slAt_row hw (j := 0) rfl (fun _ => rfl) (by omega)) (by omega) (fun e he => hpl e (List.mem_filter.1 he).1))) rfl (fun _ => rfl) fun V => ?_)
          refine aV 9 (by decide +kernel) rfl (e_mv (q0 rfl)) rfl ?_
          refine aV 10 (by decide +kernel) rfl (e_ext (q0 rfl) rfl) rfl ?_
          refine aV 11 (by decide +kernel) rfl (e_ext (q0 rfl) rfl) rfl ?_
          refine rdy1 (i := 12) (by decide +kernel) (sub_drop 1) ?_
          refine aL rfl (f_alloc Try.zeroValue41 rfl fun b11 => ?_)
          refine aI 1 ?_
          refine rdy1 (i := 13) (by decide +kernel) (sub_drop 2) ?_
          refine aL rfl (f_st (v := .agg _) rfl rfl Try.sizeOf41 ?_)
          refine aRL (sub_drop 2) ?_
          refine aV 14 (by decide +kernel) rfl (e_as (v := .int _ _) (q0 rfl)) rfl ?_
          refine aZ (by decide +kernel) (sub_drop 0) ?_
          exact cutJ_normal b11 (by repeat (first | exact agree_self | exact agree_over | refine agree_upd rfl ?_ | refine agree_updL rfl ?_ | refine agree_over2 rfl ?_)) ⟨rfl, rfl, trivial⟩ (fun w hw => hw.pick [1, 2] (by decide)) rfl trivial
        · refine aL rfl (f_alloc Try.zeroValue41 rfl fun b11 => ?_)
          refine aI 1 ?_
          refine rdy1 (i := 8) (by decide +kernel) (sub_drop 2) ?_
          refine aL rfl (f_callx (en Try.call22 (ha4 (q0 rfl) (q0 rfl) (q0 rfl) (q0 rfl))) (fun w hw => toU (at_w f a U.1 (beforeP t1 true xs).length U.2 (beforeP t1 true xs) bike t0 w (hf.mem hw) (slAt_row hw (j := 0) rfl (fun _ => rfl) (by omega)) (by omega) (fun e he => hpl e (List.mem_filter.1 he).1))) rfl (fun _ => rfl) fun V => ?_)
          refine aV 9 (by decide +kernel) rfl (e_mv (q0 rfl)) rfl ?_
          refine aV 10 (by decide +kernel) rfl (e_ext (q0 rfl) rfl) rfl ?_
          refine aV 11 (by decide +kernel) rfl (e_ext (q0 rfl) rfl) rfl ?_
          refine rdy1 (i := 13) (by decide +kernel) (sub_drop 2) ?_
          refine aL rfl (f_st (v := .agg _) rfl rfl Try.sizeOf41 ?_)
          refine aRL (sub_drop 2) ?_
          refine aV 14 (by decide +kernel) rfl (e_as (v := .int _ _) (q0 rfl)) rfl ?_
          refine aZ (by decide +kernel) (sub_drop 0) ?_
          exact cutJ_normal b11 (by repeat (first | exact agree_self | exact agree_over | refine agree_upd rfl ?_ | refine agree_updL rfl ?_ | refine agree_over2 rfl ?_)) ⟨rfl, rfl, trivial⟩ (fun w hw => hw.pick [1, 2] (by decide)) rfl trivial
      · refine aL rfl (f_alloc Try.zeroValue41 rfl fun b11 => ?_)
        refine rdy1 (i := 4) (by decide +kernel) (sub_drop 1) ?_
        refine aL rfl (f_callx (en Try.call32 (ha3 (q0 rfl) (q0 rfl) (q0 rfl))) (fun w hw => before_w A n c xs t1 true w (hx.mem hw) (by omega)) rfl (fun _ => rfl) fun U => ?_)
        refine rdy1 (i := 8) (by decide +kernel) (sub_drop 2) ?_
        refine aL rfl (f_callx (en Try.call22 (ha4 (q0 rfl) (q0 rfl) (q0 rfl) (q0 rfl))) (fun w hw => toU (at_w f a U.1 (beforeP t1 true xs).length U.2 (beforeP t1 true xs) bike t0 w (hf.mem hw) (slAt_row hw (j := 0) rfl (fun _ => rfl) (by omega)) (by omega) (fun e he => hpl e (List.mem_filter.1 he).1))) rfl (fun _ => rfl) fun V => ?_)
        refine aV 9 (by decide +kernel) rfl (e_mv (q0 rfl)) rfl ?_
        refine aV 10 (by decide +kernel) rfl (e_ext (q0 rfl) rfl) rfl ?_
        refine aV 11 (by decide +kernel) rfl (e_ext (q0 rfl) rfl) rfl ?_
        refine rdy1 (i := 13) (by decide +kernel) (sub_drop 2) ?_
        refine aL rfl (f_st (v := .agg _) rfl rfl Try.sizeOf41 ?_)
        refine aRL (sub_drop 2) ?_
        refine aV 14 (by decide +kernel) rfl (e_as (v := .int _ _) (q0 rfl)) rfl ?_
        refine aZ (by decide +kernel) (sub_drop 0) ?_
        exact cutJ_normal b11 (by repeat (first | exact agree_self | exact agree_over | refine agree_upd rfl ?_ | refine agree_updL rfl ?_ | refine agree_over2 rfl ?_)) ⟨rfl, rfl, trivial⟩ (fun w hw => hw.pick [1, 2] (by decide)) rfl trivial
    · intro b11 g _
      rw [hat]
      refine thenJ_normal ?_
      refine H_seq ?_
      refine R0 ?_
      refine xV (eS Try.isAgg41 Try.sizeOf41 (q0 rfl)) rfl rfl ?_
      refine xV (eS Try.isAgg41 Try.sizeOf41 (q0 rfl)) rfl rfl ?_
      refine xV (e_eqS (fun w => sameSp_w_eq (atOf f xs bike t0) (atOf f xs bike t0) w) (by kernel_rfl) (q0 rfl) (q0 rfl)) rfl rfl ?_
      refine xV (e_mv (v := .bool _) (q0 rfl)) rfl rfl ?_
      refine xVT (e_mv (v := .int _ _) (q0 rfl)) rfl rfl rfl rfl ?_
      refine xVT (e_mv (v := .int _ _) (q0 rfl)) rfl rfl rfl rfl ?_
      refine xVT (e_eq (q1 rfl) (q1 rfl)) rfl rfl rfl rfl ?_
      refine xV (e_and (q0 rfl) rfl (fun h => by first | rfl | (rw [h]; rfl))) rfl rfl ?_
      refine xV (e_mv (v := .bool _) (q0 rfl)) rfl rfl ?_
      refine xCT (en Try.call13 (ha0)) (fun _ w _ => awake_w w) rfl rfl rfl rfl ?_
      refine xV (e_and (q0 rfl) rfl (fun h => by first | rfl | (rw [h]; rfl))) rfl rfl ?_
      refine xV (e_as (v := .bool _) (q0 rfl)) rfl rfl ?_
      refine XN ?_
      refine thenJ_normal ?_
      refine H_ret ?_
      exact ret1 (v := .bool _) rfl rfl rfl fun w' hw => ⟨ret_bool (by simp), hw.1⟩

end Go.Proofs.Cus

/-
  The law: no two bicycles in one dock or ride, no truck over its capacity.
-/
namespace Go.Proofs.Cus
open Go Go.RowKit Go.Proofs.E

structure AloneAt (tr : List Int) (sp : List Sp) : Prop extends AInv tr sp where
  ride : ∀ (i j : Nat) x y, sp[i]? = some x → sp[j]? = some y → x.where_ = 3 → y.where_ = 3 → x.ride = y.ride → i = j
theorem spots_alone {f : Fl} (hok : flErr f = 0) (xs : List Ev) : AloneAt f.trucks (spotsOf f xs) := by
  unfold spotsOf
  rw [if_pos hok]
  have hI := runR_inv (cb := nobCb) (nb_eq hok) (setOf xs) (beginP (nbOf f), ()) (PInv.begin _)
  exact ⟨runR_ainv (nb_eq hok) _ _ (PInv.begin _) (AInv.begin _ _), fun i j x y hx hy x3 y3 hr => hI.alone hx hy x3 y3 hr⟩
attribute [local irreducible] spotsOf flErr fewP
set_option maxHeartbeats 2000000 in
set_option maxRecDepth 20000 in
theorem alone_w (f : Fl) (a : FA) (A : Option Addr) (n c : Nat) (xs : List Ev) (w : World) (hf : FlAt w f a) (hx : EvsAt w A n xs) (hpl : PlOk xs) :
    Calls Try.prog 8 #[.agg (f.cells a).toArray, .slice A n c] w fun e w' => e = .returned (.bool true) ∧ Bel w w' := by
  refine H_enter Try.func8 rfl Try.ntmps8 rfl ?_
  refine H_seq ?_
  refine R0 ?_
  refine X_box (v := .agg _) rfl rfl fun b2 => ?_
  refine xV (e_as (v := .bool _) (q0 rfl)) rfl rfl ?_
  refine XN ?_
  refine thenJ_normal ?_
  refine H_seq ?_
  refine H_seq ?_
  refine R0 ?_
  refine xV (eS Try.isAgg24 Try.sizeOf24 (q0 rfl)) rfl rfl ?_
  refine xV (e_mv (v := .slice _ _ _) (q0 rfl)) rfl rfl ?_
  refine xC (en Try.call12 (ha2 (q0 rfl) (q0 rfl))) (fun _ w _ => few_w f a A n c w) rfl rfl ?_
  refine xV (e_not (q0 rfl)) rfl rfl ?_
  refine XN ?_
  refine thenJ_normal ?_
  refine H_cond rfl (fun h1 => ?_) (fun h1 => ?_)
  · refine H_seq ?_
    refine R0 ?_
    refine xC (en Try.call13 (ha0)) (fun _ w _ => awake_w w) rfl rfl ?_
    refine xV (e_as (v := .bool _) (q0 rfl)) rfl rfl ?_
    refine XN ?_
    refine thenJ_normal ?_
    refine H_ret ?_
    refine thenJ_ret ?_
    exact ret1 (v := .bool _) rfl rfl rfl fun w' hw => ⟨rfl, hw.1⟩
  · have hn := few_n h1
    refine H_skip ?_
    refine thenJ_normal ?_
    refine H_seq ?_
    refine R0 ?_
    refine xV (eS Try.isAgg24 Try.sizeOf24 (q0 rfl)) rfl rfl ?_
    refine xV (e_mv (v := .slice _ _ _) (q0 rfl)) rfl rfl ?_
    refine xCX (en Try.call20 (ha2 (q0 rfl) (q0 rfl))) (fun w hw => spots_w f a A n c xs w (hf.mem hw) (hx.mem hw) (by omega) hpl) rfl (fun _ => rfl) fun s1 => ?_
    refine xV (e_mv (q0 rfl)) rfl rfl ?_
    refine xV (e_ext (q0 rfl) rfl) rfl rfl ?_
    refine xV (e_ext (q0 rfl) rfl) rfl rfl ?_
    refine xV (e_as (v := .slice _ _ _) (q0 rfl)) rfl rfl ?_
    refine xV (e_as (v := .int _ _) (q0 rfl)) rfl rfl ?_
    refine XN ?_
    refine thenJ_normal ?_
    refine H_seq ?_
    refine H_seq ?_
    refine R0 ?_
    refine xV (e_mv (v := .int _ _) (q0 rfl)) rfl rfl ?_
    refine xV (e_ne (q0 rfl) (q0 rfl)) rfl rfl ?_
    refine XN ?_
    refine thenJ_normal ?_
    refine H_cond rfl (fun h2 => ?_) (fun h2 => ?_)
    · have h2' : flErr f ≠ 0 := by simpa using h2
      have hso : spotsOf f xs = [] := by unfold spotsOf; rw [if_neg h2']
      rw [hso]
      refine H_seq ?_
      refine R0 ?_
      refine xV (e_mv (v := .slice _ _ _) (q0 rfl)) rfl rfl ?_
      refine xV (e_len Try.underlying37 (q0 rfl)) rfl rfl ?_
      refine xV (e_eq (q0 rfl) (q0 rfl)) rfl rfl ?_
      refine xV (e_mv (v := .bool _) (q0 rfl)) rfl rfl ?_
      refine xCT (en Try.call13 (ha0)) (fun _ w _ => awake_w w) rfl rfl rfl rfl ?_
      refine xV (e_and (q0 rfl) rfl (fun h => by first | rfl | (rw [h]; rfl))) rfl rfl ?_
      refine xV (e_as (v := .bool _) (q0 rfl)) rfl rfl ?_
      refine XN ?_
      refine thenJ_normal ?_
      refine H_ret ?_
      refine thenJ_ret ?_
      exact ret1 (v := .bool _) rfl rfl rfl fun w' hw => ⟨ret_bool (by decide), hw.1⟩
    · have h2' : flErr f = 0 := by simpa using h2
      obtain ⟨hbk, -⟩ := flErr_ok h2'
      have hnb := nb_eq h2'
      have hal := spots_alone h2' xs
      have hsl : (spotsOf f xs).length = nbOf f := by unfold spotsOf; rw [if_pos h2']; exact spotsOf_len h2'
      generalize spotsOf f xs = sp at *
      refine H_skip ?_
      refine thenJ_normal ?_
      refine H_seq ?_
      refine H_seq ?_
      refine R0 ?_
      refine xV (e_mv (v := .slice _ _ _) (q0 rfl)) rfl rfl ?_
      refine xV (e_len Try.underlying37 (q0 rfl)) rfl rfl ?_
      refine xV (e_fld Try.underlying24 rfl Try.sizeOf3 rfl (q0 rfl)) rfl rfl ?_
      refine xV (eL Try.isAgg3 (q0 rfl)) rfl rfl ?_
      refine xV (e_ne (q0 rfl) (q0 rfl)) rfl rfl ?_
      refine XN ?_
      refine thenJ_normal ?_
      refine H_cond rfl (fun h3 => ?_) (fun h3 => ?_)
      · simp at h3; omega
      · refine H_skip ?_
        refine thenJ_normal ?_
        refine H_seq ?_
        refine H_seq ?_
        refine R0 ?_
        refine xV (e_as (v := .int _ _) (q0 rfl)) rfl rfl ?_
        refine XN ?_
        refine thenJ_normal ?_
        refine H_block ?_
        obtain ⟨s1, s2⟩ := s1
        refine H_know (fun w hw => rowT_at (j := 0) hw rfl (by omega)) fun ⟨sb, hsb⟩ => ?_
        simp only at hsb
        subst hsb
        refine H_loop [4, 7, 8, 9, 34, 35, 36, 37, 38, 39, 40, 41, 42, 43, 44, 45, 46, 47, 48, 49, 50, 51, 52, 53, 54, 55, 56, 57, 58, 59, 60, 61, 62, 63, 64, 65, 66, 67, 68, 69, 70, 71, 72, 73, 74, 75, 76, 77, 78, 79, 80, 81, 82, 83, 84, 85, 86, 87, 88, 89, 90, 91, 92, 93, 94, 95, 96, 97, 98, 99, 100, 101, 102, 103, 104, 105, 106, 107, 108, 109, 110, 111, 112, 113, 114, 115, 116, 117, 118, 119, 120, 121, 122, 123, 124, 125, 126, 127, 128, 129, 130, 131, 132, 133, 134, 135, 136, 137, 138, 139, 140, 141, 142, 143, 144, 145, 146, 147, 148, 149, 150, 151, 152, 153, 154, 155, 156, 157, 158, 159, 160, 161, 162, 163, 164, 165, 166, 167, 168, 169, 170, 171, 172, 173, 174, 175] (fun i : Nat => [(7, .int .i64 i)]) (fun _ => [spRow (some ⟨sb, 0, none⟩) s2 sp, box b2 24 (f.cells a)]) (fun i => i ≤ sp.length) (fun i => sp.length - i) 0 ⟨rfl, trivial⟩ (fun w hw => hw) rfl (Nat.zero_le _) ?_
        rintro i g hi
        refine H_seq ?_
        refine H_seq ?_
        refine R0 ?_
        refine xV (e_mv (v := .int _ _) (q0 rfl)) rfl rfl ?_
        refine xV (e_mv (v := .slice _ _ _) (q0 rfl)) rfl rfl ?_
        refine xV (e_len Try.underlying37 (q0 rfl)) rfl rfl ?_
        refine xV (e_lt (q0 rfl) (q0 rfl)) rfl rfl ?_
        refine XN ?_
        refine thenJ_normal ?_
        refine H_cond rfl (fun hlt => ?_) (fun hlt => ?_)
        · have hlt' : i < sp.length := by simpa using hlt
          obtain ⟨x, hxi⟩ : ∃ x, sp[i]? = some x := ⟨_, List.getElem?_eq_getElem hlt'⟩
          refine H_skip ?_
          refine thenJ_normal ?_
          refine H_seq ?_
          refine H_block ?_
          refine H_seq ?_
          refine R0 ?_
          refine xV (e_as (v := .int _ _) (q0 rfl)) rfl rfl ?_
          refine XN ?_
          refine thenJ_normal ?_
          refine H_seq ?_
          refine H_seq ?_
          refine R0 ?_
          refine xV (e_as (v := .int _ _) (q0 rfl)) rfl rfl ?_
          refine XN ?_
          refine thenJ_normal ?_
          refine H_block ?_
          refine H_loop [4, 8, 9, 40, 41, 42, 43, 44, 45, 46, 47, 48, 49, 50, 51, 52, 53, 54, 55, 56, 57, 58, 59, 60, 61, 62, 63, 64, 65, 66, 67, 68, 69, 70, 71, 72, 73, 74, 75, 76, 77, 78, 79, 80, 81, 82, 83, 84, 85, 86, 87, 88, 89, 90, 91, 92, 93, 94, 95, 96, 97, 98, 99, 100, 101, 102, 103, 104, 105, 106, 107, 108, 109, 110, 111, 112, 113, 114, 115, 116, 117, 118, 119, 120, 121, 122, 123, 124] (fun k : Nat => [(9, .int .i64 k), (8, .int .i64 (countP (sp.take k) 4 x.place))]) (fun _ => [spRow (some ⟨sb, 0, none⟩) s2 sp, box b2 24 (f.cells a)]) (fun k => k ≤ sp.length ∧ countP (sp.take k) 4 x.place ≤ k) (fun k => sp.length - k) 0 ⟨rfl, rfl, trivial⟩ (fun w hw => hw) rfl ⟨Nat.zero_le _, Nat.le_refl _⟩ ?_
          rintro k g2 ⟨hk, hkc⟩
          refine H_seq ?_
          refine H_seq ?_
          refine R0 ?_
          refine xV (e_mv (v := .int _ _) (q0 rfl)) rfl rfl ?_
          refine xV (e_mv (v := .slice _ _ _) (q0 rfl)) rfl rfl ?_
          refine xV (e_len Try.underlying37 (q0 rfl)) rfl rfl ?_
          refine xV (e_lt (q0 rfl) (q0 rfl)) rfl rfl ?_
          refine XN ?_
          refine thenJ_normal ?_
          refine H_cond rfl (fun hlk => ?_) (fun hlk => ?_)
          · have hlk' : k < sp.length := by simpa using hlk
            obtain ⟨y, hyk⟩ : ∃ y, sp[k]? = some y := ⟨_, List.getElem?_eq_getElem hlk'⟩
            have hs := countP_snoc sp 4 x.place k y hyk
            refine H_skip ?_
            refine thenJ_normal ?_
            refine H_seq ?_
            refine H_block ?_
            refine H_seq ?_
            refine H_seq ?_
            refine R1 rfl (by decide +kernel) ?_
            refine xV (e_mv (v := .int _ _) (q0 rfl)) rfl rfl ?_
            refine xV (e_mv (v := .int _ _) (q0 rfl)) rfl rfl ?_
            refine xV (e_ne (q0 rfl) (q0 rfl)) rfl rfl ?_
            refine xV (e_mv (v := .bool _) (q0 rfl)) rfl rfl ?_
            refine xVT (e_mv (v := .slice _ _ _) (q0 rfl)) rfl rfl rfl rfl ?_
            refine xVT (e_mv (v := .int _ _) (q0 rfl)) rfl rfl rfl rfl ?_
            refine xVT (e_idx _ Try.underlying37 Try.sizeOf41 (q1 rfl) (q1 rfl) (fun _ => ⟨rfl, by omega⟩)) rfl rfl rfl rfl ?_
            refine xVT (e_fld Try.underlying41 rfl Try.sizeOf3 rfl (q1 rfl)) rfl rfl rfl rfl ?_
            refine xVT (eL Try.isAgg3 (q1 rfl)) rfl rfl rfl rfl ?_
            refine xVT (e_mv (v := .slice _ _ _) (q0 rfl)) rfl rfl rfl rfl ?_
            refine xVT (e_mv (v := .int _ _) (q0 rfl)) rfl rfl rfl rfl ?_
            refine xVT (e_idx _ Try.underlying37 Try.sizeOf41 (q1 rfl) (q1 rfl) (fun _ => ⟨rfl, by omega⟩)) rfl rfl rfl rfl ?_
            refine xVT (e_fld Try.underlying41 rfl Try.sizeOf3 rfl (q1 rfl)) rfl rfl rfl rfl ?_
            refine xVT (eL Try.isAgg3 (q1 rfl)) rfl rfl rfl rfl ?_
            refine xVT (e_eq (q1 rfl) (q1 rfl)) rfl rfl rfl rfl ?_
            refine xV (e_and (q0 rfl) rfl (fun h => by first | rfl | (rw [h]; rfl))) rfl rfl ?_
            refine xV (e_mv (v := .bool _) (q0 rfl)) rfl rfl ?_
            refine xVT (e_mv (v := .slice _ _ _) (q0 rfl)) rfl rfl rfl rfl ?_
            refine xVT (e_mv (v := .int _ _) (q0 rfl)) rfl rfl rfl rfl ?_
            refine xVT (e_idx _ Try.underlying37 Try.sizeOf41 (q1 rfl) (q1 rfl) (fun _ => ⟨rfl, by omega⟩)) rfl rfl rfl rfl ?_
            refine xVT (e_fld Try.underlying41 rfl Try.sizeOf3 rfl (q1 rfl)) rfl rfl rfl rfl ?_
            refine xVT (eL Try.isAgg3 (q1 rfl)) rfl rfl rfl rfl ?_
            refine xVT (e_eq (q1 rfl) (q0 rfl)) rfl rfl rfl rfl ?_
            refine xVT (e_mv (v := .bool _) (q1 rfl)) rfl rfl rfl rfl ?_
            refine xVT2 (e_mv (v := .slice _ _ _) (q0 rfl)) rfl rfl rfl rfl ?_
            refine xVT2 (e_mv (v := .int _ _) (q0 rfl)) rfl rfl rfl rfl ?_
            refine xVT2 (e_idx _ Try.underlying37 Try.sizeOf41 (q1 rfl) (q1 rfl) (fun _ => ⟨rfl, by omega⟩)) rfl rfl rfl rfl ?_
            refine xVT2 (e_fld Try.underlying41 rfl Try.sizeOf3 rfl (q1 rfl)) rfl rfl rfl rfl ?_
            refine xVT2 (eL Try.isAgg3 (q1 rfl)) rfl rfl rfl rfl ?_
            refine xVT2 (e_mv (v := .slice _ _ _) (q0 rfl)) rfl rfl rfl rfl ?_
            refine xVT2 (e_mv (v := .int _ _) (q0 rfl)) rfl rfl rfl rfl ?_
            refine xVT2 (e_idx _ Try.underlying37 Try.sizeOf41 (q1 rfl) (q1 rfl) (fun _ => ⟨rfl, by omega⟩)) rfl rfl rfl rfl ?_
            refine xVT2 (e_fld Try.underlying41 rfl Try.sizeOf3 rfl (q1 rfl)) rfl rfl rfl rfl ?_
            refine xVT2 (eL Try.isAgg3 (q1 rfl)) rfl rfl rfl rfl ?_
            refine xVT2 (e_eq (q1 rfl) (q1 rfl)) rfl rfl rfl rfl ?_
            refine xVT (e_and (q1 rfl) rfl (fun h => by first | rfl | (rw [h]; rfl))) rfl rfl rfl rfl ?_
            refine xVT (e_mv (v := .bool _) (q1 rfl)) rfl rfl rfl rfl ?_
            refine xVF2 (e_mv (v := .slice _ _ _) (q0 rfl)) rfl rfl rfl rfl ?_
            refine xVF2 (e_mv (v := .int _ _) (q0 rfl)) rfl rfl rfl rfl ?_
            refine xVF2 (e_idx _ Try.underlying37 Try.sizeOf41 (q1 rfl) (q1 rfl) (fun _ => ⟨rfl, by omega⟩)) rfl rfl rfl rfl ?_
            refine xVF2 (e_fld Try.underlying41 rfl Try.sizeOf3 rfl (q1 rfl)) rfl rfl rfl rfl ?_
            refine xVF2 (eL Try.isAgg3 (q1 rfl)) rfl rfl rfl rfl ?_
            refine xVF2 (e_eq (q1 rfl) (q0 rfl)) rfl rfl rfl rfl ?_
            refine xVF2 (e_mv (v := .bool _) (q1 rfl)) rfl rfl rfl rfl ?_
            refine xVT2 (e_mv (v := .slice _ _ _) (q0 rfl)) rfl rfl rfl rfl ?_
            refine xVT2 (e_mv (v := .int _ _) (q0 rfl)) rfl rfl rfl rfl ?_
            refine xVT2 (e_idx _ Try.underlying37 Try.sizeOf41 (q1 rfl) (q1 rfl) (fun _ => ⟨rfl, by omega⟩)) rfl rfl rfl rfl ?_
            refine xVT2 (e_fld Try.underlying41 rfl Try.sizeOf3 rfl (q1 rfl)) rfl rfl rfl rfl ?_
            refine xVT2 (eL Try.isAgg3 (q1 rfl)) rfl rfl rfl rfl ?_
            refine xVT2 (e_mv (v := .slice _ _ _) (q0 rfl)) rfl rfl rfl rfl ?_
            refine xVT2 (e_mv (v := .int _ _) (q0 rfl)) rfl rfl rfl rfl ?_
            refine xVT2 (e_idx _ Try.underlying37 Try.sizeOf41 (q1 rfl) (q1 rfl) (fun _ => ⟨rfl, by omega⟩)) rfl rfl rfl rfl ?_
            refine xVT2 (e_fld Try.underlying41 rfl Try.sizeOf3 rfl (q1 rfl)) rfl rfl rfl rfl ?_
            refine xVT2 (eL Try.isAgg3 (q1 rfl)) rfl rfl rfl rfl ?_
            refine xVT2 (e_eq (q1 rfl) (q1 rfl)) rfl rfl rfl rfl ?_
            refine xVF2 (e_and (q1 rfl) rfl (fun h => by first | rfl | (rw [h]; rfl))) rfl rfl rfl rfl ?_
            refine xVT (e_or (q1 rfl) rfl (fun h => by first | rfl | (rw [h]; rfl))) rfl rfl rfl rfl ?_
            refine xV (e_and (q0 rfl) rfl (fun h => by first | rfl | (rw [h]; rfl))) rfl rfl ?_
            refine XN ?_
            refine thenJ_normal ?_
            refine H_cond rfl (fun hb => ?_) (fun hb => ?_)
            · exfalso
              simp at hb
              obtain ⟨⟨hne, hww⟩, ⟨hx1, hp1⟩ | ⟨hx3, hr3⟩⟩ := hb
              · exact hal.dock i k x y hxi hyk (by omega) hx1 (by omega) hp1
              · exact hne (by have := hal.ride i k x y hxi hyk hx3 (by omega) hr3; omega)
            · refine H_skip ?_
              refine thenJ_normal ?_
              refine H_seq ?_
              refine R1 rfl (by decide +kernel) ?_
              refine xV (e_mv (v := .slice _ _ _) (q0 rfl)) rfl rfl ?_
              refine xV (e_mv (v := .int _ _) (q0 rfl)) rfl rfl ?_
              refine xV (e_idx _ Try.underlying37 Try.sizeOf41 (q0 rfl) (q0 rfl) (fun _ => ⟨rfl, by omega⟩)) rfl rfl ?_
              refine xV (e_fld Try.underlying41 rfl Try.sizeOf3 rfl (q0 rfl)) rfl rfl ?_
              refine xV (eL Try.isAgg3 (q0 rfl)) rfl rfl ?_
              refine xV (e_eq (q0 rfl) (q0 rfl)) rfl rfl ?_
              refine xV (e_mv (v := .bool _) (q0 rfl)) rfl rfl ?_
              refine xVT (e_mv (v := .slice _ _ _) (q0 rfl)) rfl rfl rfl rfl ?_
              refine xVT (e_mv (v := .int _ _) (q0 rfl)) rfl rfl rfl rfl ?_
              refine xVT (e_idx _ Try.underlying37 Try.sizeOf41 (q1 rfl) (q1 rfl) (fun _ => ⟨rfl, by omega⟩)) rfl rfl rfl rfl ?_
              refine xVT (e_fld Try.underlying41 rfl Try.sizeOf3 rfl (q1 rfl)) rfl rfl rfl rfl ?_
              refine xVT (eL Try.isAgg3 (q1 rfl)) rfl rfl rfl rfl ?_
              refine xVT (e_mv (v := .slice _ _ _) (q0 rfl)) rfl rfl rfl rfl ?_
              refine xVT (e_mv (v := .int _ _) (q0 rfl)) rfl rfl rfl rfl ?_
              refine xVT (e_idx _ Try.underlying37 Try.sizeOf41 (q1 rfl) (q1 rfl) (fun _ => ⟨rfl, by omega⟩)) rfl rfl rfl rfl ?_
              refine xVT (e_fld Try.underlying41 rfl Try.sizeOf3 rfl (q1 rfl)) rfl rfl rfl rfl ?_
              refine xVT (eL Try.isAgg3 (q1 rfl)) rfl rfl rfl rfl ?_
              refine xVT (e_eq (q1 rfl) (q1 rfl)) rfl rfl rfl rfl ?_
              refine xV (e_and (q0 rfl) rfl (fun h => by first | rfl | (rw [h]; rfl))) rfl rfl ?_
              refine XN ?_
              refine thenJ_normal ?_
              refine H_cond rfl (fun hc => ?_) (fun hc => ?_)
              · have hs2 : countP (sp.take (k + 1)) 4 x.place = countP (sp.take k) 4 x.place + 1 := by rw [hs, if_pos (by unfold atP; exact hc)]
                refine R0 ?_
                refine xV (e_mv (v := .int _ _) (q0 rfl)) rfl rfl ?_
                refine xV (e_add (q0 rfl) (q0 rfl) (fun _ => ⟨rfl, by omega, by omega⟩)) rfl rfl ?_
                refine xV (e_as (v := .int _ _) (q0 rfl)) rfl rfl ?_
                refine XN ?_
                refine blockJ_normal ?_
                refine thenJ_normal ?_
                refine R0 ?_
                refine xV (e_mv (v := .int _ _) (q0 rfl)) rfl rfl ?_
                refine xV (e_add (q0 rfl) (q0 rfl) (fun _ => ⟨rfl, by omega, by omega⟩)) rfl rfl ?_
                refine xV (e_as (v := .int _ _) (q0 rfl)) rfl rfl ?_
                refine XN ?_
                exact loopJ_normal (k + 1) (by repeat (first | exact agree_self | exact agree_over | refine agree_upd rfl ?_ | refine agree_updL rfl ?_ | refine agree_over2 rfl ?_)) ⟨rfl, by show _ = Value.int .i64 (countP (sp.take (k + 1)) 4 x.place : Int); rw [hs2]; rfl, trivial⟩ (fun w hw => hw) rfl ⟨by omega, by omega⟩ (by show sp.length - (k + 1) < sp.length - k; omega)
              · have hs2 : countP (sp.take (k + 1)) 4 x.place = countP (sp.take k) 4 x.place := by rw [hs, if_neg (by unfold atP; rw [hc]; decide), Nat.add_zero]
                refine H_skip ?_
                refine blockJ_normal ?_
                refine thenJ_normal ?_
                refine R0 ?_
                refine xV (e_mv (v := .int _ _) (q0 rfl)) rfl rfl ?_
                refine xV (e_add (q0 rfl) (q0 rfl) (fun _ => ⟨rfl, by omega, by omega⟩)) rfl rfl ?_
                refine xV (e_as (v := .int _ _) (q0 rfl)) rfl rfl ?_
                refine XN ?_
                exact loopJ_normal (k + 1) (by repeat (first | exact agree_self | exact agree_over | refine agree_upd rfl ?_ | refine agree_updL rfl ?_ | refine agree_over2 rfl ?_)) ⟨rfl, by show _ = Value.int .i64 (countP (sp.take (k + 1)) 4 x.place : Int); rw [hs2]; rfl, trivial⟩ (fun w hw => hw) rfl ⟨by omega, by omega⟩ (by show sp.length - (k + 1) < sp.length - k; omega)
          · have hkn : k = sp.length := by simp at hlk; omega
            subst hkn
            rw [List.take_length]
            refine H_exit ?_
            refine thenJ_exit ?_
            refine loopJ_exit ?_
            refine blockJ_hit ?_
            refine thenJ_normal ?_
            refine H_seq ?_
            refine H_seq ?_
            refine R0 ?_
            refine xV (e_mv (v := .slice _ _ _) (q0 rfl)) rfl rfl ?_
            refine xV (e_mv (v := .int _ _) (q0 rfl)) rfl rfl ?_
            refine xV (e_idx _ Try.underlying37 Try.sizeOf41 (q0 rfl) (q0 rfl) (fun _ => ⟨rfl, by omega⟩)) rfl rfl ?_
            refine xV (e_fld Try.underlying41 rfl Try.sizeOf4 rfl (q0 rfl)) rfl rfl ?_
            refine xV (eL Try.isAgg4 (q0 rfl)) rfl rfl ?_
            refine xV (e_mv (v := .bool _) (q0 rfl)) rfl rfl ?_
            refine xVT (e_mv (v := .slice _ _ _) (q0 rfl)) rfl rfl rfl rfl ?_
            refine xVT (e_mv (v := .int _ _) (q0 rfl)) rfl rfl rfl rfl ?_
            refine xVT (e_idx _ Try.underlying37 Try.sizeOf41 (q1 rfl) (q1 rfl) (fun _ => ⟨rfl, by omega⟩)) rfl rfl rfl rfl ?_
            refine xVT (e_fld Try.underlying41 rfl Try.sizeOf3 rfl (q1 rfl)) rfl rfl rfl rfl ?_
            refine xVT (eL Try.isAgg3 (q1 rfl)) rfl rfl rfl rfl ?_
            refine xVT (e_ne (q1 rfl) (q0 rfl)) rfl rfl rfl rfl ?_
            refine xV (e_and (q0 rfl) rfl (fun h => by first | rfl | (rw [h]; rfl))) rfl rfl ?_
            refine XN ?_
            refine thenJ_normal ?_
            refine H_cond rfl (fun hb => ?_) (fun hb => ?_)
            · exfalso
              simp at hb
              exact hb.2 (hal.paused x (List.mem_of_getElem? hxi) hb.1)
            · have _ht : True := trivial
              by_cases h4 : x.where_ = 4
              · obtain ⟨p0, p1, p2⟩ := hal.truck x (List.mem_of_getElem? hxi) h4
                obtain ⟨pk, hpk⟩ : ∃ k : Nat, x.place = k := ⟨x.place.toNat, by omega⟩
                have htl := hf.trucks.1
                have hpt : pk < a.tn := by omega
                obtain ⟨tb, toff, tx, htA, htb, htx, htr⟩ := hf.trucks.at_ hpt
                have hgd : f.trucks.getD x.place.toNat 0 = tx := by
                  rw [hpk, Int.toNat_natCast, List.getD_eq_getElem?_getD, htx]; rfl
                rw [hgd] at p2
                refine H_skip ?_
                refine thenJ_normal ?_
                refine H_seq ?_
                refine R1 rfl (by decide +kernel) ?_
                refine xV (e_mv (v := .slice _ _ _) (q0 rfl)) rfl rfl ?_
                refine xV (e_mv (v := .int _ _) (q0 rfl)) rfl rfl ?_
                refine xV (e_idx _ Try.underlying37 Try.sizeOf41 (q0 rfl) (q0 rfl) (fun _ => ⟨rfl, by omega⟩)) rfl rfl ?_
                refine xV (e_fld Try.underlying41 rfl Try.sizeOf3 rfl (q0 rfl)) rfl rfl ?_
                refine xV (eL Try.isAgg3 (q0 rfl)) rfl rfl ?_
                refine xV (e_eq (q0 rfl) (q0 rfl)) rfl rfl ?_
                refine xV (e_mv (v := .bool _) (q0 rfl)) rfl rfl ?_
                refine xVT (e_mv (v := .slice _ _ _) (q0 rfl)) rfl rfl rfl rfl ?_
                refine xVT (e_mv (v := .int _ _) (q0 rfl)) rfl rfl rfl rfl ?_
                refine xVT (e_idx _ Try.underlying37 Try.sizeOf41 (q1 rfl) (q1 rfl) (fun _ => ⟨rfl, by omega⟩)) rfl rfl rfl rfl ?_
                refine xVT (e_fld Try.underlying41 rfl Try.sizeOf3 rfl (q1 rfl)) rfl rfl rfl rfl ?_
                refine xVT (eL Try.isAgg3 (q1 rfl)) rfl rfl rfl rfl ?_
                refine xVT (e_lt (q1 rfl) (q0 rfl)) rfl rfl rfl rfl ?_
                refine xVT (e_mv (v := .bool _) (q1 rfl)) rfl rfl rfl rfl ?_
                refine xVF2 (e_mv (v := .slice _ _ _) (q0 rfl)) rfl rfl rfl rfl ?_
                refine xVF2 (e_mv (v := .int _ _) (q0 rfl)) rfl rfl rfl rfl ?_
                refine xVF2 (e_idx _ Try.underlying37 Try.sizeOf41 (q1 rfl) (q1 rfl) (fun _ => ⟨rfl, by omega⟩)) rfl rfl rfl rfl ?_
                refine xVF2 (e_fld Try.underlying41 rfl Try.sizeOf3 rfl (q1 rfl)) rfl rfl rfl rfl ?_
                refine xVF2 (eL Try.isAgg3 (q1 rfl)) rfl rfl rfl rfl ?_
                refine xVF2 (e_fld Try.underlying24 rfl Try.sizeOf22 rfl (q0 rfl)) rfl rfl rfl rfl ?_
                refine xVF2 (eL Try.isAgg22 (q1 rfl)) rfl rfl rfl rfl ?_
                refine xVF2 (e_len Try.underlying22 (q1 rfl)) rfl rfl rfl rfl ?_
                refine xVF2 (e_ge (q1 rfl) (q1 rfl)) rfl rfl rfl rfl ?_
                refine xVT (e_or (q1 rfl) rfl (fun h => by first | rfl | (rw [h]; rfl))) rfl rfl rfl rfl ?_
                refine xVT (e_mv (v := .bool _) (q1 rfl)) rfl rfl rfl rfl ?_
                refine xVF2 (e_mv (v := .int _ _) (q0 rfl)) rfl rfl rfl rfl ?_
                refine xVF2 (e_fld Try.underlying24 rfl Try.sizeOf22 rfl (q0 rfl)) rfl rfl rfl rfl ?_
                refine xVF2 (e_ld (v := .slice (some ⟨tb, toff, none⟩) a.tn a.tc) Try.isAgg22 (q1 rfl) (bx 1 (i := 4) rfl (by show some (Value.slice a.tA a.tn a.tc) = _; rw [htA]))) rfl rfl rfl rfl ?_
                refine xVF2 (e_mv (v := .slice _ _ _) (q0 rfl)) rfl rfl rfl rfl ?_
                refine xVF2 (e_mv (v := .int _ _) (q0 rfl)) rfl rfl rfl rfl ?_
                refine xVF2 (e_idx _ Try.underlying37 Try.sizeOf41 (q1 rfl) (q1 rfl) (fun _ => ⟨rfl, by omega⟩)) rfl rfl rfl rfl ?_
                refine xVF2 (e_fld Try.underlying41 rfl Try.sizeOf3 rfl (q1 rfl)) rfl rfl rfl rfl ?_
                refine xVF2 (eL Try.isAgg3 (q1 rfl)) rfl rfl rfl rfl ?_
                refine xVF2 (e_idx pk Try.underlying22 Try.sizeOf3 (q1 rfl) (q1 rfl) (fun _ => ⟨hpk, hpt⟩)) rfl rfl rfl rfl ?_
                refine xVF2 (eL Try.isAgg3 (q1 rfl)) rfl rfl rfl rfl ?_
                refine xVF2 (e_gt (q1 rfl) (q1 rfl)) rfl rfl rfl rfl ?_
                refine xVT (e_or (q1 rfl) rfl (fun h => by first | rfl | (rw [h]; rfl))) rfl rfl rfl rfl ?_
                refine xV (e_and (q0 rfl) rfl (fun h => by first | rfl | (rw [h]; rfl))) rfl rfl ?_
                refine XN ?_
                refine thenJ_normal ?_
                refine H_cond rfl (fun hb => ?_) (fun hb => ?_)
                · exfalso
                  simp at hb
                  omega
                · refine H_skip ?_
                  refine blockJ_normal ?_
                  refine thenJ_normal ?_
                  refine R0 ?_
                  refine xV (e_mv (v := .int _ _) (q0 rfl)) rfl rfl ?_
                  refine xV (e_add (q0 rfl) (q0 rfl) (fun _ => ⟨rfl, by omega, by omega⟩)) rfl rfl ?_
                  refine xV (e_as (v := .int _ _) (q0 rfl)) rfl rfl ?_
                  refine XN ?_
                  exact loopJ_normal (i + 1) (by repeat (first | exact agree_self | exact agree_over | refine agree_upd rfl ?_ | refine agree_updL rfl ?_ | refine agree_over2 rfl ?_)) ⟨rfl, trivial⟩ (fun w hw => hw) rfl (by show i + 1 ≤ _; omega) (by show sp.length - (i + 1) < sp.length - i; omega)
              · have _ht : True := trivial
                refine H_skip ?_
                refine thenJ_normal ?_
                refine H_seq ?_
                refine R1 rfl (by decide +kernel) ?_
                refine xV (e_mv (v := .slice _ _ _) (q0 rfl)) rfl rfl ?_
                refine xV (e_mv (v := .int _ _) (q0 rfl)) rfl rfl ?_
                refine xV (e_idx _ Try.underlying37 Try.sizeOf41 (q0 rfl) (q0 rfl) (fun _ => ⟨rfl, by omega⟩)) rfl rfl ?_
                refine xV (e_fld Try.underlying41 rfl Try.sizeOf3 rfl (q0 rfl)) rfl rfl ?_
                refine xV (eL Try.isAgg3 (q0 rfl)) rfl rfl ?_
                refine xV (e_eq (q0 rfl) (q0 rfl)) rfl rfl ?_
                refine xV (e_mv (v := .bool _) (q0 rfl)) rfl rfl ?_
                refine xVT (e_dead (v := .slice none 0 0) (by simp [h4])) rfl rfl rfl rfl ?_
                refine xVT (e_dead (v := .int .i64 0) (by simp [h4])) rfl rfl rfl rfl ?_
                refine xVT (e_dead (v := .pointer none) (by simp [h4])) rfl rfl rfl rfl ?_
                refine xVT (e_dead (v := .pointer none) (by simp [h4])) rfl rfl rfl rfl ?_
                refine xVT (e_dead (v := .int .i64 0) (by simp [h4])) rfl rfl rfl rfl ?_
                refine xVT (e_dead (v := .bool false) (by simp [h4])) rfl rfl rfl rfl ?_
                refine xVT (e_dead (v := .bool false) (by simp [h4])) rfl rfl rfl rfl ?_
                refine xVF2 (e_dead (v := .slice none 0 0) (by simp [h4])) rfl rfl rfl rfl ?_
                refine xVF2 (e_dead (v := .int .i64 0) (by simp [h4])) rfl rfl rfl rfl ?_
                refine xVF2 (e_dead (v := .pointer none) (by simp [h4])) rfl rfl rfl rfl ?_
                refine xVF2 (e_dead (v := .pointer none) (by simp [h4])) rfl rfl rfl rfl ?_
                refine xVF2 (e_dead (v := .int .i64 0) (by simp [h4])) rfl rfl rfl rfl ?_
                refine xVF2 (e_dead (v := .pointer none) (by simp [h4])) rfl rfl rfl rfl ?_
                refine xVF2 (e_dead (v := .slice none 0 0) (by simp [h4])) rfl rfl rfl rfl ?_
                refine xVF2 (e_dead (v := .int .i64 0) (by simp [h4])) rfl rfl rfl rfl ?_
                refine xVF2 (e_dead (v := .bool false) (by simp [h4])) rfl rfl rfl rfl ?_
                refine xVT (e_dead (v := .bool false) (by simp [h4])) rfl rfl rfl rfl ?_
                refine xVT (e_dead (v := .bool false) (by simp [h4])) rfl rfl rfl rfl ?_
                refine xVF2 (e_dead (v := .int .i64 0) (by simp [h4])) rfl rfl rfl rfl ?_
                refine xVF2 (e_dead (v := .pointer none) (by simp [h4])) rfl rfl rfl rfl ?_
                refine xVF2 (e_dead (v := .slice none 0 0) (by simp [h4])) rfl rfl rfl rfl ?_
                refine xVF2 (e_dead (v := .slice none 0 0) (by simp [h4])) rfl rfl rfl rfl ?_
                refine xVF2 (e_dead (v := .int .i64 0) (by simp [h4])) rfl rfl rfl rfl ?_
                refine xVF2 (e_dead (v := .pointer none) (by simp [h4])) rfl rfl rfl rfl ?_
                refine xVF2 (e_dead (v := .pointer none) (by simp [h4])) rfl rfl rfl rfl ?_
                refine xVF2 (e_dead (v := .int .i64 0) (by simp [h4])) rfl rfl rfl rfl ?_
                refine xVF2 (e_dead (v := .pointer none) (by simp [h4])) rfl rfl rfl rfl ?_
                refine xVF2 (e_dead (v := .int .i64 0) (by simp [h4])) rfl rfl rfl rfl ?_
                refine xVF2 (e_dead (v := .bool false) (by simp [h4])) rfl rfl rfl rfl ?_
                refine xVT (e_dead (v := .bool false) (by simp [h4])) rfl rfl rfl rfl ?_
                refine xV (e_and (q0 rfl) rfl (fun h => by first | rfl | (rw [h]; rfl))) rfl rfl ?_
                refine XN ?_
                refine thenJ_normal ?_
                refine H_cond rfl (fun hb => ?_) (fun hb => ?_)
                · exfalso
                  simp [h4] at hb
                · refine H_skip ?_
                  refine blockJ_normal ?_
                  refine thenJ_normal ?_
                  refine R0 ?_
                  refine xV (e_mv (v := .int _ _) (q0 rfl)) rfl rfl ?_
                  refine xV (e_add (q0 rfl) (q0 rfl) (fun _ => ⟨rfl, by omega, by omega⟩)) rfl rfl ?_
                  refine xV (e_as (v := .int _ _) (q0 rfl)) rfl rfl ?_
                  refine XN ?_
                  exact loopJ_normal (i + 1) (by repeat (first | exact agree_self | exact agree_over | refine agree_upd rfl ?_ | refine agree_updL rfl ?_ | refine agree_over2 rfl ?_)) ⟨rfl, trivial⟩ (fun w hw => hw) rfl (by show i + 1 ≤ _; omega) (by show sp.length - (i + 1) < sp.length - i; omega)
        · refine H_exit ?_
          refine thenJ_exit ?_
          refine loopJ_exit ?_
          refine blockJ_hit ?_
          refine thenJ_normal ?_
          refine H_seq ?_
          refine R0 ?_
          refine xC (en Try.call13 (ha0)) (fun _ w _ => awake_w w) rfl rfl ?_
          refine xV (e_as (v := .bool _) (q0 rfl)) rfl rfl ?_
          refine XN ?_
          refine thenJ_normal ?_
          refine H_ret ?_
          exact ret1 (v := .bool _) rfl rfl rfl fun w' hw => ⟨rfl, hw.1⟩

end Go.Proofs.Cus

/-
  The law: every event is accepted or rejected, but a beat without an error.
-/
namespace Go.Proofs.Cus
open Go Go.RowKit Go.Proofs.E

section
variable {f : Fl} {ys : List Ev} {S : Nat → PS} {Ac : Nat → List Ev} {Rj_ : Nat → List Rj}
theorem Steps.rest (h : Steps f ys S Ac Rj_) (n : Nat) : ∀ d, n + d ≤ ys.length → (∃ t, Ac (n + d) = Ac n ++ t ∧ ∀ e ∈ t, e ∈ ys.drop n) ∧ (∃ t, Rj_ (n + d) = Rj_ n ++ t ∧ ∀ r ∈ t, ∃ e ∈ ys.drop n, r.device = e.device ∧ r.seq = e.seq)
  | 0, _ => ⟨⟨[], by simp, by simp⟩, ⟨[], by simp, by simp⟩⟩
  | d + 1, hd => by
    obtain ⟨⟨t, h1, h2⟩, ⟨u, h3, h4⟩⟩ := h.rest n d (by omega)
    obtain ⟨e, he⟩ : ∃ e, ys[n + d]? = some e := ⟨_, List.getElem?_eq_getElem (by omega)⟩
    obtain ⟨_, ha, hr⟩ := h.st (n + d) e he
    have hem : e ∈ ys.drop n := List.mem_of_getElem? (i := d) (by rw [List.getElem?_drop]; exact he)
    constructor
    · rw [show n + (d + 1) = n + d + 1 from rfl, ha, h1]
      split
      · split
        · exact ⟨t ++ [e], by simp, fun e' he' => by rcases List.mem_append.1 he' with h | h; exact h2 e' h; rw [List.mem_singleton.1 h]; exact hem⟩
        · exact ⟨t, rfl, h2⟩
      · exact ⟨t, rfl, h2⟩
    · rw [show n + (d + 1) = n + d + 1 from rfl, hr, h3]
      split
      · split
        · exact ⟨u ++ [⟨e.device, e.seq, _⟩], by simp; rfl, fun e' he' => by rcases List.mem_append.1 he' with h | h; exact h4 e' h; rw [List.mem_singleton.1 h]; exact ⟨e, hem, rfl, rfl⟩⟩
        · exact ⟨u, rfl, h4⟩
      · exact ⟨u, rfl, h4⟩
theorem Steps.rest' (h : Steps f ys S Ac Rj_) {n : Nat} (hn : n ≤ ys.length) : (∃ t, Ac ys.length = Ac n ++ t ∧ ∀ e ∈ t, e ∈ ys.drop n) ∧ (∃ t, Rj_ ys.length = Rj_ n ++ t ∧ ∀ r ∈ t, ∃ e ∈ ys.drop n, r.device = e.device ∧ r.seq = e.seq) := by
  have := h.rest n (ys.length - n) (by omega)
  rwa [show n + (ys.length - n) = ys.length by omega] at this
end
theorem IsSet.later {l s : List Ev} (h : IsSet l s) {n : Nat} {e e' : Ev} (he : s[n]? = some e) (hm : e' ∈ s.drop (n + 1)) : e' ≠ e ∧ ¬ (e'.device = e.device ∧ e'.seq = e.seq) := by
  obtain ⟨j, hj⟩ := List.mem_iff_getElem?.1 hm
  rw [List.getElem?_drop] at hj
  obtain ⟨h1, h2⟩ := List.getElem?_eq_some_iff.1 he
  obtain ⟨h3, h4⟩ := List.getElem?_eq_some_iff.1 hj
  have hl := List.pairwise_iff_getElem.1 h.sorted n (n + 1 + j) h1 h3 (by omega)
  rw [h2, h4] at hl
  refine ⟨fun e1 => (by rw [e1, less_irrefl] at hl; cases hl), fun ⟨a, b⟩ => ?_⟩
  have := ((h.mem e').1 (List.mem_of_getElem? hj)).2 e ((h.mem e).1 (List.mem_of_getElem? he)).1 (by simp [sameNum, a, b])
  rw [this] at hl; cases hl

theorem Steps.at (f : Fl) (xs : List Ev) {S : Nat → PS} {Ac : Nat → List Ev} {Rj_ : Nat → List Rj} (h : Steps f (setOf xs) S Ac Rj_) {n : Nat} {e : Ev} (he : (setOf xs)[n]? = some e) :
    ((Ac (setOf xs).length)[(Ac n).length]? = some e ∧ Ac (n + 1) = Ac n ++ [e] ∧ Rj_ (n + 1) = Rj_ n) ∨
    ((∀ y, (Ac (setOf xs).length)[(Ac n).length]? = some y → y ≠ e) ∧ Ac (n + 1) = Ac n ∧ ((∃ er, er ≠ 0 ∧ (Rj_ (setOf xs).length)[(Rj_ n).length]? = some ⟨e.device, e.seq, er⟩ ∧ (Rj_ (n + 1)).length = (Rj_ n).length + 1) ∨ ((∀ r, (Rj_ (setOf xs).length)[(Rj_ n).length]? = some r → ¬ (r.device = e.device ∧ r.seq = e.seq)) ∧ Rj_ (n + 1) = Rj_ n ∧ e.kind = 10 ∧ evErr f e = 0))) := by
  have hn : n < (setOf xs).length := (List.getElem?_eq_some_iff.1 he).1
  obtain ⟨_, ha, hr⟩ := h.st n e he
  obtain ⟨⟨t, h1, h2⟩, ⟨u, h3, h4⟩⟩ := h.rest' (n := n + 1) (by omega)
  have hlater := fun e' (hm : e' ∈ (setOf xs).drop (n + 1)) => (set_isSet xs).later he hm
  have hno : Ac (n + 1) = Ac n → ∀ y, (Ac (setOf xs).length)[(Ac n).length]? = some y → y ≠ e := fun hA y hy => by
    rw [h1, hA, List.getElem?_append_right (Nat.le_refl _)] at hy
    exact (hlater y (h2 y (List.mem_of_getElem? hy))).1
  by_cases h0 : errR f (S n) e = 0
  · by_cases hk : e.kind = 10
    · rw [step_beat h0 hk] at ha hr
      simp only at ha hr
      refine .inr ⟨hno ha, ha, .inr ⟨fun r hr' hs => ?_, hr, hk, ?_⟩⟩
      · rw [h3, hr, List.getElem?_append_right (Nat.le_refl _)] at hr'
        obtain ⟨e', hm, e1, e2⟩ := h4 r (List.mem_of_getElem? hr')
        exact (hlater e' hm).2 ⟨by omega, by omega⟩
      · unfold errR at h0
        by_cases h5 : evErr f e = 0
        · exact h5
        · rw [if_pos h5] at h0; exact h0
    · rw [(step_do h0 hk).1] at ha hr
      simp only [if_true] at ha hr
      rw [if_neg (by decide)] at hr
      refine .inl ⟨?_, ha, hr⟩
      rw [h1, ha, List.append_assoc, List.getElem?_append_right (Nat.le_refl _), Nat.sub_self]
      rfl
  · rw [step_err h0] at ha hr
    simp only [h0, if_false] at ha
    simp only at hr
    rw [if_pos h0] at hr
    refine .inr ⟨hno ha, ha, .inl ⟨_, h0, ?_, by rw [hr]; simp⟩⟩
    rw [h3, hr, List.append_assoc, List.getElem?_append_right (Nat.le_refl _), Nat.sub_self]
    rfl
attribute [local irreducible] accOf rejOf flErr fewP setOf
set_option maxHeartbeats 1000000 in
set_option maxRecDepth 20000 in
theorem splits_w (f : Fl) (a : FA) (A : Option Addr) (n c : Nat) (xs : List Ev) (w : World) (hf : FlAt w f a) (hx : EvsAt w A n xs) (hpl : PlOk xs) :
    Calls Try.prog 11 #[.agg (f.cells a).toArray, .slice A n c] w fun e w' => e = .returned (.bool true) ∧ Bel w w' := by
  have hxl := hx.1
  have hylen := setOf_len xs
  refine H_enter Try.func11 rfl Try.ntmps11 rfl ?_
  refine H_seq ?_
  refine R0 ?_
  refine X_box (v := .agg _) rfl rfl fun b2 => ?_
  refine xV (e_as (v := .bool _) (q0 rfl)) rfl rfl ?_
  refine XN ?_
  refine thenJ_normal ?_
  refine H_seq ?_
  refine H_seq ?_
  refine R0 ?_
  refine xV (eS Try.isAgg24 Try.sizeOf24 (q0 rfl)) rfl rfl ?_
  refine xV (e_mv (v := .slice _ _ _) (q0 rfl)) rfl rfl ?_
  refine xC (en Try.call12 (ha2 (q0 rfl) (q0 rfl))) (fun _ w _ => few_w f a A n c w) rfl rfl ?_
  refine xV (e_not (q0 rfl)) rfl rfl ?_
  refine XN ?_
  refine thenJ_normal ?_
  refine H_cond rfl (fun h1 => ?_) (fun h1 => ?_)
  · refine H_seq ?_
    refine R0 ?_
    refine xC (en Try.call13 (ha0)) (fun _ w _ => awake_w w) rfl rfl ?_
    refine xV (e_as (v := .bool _) (q0 rfl)) rfl rfl ?_
    refine XN ?_
    refine thenJ_normal ?_
    refine H_ret ?_
    refine thenJ_ret ?_
    exact ret1 (v := .bool _) rfl rfl rfl fun w' hw => ⟨rfl, hw.1⟩
  · have hn := few_n h1
    refine H_skip ?_
    refine thenJ_normal ?_
    refine H_seq ?_
    refine R0 ?_
    refine xV (eS Try.isAgg24 Try.sizeOf24 (q0 rfl)) rfl rfl ?_
    refine xV (e_mv (v := .slice _ _ _) (q0 rfl)) rfl rfl ?_
    refine xCX (en Try.call14 (ha2 (q0 rfl) (q0 rfl))) (fun w hw => accepted_w f a A n c xs w (hf.mem hw) (hx.mem hw) (by omega) hpl) rfl (fun _ => rfl) fun s1 => ?_
    refine xV (e_mv (q0 rfl)) rfl rfl ?_
    refine xV (e_ext (q0 rfl) rfl) rfl rfl ?_
    refine xV (e_ext (q0 rfl) rfl) rfl rfl ?_
    refine xV (e_as (v := .slice _ _ _) (q0 rfl)) rfl rfl ?_
    refine xV (e_as (v := .int _ _) (q0 rfl)) rfl rfl ?_
    refine XN ?_
    refine thenJ_normal ?_
    refine H_seq ?_
    refine R0 ?_
    refine xV (eS Try.isAgg24 Try.sizeOf24 (q0 rfl)) rfl rfl ?_
    refine xV (e_mv (v := .slice _ _ _) (q0 rfl)) rfl rfl ?_
    refine xCX (en Try.call16 (ha2 (q0 rfl) (q0 rfl))) (fun w hw => rejected_w f a A n c xs w (hf.mem hw) (hx.mem hw) (by omega) hpl) rfl (fun _ => rfl) fun s2 => ?_
    refine xV (e_mv (q0 rfl)) rfl rfl ?_
    refine xV (e_ext (q0 rfl) rfl) rfl rfl ?_
    refine xV (e_ext (q0 rfl) rfl) rfl rfl ?_
    refine xV (e_as (v := .slice _ _ _) (q0 rfl)) rfl rfl ?_
    refine xV (e_as (v := .int _ _) (q0 rfl)) rfl rfl ?_
    refine XN ?_
    refine thenJ_normal ?_
    refine H_seq ?_
    refine H_seq ?_
    refine R0 ?_
    refine xV (e_mv (v := .int _ _) (q0 rfl)) rfl rfl ?_
    refine xV (e_ne (q0 rfl) (q0 rfl)) rfl rfl ?_
    refine xV (e_mv (v := .bool _) (q0 rfl)) rfl rfl ?_
    refine xVF (e_mv (v := .int _ _) (q0 rfl)) rfl rfl rfl rfl ?_
    refine xVF (e_ne (q1 rfl) (q0 rfl)) rfl rfl rfl rfl ?_
    refine xV (e_or (q0 rfl) rfl (fun h => by first | rfl | (rw [h]; rfl))) rfl rfl ?_
    refine XN ?_
    refine thenJ_normal ?_
    refine H_cond rfl (fun h2 => ?_) (fun h2 => ?_)
    · have h2' : flErr f ≠ 0 := by simpa using h2
      have hao : accOf f xs = [] := by unfold accOf; rw [if_neg h2']
      have hro : rejOf f xs = [] := by unfold rejOf; rw [if_neg h2']
      rw [hao, hro]
      refine H_seq ?_
      refine R0 ?_
      refine xV (e_mv (v := .int _ _) (q0 rfl)) rfl rfl ?_
      refine xV (e_mv (v := .int _ _) (q0 rfl)) rfl rfl ?_
      refine xV (e_eq (q0 rfl) (q0 rfl)) rfl rfl ?_
      refine xV (e_mv (v := .bool _) (q0 rfl)) rfl rfl ?_
      refine xVT (e_mv (v := .slice _ _ _) (q0 rfl)) rfl rfl rfl rfl ?_
      refine xVT (e_len Try.underlying25 (q1 rfl)) rfl rfl rfl rfl ?_
      refine xVT (e_eq (q1 rfl) (q0 rfl)) rfl rfl rfl rfl ?_
      refine xV (e_and (q0 rfl) rfl (fun h => by first | rfl | (rw [h]; rfl))) rfl rfl ?_
      refine xV (e_mv (v := .bool _) (q0 rfl)) rfl rfl ?_
      refine xVT (e_mv (v := .slice _ _ _) (q0 rfl)) rfl rfl rfl rfl ?_
      refine xVT (e_len Try.underlying31 (q1 rfl)) rfl rfl rfl rfl ?_
      refine xVT (e_eq (q1 rfl) (q0 rfl)) rfl rfl rfl rfl ?_
      refine xV (e_and (q0 rfl) rfl (fun h => by first | rfl | (rw [h]; rfl))) rfl rfl ?_
      refine xV (e_mv (v := .bool _) (q0 rfl)) rfl rfl ?_
      refine xCT (en Try.call13 (ha0)) (fun _ w _ => awake_w w) rfl rfl rfl rfl ?_
      refine xV (e_and (q0 rfl) rfl (fun h => by first | rfl | (rw [h]; rfl))) rfl rfl ?_
      refine xV (e_as (v := .bool _) (q0 rfl)) rfl rfl ?_
      refine XN ?_
      refine thenJ_normal ?_
      refine H_ret ?_
      refine thenJ_ret ?_
      exact ret1 (v := .bool _) rfl rfl rfl fun w' hw => ⟨ret_bool (by simp), hw.1⟩
    · have h2' : flErr f = 0 := by simpa using h2
      have hao : accOf f xs = (runR f accCb (setOf xs) (beginP (nbOf f), [])).2 := by unfold accOf; rw [if_pos h2']
      have hro : rejOf f xs = (runR f rejCb (setOf xs) (beginP (nbOf f), [])).2 := by unfold rejOf; rw [if_pos h2']
      obtain ⟨S, Ac, Rj_, hst, hS, hA, hRj⟩ := steps_of f (setOf xs)
      have hat := fun {n : Nat} {e : Ev} he => Steps.at f xs hst (n := n) (e := e) he
      have hlen := hst.len
      rw [hao, hro, ← hA, ← hRj]
      have hys : ∀ e ∈ setOf xs, -9223372036854775808 ≤ e.place ∧ e.place ≤ 9223372036854775807 := fun e he => hpl e ((set_isSet xs).mem e |>.1 he).1
      have hac0 := hst.a0
      have hrj0 := hst.r0
      clear hS hA hRj hst hao hro
      refine H_skip ?_
      refine thenJ_normal ?_
      refine H_seq ?_
      refine R0 ?_
      refine xV (e_mv (v := .slice _ _ _) (q0 rfl)) rfl rfl ?_
      refine xCX (en Try.call33 (ha1 (q0 rfl))) (fun w hw => set_w A n c xs w (hx.mem hw) (by omega)) rfl (fun _ => rfl) fun Y => ?_
      generalize setOf xs = ys at *
      refine xV (e_as (v := .slice _ _ _) (q0 rfl)) rfl rfl ?_
      refine XN ?_
      refine thenJ_normal ?_
      refine H_seq ?_
      refine R0 ?_
      refine xV (e_as (v := .int _ _) (q0 rfl)) rfl rfl ?_
      refine xV (e_as (v := .int _ _) (q0 rfl)) rfl rfl ?_
      refine XN ?_
      refine thenJ_normal ?_
      refine H_seq ?_
      refine H_seq ?_
      refine R0 ?_
      refine xV (e_as (v := .int _ _) (q0 rfl)) rfl rfl ?_
      refine XN ?_
      refine thenJ_normal ?_
      refine H_block ?_
      refine H_loop [4, 10, 11, 12, 13, 55, 56, 57, 58, 59, 60, 61, 62, 63, 64, 65, 66, 67, 68, 69, 70, 71, 72, 73, 74, 75, 76, 77, 78, 79, 80, 81, 82, 83, 84, 85, 86, 87, 88, 89, 90, 91, 92, 93, 94, 95, 96, 97, 98, 99, 100, 101, 102, 103, 104, 105, 106, 107, 108, 109, 110, 111, 112, 113, 114, 115, 116, 117, 118, 119, 120, 121, 122, 123] (fun q : Nat => [(12, .int .i64 q), (10, .int .i64 (Ac q).length), (11, .int .i64 (Rj_ q).length)]) (fun _ => [evRow Y.1 Y.2 ys, rjRow s2.1 s2.2 (Rj_ ys.length), evRow s1.1 s1.2 (Ac ys.length), box b2 24 (f.cells a)]) (fun q => q ≤ ys.length) (fun q => ys.length - q) 0 ⟨rfl, by show _ = Value.int .i64 (Ac 0).length; rw [hac0]; rfl, by show _ = Value.int .i64 (Rj_ 0).length; rw [hrj0]; rfl, trivial⟩ (fun w hw => hw) rfl (Nat.zero_le _) ?_
      rintro q g hq
      refine H_seq ?_
      refine H_seq ?_
      refine R0 ?_
      refine xV (e_mv (v := .int _ _) (q0 rfl)) rfl rfl ?_
      refine xV (e_mv (v := .slice _ _ _) (q0 rfl)) rfl rfl ?_
      refine xV (e_len Try.underlying25 (q0 rfl)) rfl rfl ?_
      refine xV (e_lt (q0 rfl) (q0 rfl)) rfl rfl ?_
      refine XN ?_
      refine thenJ_normal ?_
      refine H_cond rfl (fun hlt => ?_) (fun hlt => ?_)
      · have hlt' : q < ys.length := by simpa using hlt
        obtain ⟨e, he⟩ : ∃ e, ys[q]? = some e := ⟨_, List.getElem?_eq_getElem hlt'⟩
        obtain ⟨hal, hrl⟩ := hlen q hq
        refine H_know (fun w hw => rowT_at (j := 0) hw rfl (by omega)) fun ⟨yb, hyb⟩ => ?_
        obtain ⟨Y1, Y2⟩ := Y
        simp only at hyb
        subst hyb
        have hplc := hys e (List.mem_of_getElem? he)
        refine H_skip ?_
        refine thenJ_normal ?_
        refine H_seq ?_
        refine H_block ?_
        refine H_seq ?_
        refine R0 ?_
        refine xV (e_mv (v := .slice _ _ _) (q0 rfl)) rfl rfl ?_
        refine xV (e_mv (v := .int _ _) (q0 rfl)) rfl rfl ?_
        refine xV (e_idx _ Try.underlying25 Try.sizeOf67 (q0 rfl) (q0 rfl) (fun _ => ⟨rfl, by omega⟩)) rfl rfl ?_
        refine xV (eS Try.isAgg67 Try.sizeOf67 (q0 rfl)) rfl rfl ?_
        refine X_alloc Try.zeroValue67 rfl fun b13 => ?_
        refine X_st (v := .agg _) rfl rfl Try.sizeOf67 ?_
        refine XN ?_
        refine thenJ_normal ?_
        refine H_block ?_
        refine H_seq ?_
        rcases hat he with ⟨hae, hA1, hR1⟩ | ⟨hno, hA1, hrest⟩
        · have hai := (List.getElem?_eq_some_iff.1 hae).1
          refine H_know (fun w hw => rowT_at (j := 3) hw rfl (by omega)) fun ⟨sb, hsb⟩ => ?_
          obtain ⟨s11, s12⟩ := s1
          simp only at hsb
          subst hsb
          refine R1 rfl (by decide +kernel) ?_
          refine xV (e_mv (v := .int _ _) (q0 rfl)) rfl rfl ?_
          refine xV (e_mv (v := .slice _ _ _) (q0 rfl)) rfl rfl ?_
          refine xV (e_len Try.underlying25 (q0 rfl)) rfl rfl ?_
          refine xV (e_lt (q0 rfl) (q0 rfl)) rfl rfl ?_
          refine xV (e_mv (v := .bool _) (q0 rfl)) rfl rfl ?_
          refine xVT (e_mv (v := .slice _ _ _) (q0 rfl)) rfl rfl rfl rfl ?_
          refine xVT (e_mv (v := .int _ _) (q0 rfl)) rfl rfl rfl rfl ?_
          refine xVT (e_idx _ Try.underlying25 Try.sizeOf67 (q1 rfl) (q1 rfl) (fun _ => ⟨rfl, by omega⟩)) rfl rfl rfl rfl ?_
          refine xVT (eS Try.isAgg67 Try.sizeOf67 (q1 rfl)) rfl rfl rfl rfl ?_
          refine xVT (eS Try.isAgg67 Try.sizeOf67 (q0 rfl)) rfl rfl rfl rfl ?_
          refine xVT (e_eqS (fun w => sameEv_w_eq e e w) (by kernel_rfl) (q1 rfl) (q1 rfl)) rfl rfl rfl rfl ?_
          refine xV (e_and (q0 rfl) rfl (fun h => by first | rfl | (rw [h]; rfl))) rfl rfl ?_
          refine xV (e_as (v := .bool _) (q0 rfl)) rfl rfl ?_
          refine XN ?_
          refine thenJ_normal ?_
          refine H_cond rfl (fun hb => ?_) (fun hb => ?_)
          · refine R0 ?_
            refine xV (e_mv (v := .int _ _) (q0 rfl)) rfl rfl ?_
            refine xV (e_add (q0 rfl) (q0 rfl) (fun _ => ⟨rfl, by omega, by omega⟩)) rfl rfl ?_
            refine xV (e_as (v := .int _ _) (q0 rfl)) rfl rfl ?_
            refine XN ?_
            refine blockJ_normal ?_
            refine blockJ_normal ?_
            refine thenJ_normal ?_
            refine R0 ?_
            refine xV (e_mv (v := .int _ _) (q0 rfl)) rfl rfl ?_
            refine xV (e_add (q0 rfl) (q0 rfl) (fun _ => ⟨rfl, by omega, by omega⟩)) rfl rfl ?_
            refine xV (e_as (v := .int _ _) (q0 rfl)) rfl rfl ?_
            refine XN ?_
            exact loopJ_normal (q + 1) (by repeat (first | exact agree_self | exact agree_over | refine agree_upd rfl ?_ | refine agree_updL rfl ?_ | refine agree_over2 rfl ?_)) ⟨rfl, by show Value.int .i64 (((Ac q).length : Int) + 1) = Value.int .i64 ((Ac (q + 1)).length : Int); rw [hA1]; simp, by show _ = Value.int .i64 (Rj_ (q + 1)).length; rw [hR1]; rfl, trivial⟩ (fun w hw => hw.tail) rfl (by show q + 1 ≤ _; omega) (by show ys.length - (q + 1) < ys.length - q; omega)
          · simp at hb; omega
        · have _ht : True := trivial
          refine H_cut [74, 75, 76, 77, 78, 79, 80, 81, 82, 83, 84, 85, 86] (fun _ : Unit => [(74, .bool false)]) (fun _ => [box b13 67 e.cells, evRow (some ⟨yb, 0, none⟩) Y2 ys, rjRow s2.1 s2.2 (Rj_ ys.length), evRow s1.1 s1.2 (Ac ys.length), box b2 24 (f.cells a)]) (fun _ => True) ?_ ?_
          · have _ht : True := trivial
            cases hai : (Ac ys.length)[(Ac q).length]? with
            | none =>
              have hge : (Ac ys.length).length ≤ (Ac q).length := List.getElem?_eq_none_iff.1 hai
              have hgd : decide (((Ac q).length : Int) < ((Ac ys.length).length : Int)) = false := by simp; omega
              refine R1 rfl (by decide +kernel) ?_
              refine xV (e_mv (v := .int _ _) (q0 rfl)) rfl rfl ?_
              refine xV (e_mv (v := .slice _ _ _) (q0 rfl)) rfl rfl ?_
              refine xV (e_len Try.underlying25 (q0 rfl)) rfl rfl ?_
              refine xV (e_lt (q0 rfl) (q0 rfl)) rfl rfl ?_
              refine xV (e_mv (v := .bool _) (q0 rfl)) rfl rfl ?_
              refine xVT (e_dead (v := .slice none 0 0) (hgd)) rfl rfl rfl rfl ?_
              refine xVT (e_dead (v := .int .i64 0) (hgd)) rfl rfl rfl rfl ?_
              refine xVT (e_dead (v := .pointer none) (hgd)) rfl rfl rfl rfl ?_
              refine xVT (e_dead (v := .agg #[]) (hgd)) rfl rfl rfl rfl ?_
              refine xVT (e_dead (v := .agg #[]) (hgd)) rfl rfl rfl rfl ?_
              refine xVT (e_dead (v := .bool false) (hgd)) rfl rfl rfl rfl ?_
              refine xV (e_and (q0 rfl) rfl (fun h => by first | rfl | (rw [h]; rfl))) rfl rfl ?_
              refine xV (e_as (v := .bool _) (q0 rfl)) rfl rfl ?_
              refine XN ?_
              exact cutJ_normal () (by repeat (first | exact agree_self | exact agree_over | refine agree_upd rfl ?_ | refine agree_updL rfl ?_ | refine agree_over2 rfl ?_)) ⟨by show Value.bool _ = Value.bool false; rw [hgd]; rfl, trivial⟩ (fun w hw => hw) rfl trivial
            | some y =>
              have hne := hno y hai
              have hai2 := (List.getElem?_eq_some_iff.1 hai).1
              refine H_know (fun w hw => rowT_at (j := 3) hw rfl (by omega)) fun ⟨sb, hsb⟩ => ?_
              obtain ⟨s11, s12⟩ := s1
              simp only at hsb
              subst hsb
              refine R1 rfl (by decide +kernel) ?_
              refine xV (e_mv (v := .int _ _) (q0 rfl)) rfl rfl ?_
              refine xV (e_mv (v := .slice _ _ _) (q0 rfl)) rfl rfl ?_
              refine xV (e_len Try.underlying25 (q0 rfl)) rfl rfl ?_
              refine xV (e_lt (q0 rfl) (q0 rfl)) rfl rfl ?_
              refine xV (e_mv (v := .bool _) (q0 rfl)) rfl rfl ?_
              refine xVT (e_mv (v := .slice _ _ _) (q0 rfl)) rfl rfl rfl rfl ?_
              refine xVT (e_mv (v := .int _ _) (q0 rfl)) rfl rfl rfl rfl ?_
              refine xVT (e_idx _ Try.underlying25 Try.sizeOf67 (q1 rfl) (q1 rfl) (fun _ => ⟨rfl, by omega⟩)) rfl rfl rfl rfl ?_
              refine xVT (eS Try.isAgg67 Try.sizeOf67 (q1 rfl)) rfl rfl rfl rfl ?_
              refine xVT (eS Try.isAgg67 Try.sizeOf67 (q0 rfl)) rfl rfl rfl rfl ?_
              refine xVT (e_eqS (fun w => sameEv_w_eq y e w) (by kernel_rfl) (q1 rfl) (q1 rfl)) rfl rfl rfl rfl ?_
              refine xV (e_and (q0 rfl) rfl (fun h => by first | rfl | (rw [h]; rfl))) rfl rfl ?_
              refine xV (e_as (v := .bool _) (q0 rfl)) rfl rfl ?_
              refine XN ?_
              exact cutJ_normal () (by repeat (first | exact agree_self | exact agree_over | refine agree_upd rfl ?_ | refine agree_updL rfl ?_ | refine agree_over2 rfl ?_)) ⟨by show Value.bool (_ && decide (y = e)) = Value.bool false; rw [decide_eq_false hne, Bool.and_false], trivial⟩ (fun w hw => hw) rfl trivial
          · intro _ g2 _
            refine thenJ_normal ?_
            refine H_cond rfl (fun hb => ?_) (fun hb => ?_)
            · cases hb
            · refine H_seq ?_
              rcases hrest with ⟨er, her, hre, hR1⟩ | ⟨hnr, hR1, hk10, hev⟩
              · have hri := (List.getElem?_eq_some_iff.1 hre).1
                refine H_know (fun w hw => rowT_at (j := 2) hw rfl (by omega)) fun ⟨sb, hsb⟩ => ?_
                obtain ⟨s21, s22⟩ := s2
                simp only at hsb
                subst hsb
                refine R1 rfl (by decide +kernel) ?_
                refine xV (e_mv (v := .int _ _) (q0 rfl)) rfl rfl ?_
                refine xV (e_mv (v := .slice _ _ _) (q0 rfl)) rfl rfl ?_
                refine xV (e_len Try.underlying31 (q0 rfl)) rfl rfl ?_
                refine xV (e_lt (q0 rfl) (q0 rfl)) rfl rfl ?_
                refine xV (e_mv (v := .bool _) (q0 rfl)) rfl rfl ?_
                refine xVT (e_mv (v := .slice _ _ _) (q0 rfl)) rfl rfl rfl rfl ?_
                refine xVT (e_mv (v := .int _ _) (q0 rfl)) rfl rfl rfl rfl ?_
                refine xVT (e_idx _ Try.underlying31 Try.sizeOf69 (q1 rfl) (q1 rfl) (fun _ => ⟨rfl, by omega⟩)) rfl rfl rfl rfl ?_
                refine xVT (e_fld Try.underlying69 rfl Try.sizeOf3 rfl (q1 rfl)) rfl rfl rfl rfl ?_
                refine xVT (eL Try.isAgg3 (q1 rfl)) rfl rfl rfl rfl ?_
                refine xVT (e_fld Try.underlying67 rfl Try.sizeOf3 rfl (q0 rfl)) rfl rfl rfl rfl ?_
                refine xVT (eL Try.isAgg3 (q1 rfl)) rfl rfl rfl rfl ?_
                refine xVT (e_eq (q1 rfl) (q1 rfl)) rfl rfl rfl rfl ?_
                refine xV (e_and (q0 rfl) rfl (fun h => by first | rfl | (rw [h]; rfl))) rfl rfl ?_
                refine xV (e_mv (v := .bool _) (q0 rfl)) rfl rfl ?_
                refine xVT (e_mv (v := .slice _ _ _) (q0 rfl)) rfl rfl rfl rfl ?_
                refine xVT (e_mv (v := .int _ _) (q0 rfl)) rfl rfl rfl rfl ?_
                refine xVT (e_idx _ Try.underlying31 Try.sizeOf69 (q1 rfl) (q1 rfl) (fun _ => ⟨rfl, by omega⟩)) rfl rfl rfl rfl ?_
                refine xVT (e_fld Try.underlying69 rfl Try.sizeOf3 rfl (q1 rfl)) rfl rfl rfl rfl ?_
                refine xVT (eL Try.isAgg3 (q1 rfl)) rfl rfl rfl rfl ?_
                refine xVT (e_fld Try.underlying67 rfl Try.sizeOf3 rfl (q0 rfl)) rfl rfl rfl rfl ?_
                refine xVT (eL Try.isAgg3 (q1 rfl)) rfl rfl rfl rfl ?_
                refine xVT (e_eq (q1 rfl) (q1 rfl)) rfl rfl rfl rfl ?_
                refine xV (e_and (q0 rfl) rfl (fun h => by first | rfl | (rw [h]; rfl))) rfl rfl ?_
                refine xV (e_mv (v := .bool _) (q0 rfl)) rfl rfl ?_
                refine xVT (e_mv (v := .slice _ _ _) (q0 rfl)) rfl rfl rfl rfl ?_
                refine xVT (e_mv (v := .int _ _) (q0 rfl)) rfl rfl rfl rfl ?_
                refine xVT (e_idx _ Try.underlying31 Try.sizeOf69 (q1 rfl) (q1 rfl) (fun _ => ⟨rfl, by omega⟩)) rfl rfl rfl rfl ?_
                refine xVT (e_fld Try.underlying69 rfl Try.sizeOf28 rfl (q1 rfl)) rfl rfl rfl rfl ?_
                refine xVT (eL Try.isAgg28 (q1 rfl)) rfl rfl rfl rfl ?_
                refine xVT (e_ne (q1 rfl) (q0 rfl)) rfl rfl rfl rfl ?_
                refine xV (e_and (q0 rfl) rfl (fun h => by first | rfl | (rw [h]; rfl))) rfl rfl ?_
                refine xV (e_as (v := .bool _) (q0 rfl)) rfl rfl ?_
                refine XN ?_
                refine thenJ_normal ?_
                refine H_cond rfl (fun hb2 => ?_) (fun hb2 => ?_)
                · refine R0 ?_
                  refine xV (e_mv (v := .int _ _) (q0 rfl)) rfl rfl ?_
                  refine xV (e_add (q0 rfl) (q0 rfl) (fun _ => ⟨rfl, by omega, by omega⟩)) rfl rfl ?_
                  refine xV (e_as (v := .int _ _) (q0 rfl)) rfl rfl ?_
                  refine XN ?_
                  refine blockJ_normal ?_
                  refine blockJ_normal ?_
                  refine thenJ_normal ?_
                  refine R0 ?_
                  refine xV (e_mv (v := .int _ _) (q0 rfl)) rfl rfl ?_
                  refine xV (e_add (q0 rfl) (q0 rfl) (fun _ => ⟨rfl, by omega, by omega⟩)) rfl rfl ?_
                  refine xV (e_as (v := .int _ _) (q0 rfl)) rfl rfl ?_
                  refine XN ?_
                  exact loopJ_normal (q + 1) (by repeat (first | exact agree_self | exact agree_over | refine agree_upd rfl ?_ | refine agree_updL rfl ?_ | refine agree_over2 rfl ?_)) ⟨rfl, by show _ = Value.int .i64 (Ac (q + 1)).length; rw [hA1]; rfl, by show Value.int .i64 (((Rj_ q).length : Int) + 1) = Value.int .i64 ((Rj_ (q + 1)).length : Int); rw [hR1]; simp, trivial⟩ (fun w hw => hw.tail) rfl (by show q + 1 ≤ _; omega) (by show ys.length - (q + 1) < ys.length - q; omega)
                · simp [her] at hb2; omega
              · have _ht : True := trivial
                refine H_cut [89, 90, 91, 92, 93, 94, 95, 96, 97, 98, 99, 100, 101, 102, 103, 104, 105, 106, 107, 108, 109, 110, 111, 112, 113, 114, 115, 116, 117, 118, 119, 120, 121] (fun _ : Unit => [(89, .bool false)]) (fun _ => [box b13 67 e.cells, evRow (some ⟨yb, 0, none⟩) Y2 ys, rjRow s2.1 s2.2 (Rj_ ys.length), evRow s1.1 s1.2 (Ac ys.length), box b2 24 (f.cells a)]) (fun _ => True) ?_ ?_
                · have _ht : True := trivial
                  cases hri : (Rj_ ys.length)[(Rj_ q).length]? with
                  | none =>
                    have hge : (Rj_ ys.length).length ≤ (Rj_ q).length := List.getElem?_eq_none_iff.1 hri
                    have hgd : decide (((Rj_ q).length : Int) < ((Rj_ ys.length).length : Int)) = false := by simp; omega
                    refine R1 rfl (by decide +kernel) ?_
                    refine xV (e_mv (v := .int _ _) (q0 rfl)) rfl rfl ?_
                    refine xV (e_mv (v := .slice _ _ _) (q0 rfl)) rfl rfl ?_
                    refine xV (e_len Try.underlying31 (q0 rfl)) rfl rfl ?_
                    refine xV (e_lt (q0 rfl) (q0 rfl)) rfl rfl ?_
                    refine xV (e_mv (v := .bool _) (q0 rfl)) rfl rfl ?_
                    refine xVT (e_dead (v := .slice none 0 0) (hgd)) rfl rfl rfl rfl ?_
                    refine xVT (e_dead (v := .int .i64 0) (hgd)) rfl rfl rfl rfl ?_
                    refine xVT (e_dead (v := .pointer none) (hgd)) rfl rfl rfl rfl ?_
                    refine xVT (e_dead (v := .pointer none) (hgd)) rfl rfl rfl rfl ?_
                    refine xVT (e_dead (v := .int .i64 0) (hgd)) rfl rfl rfl rfl ?_
                    refine xVT (e_dead (v := .pointer none) (hgd)) rfl rfl rfl rfl ?_
                    refine xVT (e_dead (v := .int .i64 0) (hgd)) rfl rfl rfl rfl ?_
                    refine xVT (e_dead (v := .bool false) (hgd)) rfl rfl rfl rfl ?_
                    refine xV (e_and (q0 rfl) rfl (fun h => by first | rfl | (rw [h]; rfl))) rfl rfl ?_
                    refine xV (e_mv (v := .bool _) (q0 rfl)) rfl rfl ?_
                    refine xVT (e_dead (v := .slice none 0 0) (by simp [hgd])) rfl rfl rfl rfl ?_
                    refine xVT (e_dead (v := .int .i64 0) (by simp [hgd])) rfl rfl rfl rfl ?_
                    refine xVT (e_dead (v := .pointer none) (by simp [hgd])) rfl rfl rfl rfl ?_
                    refine xVT (e_dead (v := .pointer none) (by simp [hgd])) rfl rfl rfl rfl ?_
                    refine xVT (e_dead (v := .int .i64 0) (by simp [hgd])) rfl rfl rfl rfl ?_
                    refine xVT (e_dead (v := .pointer none) (by simp [hgd])) rfl rfl rfl rfl ?_
                    refine xVT (e_dead (v := .int .i64 0) (by simp [hgd])) rfl rfl rfl rfl ?_
                    refine xVT (e_dead (v := .bool false) (by simp [hgd])) rfl rfl rfl rfl ?_
                    refine xV (e_and (q0 rfl) rfl (fun h => by first | rfl | (rw [h]; rfl))) rfl rfl ?_
                    refine xV (e_mv (v := .bool _) (q0 rfl)) rfl rfl ?_
                    refine xVT (e_dead (v := .slice none 0 0) (by simp [hgd])) rfl rfl rfl rfl ?_
                    refine xVT (e_dead (v := .int .i64 0) (by simp [hgd])) rfl rfl rfl rfl ?_
                    refine xVT (e_dead (v := .pointer none) (by simp [hgd])) rfl rfl rfl rfl ?_
                    refine xVT (e_dead (v := .pointer none) (by simp [hgd])) rfl rfl rfl rfl ?_
                    refine xVT (e_dead (v := .int .i64 0) (by simp [hgd])) rfl rfl rfl rfl ?_
                    refine xVT (e_dead (v := .bool false) (by simp [hgd])) rfl rfl rfl rfl ?_
                    refine xV (e_and (q0 rfl) rfl (fun h => by first | rfl | (rw [h]; rfl))) rfl rfl ?_
                    refine xV (e_as (v := .bool _) (q0 rfl)) rfl rfl ?_
                    refine XN ?_
                    exact cutJ_normal () (by repeat (first | exact agree_self | exact agree_over | refine agree_upd rfl ?_ | refine agree_updL rfl ?_ | refine agree_over2 rfl ?_)) ⟨by show Value.bool (_ && _) = Value.bool false; rw [hgd]; rfl, trivial⟩ (fun w hw => hw) rfl trivial
                  | some r =>
                    have hne := hnr r hri
                    have hri2 := (List.getElem?_eq_some_iff.1 hri).1
                    refine H_know (fun w hw => rowT_at (j := 2) hw rfl (by omega)) fun ⟨sb, hsb⟩ => ?_
                    obtain ⟨s21, s22⟩ := s2
                    simp only at hsb
                    subst hsb
                    refine R1 rfl (by decide +kernel) ?_
                    refine xV (e_mv (v := .int _ _) (q0 rfl)) rfl rfl ?_
                    refine xV (e_mv (v := .slice _ _ _) (q0 rfl)) rfl rfl ?_
                    refine xV (e_len Try.underlying31 (q0 rfl)) rfl rfl ?_
                    refine xV (e_lt (q0 rfl) (q0 rfl)) rfl rfl ?_
                    refine xV (e_mv (v := .bool _) (q0 rfl)) rfl rfl ?_
                    refine xVT (e_mv (v := .slice _ _ _) (q0 rfl)) rfl rfl rfl rfl ?_
                    refine xVT (e_mv (v := .int _ _) (q0 rfl)) rfl rfl rfl rfl ?_
                    refine xVT (e_idx _ Try.underlying31 Try.sizeOf69 (q1 rfl) (q1 rfl) (fun _ => ⟨rfl, by omega⟩)) rfl rfl rfl rfl ?_
                    refine xVT (e_fld Try.underlying69 rfl Try.sizeOf3 rfl (q1 rfl)) rfl rfl rfl rfl ?_
                    refine xVT (eL Try.isAgg3 (q1 rfl)) rfl rfl rfl rfl ?_
                    refine xVT (e_fld Try.underlying67 rfl Try.sizeOf3 rfl (q0 rfl)) rfl rfl rfl rfl ?_
                    refine xVT (eL Try.isAgg3 (q1 rfl)) rfl rfl rfl rfl ?_
                    refine xVT (e_eq (q1 rfl) (q1 rfl)) rfl rfl rfl rfl ?_
                    refine xV (e_and (q0 rfl) rfl (fun h => by first | rfl | (rw [h]; rfl))) rfl rfl ?_
                    refine xV (e_mv (v := .bool _) (q0 rfl)) rfl rfl ?_
                    refine xVT (e_mv (v := .slice _ _ _) (q0 rfl)) rfl rfl rfl rfl ?_
                    refine xVT (e_mv (v := .int _ _) (q0 rfl)) rfl rfl rfl rfl ?_
                    refine xVT (e_idx _ Try.underlying31 Try.sizeOf69 (q1 rfl) (q1 rfl) (fun _ => ⟨rfl, by omega⟩)) rfl rfl rfl rfl ?_
                    refine xVT (e_fld Try.underlying69 rfl Try.sizeOf3 rfl (q1 rfl)) rfl rfl rfl rfl ?_
                    refine xVT (eL Try.isAgg3 (q1 rfl)) rfl rfl rfl rfl ?_
                    refine xVT (e_fld Try.underlying67 rfl Try.sizeOf3 rfl (q0 rfl)) rfl rfl rfl rfl ?_
                    refine xVT (eL Try.isAgg3 (q1 rfl)) rfl rfl rfl rfl ?_
                    refine xVT (e_eq (q1 rfl) (q1 rfl)) rfl rfl rfl rfl ?_
                    refine xV (e_and (q0 rfl) rfl (fun h => by first | rfl | (rw [h]; rfl))) rfl rfl ?_
                    refine xV (e_mv (v := .bool _) (q0 rfl)) rfl rfl ?_
                    refine xVT (e_mv (v := .slice _ _ _) (q0 rfl)) rfl rfl rfl rfl ?_
                    refine xVT (e_mv (v := .int _ _) (q0 rfl)) rfl rfl rfl rfl ?_
                    refine xVT (e_idx _ Try.underlying31 Try.sizeOf69 (q1 rfl) (q1 rfl) (fun _ => ⟨rfl, by omega⟩)) rfl rfl rfl rfl ?_
                    refine xVT (e_fld Try.underlying69 rfl Try.sizeOf28 rfl (q1 rfl)) rfl rfl rfl rfl ?_
                    refine xVT (eL Try.isAgg28 (q1 rfl)) rfl rfl rfl rfl ?_
                    refine xVT (e_ne (q1 rfl) (q0 rfl)) rfl rfl rfl rfl ?_
                    refine xV (e_and (q0 rfl) rfl (fun h => by first | rfl | (rw [h]; rfl))) rfl rfl ?_
                    refine xV (e_as (v := .bool _) (q0 rfl)) rfl rfl ?_
                    refine XN ?_
                    exact cutJ_normal () (by repeat (first | exact agree_self | exact agree_over | refine agree_upd rfl ?_ | refine agree_updL rfl ?_ | refine agree_over2 rfl ?_)) ⟨by show Value.bool (((_ && decide (r.device = e.device)) && decide (r.seq = e.seq)) && _) = Value.bool false; rw [Bool.and_assoc (decide _) (decide _) (decide _), ← Bool.decide_and, decide_eq_false hne]; simp, trivial⟩ (fun w hw => hw) rfl trivial
                · intro _ g3 _
                  refine thenJ_normal ?_
                  refine H_cond rfl (fun hb3 => ?_) (fun hb3 => ?_)
                  · cases hb3
                  · refine H_seq ?_
                    refine R0 ?_
                    refine xV (e_fld Try.underlying67 rfl Try.sizeOf3 rfl (q0 rfl)) rfl rfl ?_
                    refine xV (eL Try.isAgg3 (q0 rfl)) rfl rfl ?_
                    refine xV (e_ne (q0 rfl) (q0 rfl)) rfl rfl ?_
                    refine xV (e_mv (v := .bool _) (q0 rfl)) rfl rfl ?_
                    refine xVF (eS Try.isAgg24 Try.sizeOf24 (q0 rfl)) rfl rfl rfl rfl ?_
                    refine xVF (eS Try.isAgg67 Try.sizeOf67 (q0 rfl)) rfl rfl rfl rfl ?_
                    refine xCF (en Try.call34 (ha2 (q1 (v := .agg _) rfl) (q1 (v := .agg _) rfl))) (fun _ w hm => check_w f a e w (hf.mem hm) hplc) rfl rfl rfl rfl ?_
                    refine xVF (e_ne (q1 rfl) (q0 rfl)) rfl rfl rfl rfl ?_
                    refine xV (e_or (q0 rfl) rfl (fun h => by first | rfl | (rw [h]; rfl))) rfl rfl ?_
                    refine XN ?_
                    refine thenJ_normal ?_
                    refine H_cond rfl (fun hb4 => ?_) (fun hb4 => ?_)
                    · simp [hk10, hev] at hb4
                    · refine H_skip ?_
                      refine blockJ_normal ?_
                      refine blockJ_normal ?_
                      refine thenJ_normal ?_
                      refine R0 ?_
                      refine xV (e_mv (v := .int _ _) (q0 rfl)) rfl rfl ?_
                      refine xV (e_add (q0 rfl) (q0 rfl) (fun _ => ⟨rfl, by omega, by omega⟩)) rfl rfl ?_
                      refine xV (e_as (v := .int _ _) (q0 rfl)) rfl rfl ?_
                      refine XN ?_
                      exact loopJ_normal (q + 1) (by repeat (first | exact agree_self | exact agree_over | refine agree_upd rfl ?_ | refine agree_updL rfl ?_ | refine agree_over2 rfl ?_)) ⟨rfl, by show _ = Value.int .i64 (Ac (q + 1)).length; rw [hA1]; rfl, by show _ = Value.int .i64 (Rj_ (q + 1)).length; rw [hR1]; rfl, trivial⟩ (fun w hw => hw.tail) rfl (by show q + 1 ≤ _; omega) (by show ys.length - (q + 1) < ys.length - q; omega)
      · have hend : q = ys.length := by simp at hlt; omega
        subst hend
        refine H_exit ?_
        refine thenJ_exit ?_
        refine loopJ_exit ?_
        refine blockJ_hit ?_
        refine thenJ_normal ?_
        refine H_seq ?_
        refine R0 ?_
        refine xV (e_mv (v := .int _ _) (q0 rfl)) rfl rfl ?_
        refine xV (e_mv (v := .slice _ _ _) (q0 rfl)) rfl rfl ?_
        refine xV (e_len Try.underlying25 (q0 rfl)) rfl rfl ?_
        refine xV (e_eq (q0 rfl) (q0 rfl)) rfl rfl ?_
        refine xV (e_mv (v := .bool _) (q0 rfl)) rfl rfl ?_
        refine xVT (e_mv (v := .int _ _) (q0 rfl)) rfl rfl rfl rfl ?_
        refine xVT (e_mv (v := .slice _ _ _) (q0 rfl)) rfl rfl rfl rfl ?_
        refine xVT (e_len Try.underlying31 (q1 rfl)) rfl rfl rfl rfl ?_
        refine xVT (e_eq (q1 rfl) (q1 rfl)) rfl rfl rfl rfl ?_
        refine xV (e_and (q0 rfl) rfl (fun h => by first | rfl | (rw [h]; rfl))) rfl rfl ?_
        refine xV (e_mv (v := .bool _) (q0 rfl)) rfl rfl ?_
        refine xCT (en Try.call13 (ha0)) (fun _ w _ => awake_w w) rfl rfl rfl rfl ?_
        refine xV (e_and (q0 rfl) rfl (fun h => by first | rfl | (rw [h]; rfl))) rfl rfl ?_
        refine xV (e_as (v := .bool _) (q0 rfl)) rfl rfl ?_
        refine XN ?_
        refine thenJ_normal ?_
        refine H_ret ?_
        exact ret1 (v := .bool _) rfl rfl rfl fun w' hw => ⟨ret_bool (by simp), hw.1⟩

end Go.Proofs.Cus

/-
  The arguments' readings.
-/
namespace Go.Proofs.Cus
open Go Go.RowKit Go.Proofs.E Go.ChangeShapes Go.WideShapes Go.ChangeAt

theorem own : ownKnob Try.prog.godebug = none := by kernel_rfl
theorem laidOut : laidOutB Try.prog = true := by kernel_rfl
theorem cellsInt : Try.prog.cellsOf 3 = 1 := by kernel_rfl
theorem cellsInts : Try.prog.cellsOf 22 = 1 := by kernel_rfl
theorem cellsEv : Try.prog.cellsOf 67 = 9 := by kernel_rfl
theorem cellsPair : Try.prog.cellsOf 36 = 2 := by kernel_rfl
theorem cellsFl : Try.prog.cellsOf 24 = 5 := by kernel_rfl
section
variable {H : Type} {enc : TypeId × Value → H} {W : World} {sp : Nat → Bool} {held : Bool} {base : Nat} {v : Value} {d : DataW H} {ps : List MemPlace}
set_option maxRecDepth 100000 in
theorem rd_ints {fuel : Nat} {cs : List Value} {x : DataW H × List MemPlace} (h : DataW.trod enc Try.prog W 0 sp held fuel 22 cs = some x) : ∃ A n c xs, cs = [.slice A n c] ∧ IntsAt W A n xs := by
  obtain ⟨A, n, c, xs, rfl, hs, _, _, hx⟩ := rd_rows Try.underlying22 cellsInt (by decide) h
  obtain ⟨ys, hy, _⟩ := hs.recode (enc := encInt) (Q := fun _ => True) fun x hx' => by
    obtain ⟨_, f, y, ht⟩ := hx x hx'
    obtain ⟨m, rfl, _⟩ := rd_int Try.underlying3 ht
    exact ⟨m, rfl, trivial⟩
  exact ⟨A, n, c, ys, rfl, hy⟩
set_option maxRecDepth 100000 in
theorem rd_ev {fuel : Nat} {cs : List Value} {x : DataW H × List MemPlace} (hl : cs.length = 9) (h : DataW.trod enc Try.prog W 0 sp held fuel 67 cs = some x) : ∃ e : Ev, e.cells = cs ∧ (-9223372036854775808 ≤ e.place ∧ e.place ≤ 9223372036854775807) := by
  match cs, hl with
  | [c0, c1, c2, c3, c4, c5, c6, c7, c8], _ =>
    obtain ⟨_, _, h0⟩ := rd_field Try.underlying67 h 0 rfl cellsInt
    obtain ⟨_, _, h1⟩ := rd_field Try.underlying67 h 1 rfl cellsInt
    obtain ⟨_, _, h2⟩ := rd_field Try.underlying67 h 2 rfl cellsInt
    obtain ⟨_, _, h3⟩ := rd_field Try.underlying67 h 3 rfl cellsInt
    obtain ⟨_, _, h4⟩ := rd_field Try.underlying67 h 4 rfl cellsInt
    obtain ⟨_, _, h5⟩ := rd_field Try.underlying67 h 5 rfl cellsInt
    obtain ⟨_, _, h6⟩ := rd_field Try.underlying67 h 6 rfl cellsInt
    obtain ⟨_, _, h7⟩ := rd_field Try.underlying67 h 7 rfl cellsInt
    obtain ⟨_, _, h8⟩ := rd_field Try.underlying67 h 8 rfl cellsInt
    obtain ⟨m0, e0, _⟩ := rd_int Try.underlying3 h0
    obtain ⟨m1, e1, _⟩ := rd_int Try.underlying3 h1
    obtain ⟨m2, e2, _⟩ := rd_int Try.underlying3 h2
    obtain ⟨m3, e3, _⟩ := rd_int Try.underlying3 h3
    obtain ⟨m4, e4, _⟩ := rd_int Try.underlying3 h4
    obtain ⟨m5, e5, _⟩ := rd_int Try.underlying3 h5
    obtain ⟨m6, e6, w6⟩ := rd_int Try.underlying3 h6
    obtain ⟨m7, e7, _⟩ := rd_int Try.underlying3 h7
    obtain ⟨m8, e8, _⟩ := rd_int Try.underlying3 h8
    simp at e0 e1 e2 e3 e4 e5 e6 e7 e8
    subst e0 e1 e2 e3 e4 e5 e6 e7 e8
    exact ⟨⟨m0, m1, m2, m3, m4, m5, m6, m7, m8⟩, rfl, wf64 w6⟩
set_option maxRecDepth 100000 in
theorem open_evs (hv : Value.okWide Try.prog W .any base 25 v) (h : DataW.Trod enc Try.prog W 0 sp held 25 v d ps) : ∃ A n c xs, v = .slice A n c ∧ EvsAt W A n xs ∧ PlOk xs := by
  obtain ⟨a, l, c, rfl⟩ := okWide_slice Try.underlying25 hv
  obtain ⟨_, hf⟩ := h
  obtain ⟨A, n, c', xs, e, hs, _, _, hx⟩ := rd_rows Try.underlying25 cellsEv (by decide) hf
  obtain ⟨ys, hy, hq⟩ := hs.recode (enc := Ev.cells) (Q := fun e => -9223372036854775808 ≤ e.place ∧ e.place ≤ 9223372036854775807) fun x hx' => by
    obtain ⟨hl, f, y, ht⟩ := hx x hx'
    exact rd_ev hl ht
  simp [Value.cells] at e
  obtain ⟨rfl, rfl, rfl⟩ := e
  exact ⟨_, _, _, ys, rfl, hy, hq⟩
set_option maxRecDepth 100000 in
theorem open_fleet (hv : Value.okWide Try.prog W .any base 24 v) (h : DataW.Trod enc Try.prog W 0 sp held 24 v d ps) : ∃ (f : Fl) (a : FA), v = .agg (f.cells a).toArray ∧ FlAt W f a := by
  obtain ⟨cs, rfl, hsz⟩ := okWide_struct Try.underlying24 hv
  rw [cellsFl] at hsz
  obtain ⟨l⟩ := cs
  match l, hsz with
  | [c0, c1, c2, c3, c4], _ =>
    obtain ⟨_, hf⟩ := h
    obtain ⟨_, _, h0⟩ := rd_field Try.underlying24 hf 0 rfl cellsInt
    obtain ⟨_, _, h1⟩ := rd_field Try.underlying24 hf 1 rfl cellsInt
    obtain ⟨_, _, h2⟩ := rd_field Try.underlying24 hf 2 rfl cellsInt
    obtain ⟨_, _, h3⟩ := rd_field Try.underlying24 hf 3 rfl cellsInts
    obtain ⟨_, _, h4⟩ := rd_field Try.underlying24 hf 4 rfl cellsInts
    obtain ⟨m0, e0, _⟩ := rd_int Try.underlying3 h0
    obtain ⟨m1, e1, _⟩ := rd_int Try.underlying3 h1
    obtain ⟨m2, e2, _⟩ := rd_int Try.underlying3 h2
    obtain ⟨A3, n3, c3', x3, e3, hx3⟩ := rd_ints h3
    obtain ⟨A4, n4, c4', x4, e4, hx4⟩ := rd_ints h4
    simp [Value.cells] at e0 e1 e2 e3 e4
    subst e0 e1 e2 e3 e4
    exact ⟨⟨m0, m1, m2, x3, x4⟩, ⟨A3, n3, c3', A4, n4, c4'⟩, rfl, hx3, hx4⟩
set_option maxRecDepth 100000 in
theorem open_int (hv : Value.okWide Try.prog W .any base 3 v) (h : DataW.Trod enc Try.prog W 0 sp held 3 v d ps) : ∃ m, v = .int .i64 m ∧ -9223372036854775808 ≤ m ∧ m ≤ 9223372036854775807 := by
  obtain ⟨n, rfl⟩ := okWide_int Try.underlying3 hv
  obtain ⟨_, hf⟩ := h
  obtain ⟨m, e, hw⟩ := rd_int Try.underlying3 hf
  simp [Value.cells] at e
  subst e
  exact ⟨n, rfl, wf64 hw⟩
set_option maxRecDepth 100000 in
theorem open_u8 (hv : Value.okWide Try.prog W .any base 5 v) (h : DataW.Trod enc Try.prog W 0 sp held 5 v d ps) : ∃ m, v = .int .u8 m ∧ 0 ≤ m ∧ m ≤ 255 := by
  obtain ⟨n, rfl⟩ := okWide_int Try.underlying5 hv
  obtain ⟨_, hf⟩ := h
  obtain ⟨m, e, hw⟩ := rd_int Try.underlying5 hf
  simp [Value.cells] at e
  subst e
  simp [Lit.wf, IntKind.min, IntKind.max, IntKind.signed, IntKind.bits] at hw
  exact ⟨n, rfl, by omega, by omega⟩
set_option maxRecDepth 100000 in
theorem open_pair (hv : Value.okWide Try.prog W .any base 36 v) (h : DataW.Trod enc Try.prog W 0 sp held 36 v d ps) : ∃ m0 m1, v = .agg #[.int .i64 m0, .int .i64 m1] ∧ (-9223372036854775808 ≤ m0 ∧ m0 ≤ 9223372036854775807) ∧ (-9223372036854775808 ≤ m1 ∧ m1 ≤ 9223372036854775807) := by
  obtain ⟨cs, rfl, hsz⟩ : ∃ cs, v = .agg cs ∧ cs.size = Try.prog.cellsOf 36 := by
    simp only [Value.okWide, Try.underlying36] at hv
    obtain ⟨cs, h1, h2, _⟩ := hv
    exact ⟨cs, h1, h2⟩
  rw [cellsPair] at hsz
  obtain ⟨l⟩ := cs
  match l, hsz with
  | [c0, c1], _ =>
    obtain ⟨_, hf⟩ := h
    obtain ⟨ys, m, _, _, _, hyl, hg⟩ := DataW.trod_array Try.underlying36 hf
    have h0 := hg 0 (by decide)
    have h1 := hg 1 (by decide)
    rw [cellsInt, List.getElem?_eq_getElem (by omega)] at h0 h1
    obtain ⟨m0, e0, w0⟩ := rd_int Try.underlying3 h0
    obtain ⟨m1, e1, w1⟩ := rd_int Try.underlying3 h1
    simp [Value.cells] at e0 e1
    subst e0 e1
    exact ⟨m0, m1, rfl, wf64 w0, wf64 w1⟩
end
def zFleet : Value := .agg #[.int .i64 0, .int .i64 0, .int .i64 0, .slice none 0 0, .slice none 0 0]

end Go.Proofs.Cus
