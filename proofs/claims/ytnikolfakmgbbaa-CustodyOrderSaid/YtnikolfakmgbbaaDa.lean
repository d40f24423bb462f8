/-
  The walks: the reference's comparisons of lists. (Printed by a program.)
-/
import Derived.Test.YtnikolfakmgbbaaCr
import Derived.Test.YtnikolfakmgbbaaEw
namespace Go.Proofs.Cus
open Go Go.RowKit Go.Proofs.E

deriving instance DecidableEq for Ev
deriving instance Inhabited for Ev

theorem sameEv_w_eq (x y : Ev) (w : World) : (Op.equal 67 (.agg (Ev.cells x).toArray) (.agg (Ev.cells y).toArray)).run Try.prog w = .ok (decide (x = y)) w := by
  have h : (Op.equalIn 10000 67 (.agg (Ev.cells x).toArray) (.agg (Ev.cells y).toArray)).run Try.prog w = .ok ((x.device == y.device && (x.seq == y.seq && (x.at_ == y.at_ && (x.late == y.late && (x.kind == y.kind && (x.bike == y.bike && (x.place == y.place && (x.rider == y.rider && (x.ride == y.ride && true)))))))))) w :=
    eqS_of w Try.underlying67 (by kernel_rfl) (eqF_cons w (by decide) (run_part_one w Try.isAgg3 rfl) (run_part_one w Try.isAgg3 rfl) (run_equalIn_int w _ _ .i64 .i64 _ _ Try.underlying3) (eqF_cons w (by decide) (run_part_one w Try.isAgg3 rfl) (run_part_one w Try.isAgg3 rfl) (run_equalIn_int w _ _ .i64 .i64 _ _ Try.underlying3) (eqF_cons w (by decide) (run_part_one w Try.isAgg3 rfl) (run_part_one w Try.isAgg3 rfl) (run_equalIn_int w _ _ .i64 .i64 _ _ Try.underlying3) (eqF_cons w (by decide) (run_part_one w Try.isAgg3 rfl) (run_part_one w Try.isAgg3 rfl) (run_equalIn_int w _ _ .i64 .i64 _ _ Try.underlying3) (eqF_cons w (by decide) (run_part_one w Try.isAgg3 rfl) (run_part_one w Try.isAgg3 rfl) (run_equalIn_int w _ _ .i64 .i64 _ _ Try.underlying3) (eqF_cons w (by decide) (run_part_one w Try.isAgg3 rfl) (run_part_one w Try.isAgg3 rfl) (run_equalIn_int w _ _ .i64 .i64 _ _ Try.underlying3) (eqF_cons w (by decide) (run_part_one w Try.isAgg3 rfl) (run_part_one w Try.isAgg3 rfl) (run_equalIn_int w _ _ .i64 .i64 _ _ Try.underlying3) (eqF_cons w (by decide) (run_part_one w Try.isAgg3 rfl) (run_part_one w Try.isAgg3 rfl) (run_equalIn_int w _ _ .i64 .i64 _ _ Try.underlying3) (eqF_cons w (by decide) (run_part_one w Try.isAgg3 rfl) (run_part_one w Try.isAgg3 rfl) (run_equalIn_int w _ _ .i64 .i64 _ _ Try.underlying3) (eqF_nil w))))))))))
  have e : ((x.device == y.device && (x.seq == y.seq && (x.at_ == y.at_ && (x.late == y.late && (x.kind == y.kind && (x.bike == y.bike && (x.place == y.place && (x.rider == y.rider && (x.ride == y.ride && true)))))))))) = decide (x = y) := by
    rw [Bool.eq_iff_iff]
    cases x; cases y
    simp
  rw [← e]; exact h
theorem sameEv_w (A B : Option Addr) (n m c d : Nat) (xs ys : List Ev) (w : World) (hx : SlAt w 9 Ev.cells A n xs) (hy : SlAt w 9 Ev.cells B m ys) :
    Calls Try.prog 18 #[.slice A n c, .slice B m d] w fun e w' => e = .returned (.bool (decide (xs = ys))) ∧ Bel w w' := by
  have hl := hx.1
  have hn := hx.2.1
  have hl2 := hy.1
  refine H_enter Try.func18 rfl Try.ntmps18 rfl ?_
  refine H_seq ?_
  refine R0 ?_
  refine xV (e_as (v := .bool _) (q0 rfl)) rfl rfl ?_
  refine XN ?_
  refine thenJ_normal ?_
  refine H_seq ?_
  refine H_seq ?_
  refine R0 ?_
  refine xV (e_mv (v := .slice _ _ _) (q0 rfl)) rfl rfl ?_
  refine xV (e_len Try.underlying25 (q0 rfl)) rfl rfl ?_
  refine xV (e_mv (v := .slice _ _ _) (q0 rfl)) rfl rfl ?_
  refine xV (e_len Try.underlying25 (q0 rfl)) rfl rfl ?_
  refine xV (e_ne (q0 rfl) (q0 rfl)) rfl rfl ?_
  refine XN ?_
  refine thenJ_normal ?_
  refine H_cond rfl (fun h1 => ?_) (fun h1 => ?_)
  · refine H_seq ?_
    refine R0 ?_
    refine xV (e_as (v := .bool _) (q0 rfl)) rfl rfl ?_
    refine XN ?_
    refine thenJ_normal ?_
    refine H_ret ?_
    refine thenJ_ret ?_
    exact ret1 (v := .bool _) rfl rfl rfl fun w' hw => ⟨ret_bool (by
      rw [eq_comm, decide_eq_false_iff_not]
      intro e
      rw [e] at hl
      simp at h1
      omega), hw.1⟩
  · have hnm : n = m := by simp at h1; omega
    subst hnm
    refine H_skip ?_
    refine thenJ_normal ?_
    refine H_seq ?_
    refine H_seq ?_
    refine R0 ?_
    refine xV (e_as (v := .int _ _) (q0 rfl)) rfl rfl ?_
    refine XN ?_
    refine thenJ_normal ?_
    refine H_block ?_
    refine H_loop [4, 5, 11, 12, 13, 14, 15, 16, 17, 18, 19, 20, 21, 22, 23, 24, 25] (fun k : Nat => [(5, .int .i64 k)]) (fun _ => []) (fun k => k ≤ n ∧ xs.take k = ys.take k) (fun k => n - k) 0 ⟨rfl, trivial⟩ (fun _ h => h) rfl ⟨Nat.zero_le _, rfl⟩ ?_
    rintro k g ⟨hk, hall⟩
    refine H_seq ?_
    refine H_seq ?_
    refine R0 ?_
    refine xV (e_mv (v := .int _ _) (q0 rfl)) rfl rfl ?_
    refine xV (e_mv (v := .slice _ _ _) (q0 rfl)) rfl rfl ?_
    refine xV (e_len Try.underlying25 (q0 rfl)) rfl rfl ?_
    refine xV (e_lt (q0 rfl) (q0 rfl)) rfl rfl ?_
    refine XN ?_
    refine thenJ_normal ?_
    refine H_cond rfl (fun hlt => ?_) (fun hlt => ?_)
    · simp at hlt
      obtain ⟨b, off, x, rfl, hbl, hxk, hrx⟩ := hx.at_ hlt
      obtain ⟨b2, off2, y, rfl, hbl2, hyk, hry⟩ := hy.at_ hlt
      refine H_skip ?_
      refine thenJ_normal ?_
      refine H_seq ?_
      refine H_block ?_
      refine H_seq ?_
      refine R1 rfl (by decide +kernel) ?_
      refine xV (e_mv (v := .slice _ _ _) (q0 rfl)) rfl rfl ?_
      refine xV (e_mv (v := .int _ _) (q0 rfl)) rfl rfl ?_
      refine xV (e_idx _ Try.underlying25 Try.sizeOf67 (q0 rfl) (q0 rfl) (fun _ => ⟨rfl, by omega⟩)) rfl rfl ?_
      refine xV (e_lds Try.isAgg67 Try.sizeOf67 (q0 rfl) (by first | exact bxs 0 rfl | exact bxs 1 rfl | exact bxs 2 rfl | exact bxs 3 rfl | exact bxs 4 rfl | exact bxs 5 rfl | exact bxs 6 rfl | exact bxs 7 rfl | exact bxs 8 rfl | exact bxs 9 rfl | exact rcs ‹_› ‹_› | exact rrs 0 rfl ‹_› | exact rrs 1 rfl ‹_› | exact rrs 2 rfl ‹_› | exact rrs 3 rfl ‹_› | exact rrs 4 rfl ‹_› | exact rrs 5 rfl ‹_› | exact rrs 6 rfl ‹_› | exact rrs 7 rfl ‹_›) rfl) rfl rfl ?_
      refine xV (e_mv (v := .slice _ _ _) (q0 rfl)) rfl rfl ?_
      refine xV (e_mv (v := .int _ _) (q0 rfl)) rfl rfl ?_
      refine xV (e_idx _ Try.underlying25 Try.sizeOf67 (q0 rfl) (q0 rfl) (fun _ => ⟨rfl, by omega⟩)) rfl rfl ?_
      refine xV (e_lds Try.isAgg67 Try.sizeOf67 (q0 rfl) (by first | exact bxs 0 rfl | exact bxs 1 rfl | exact bxs 2 rfl | exact bxs 3 rfl | exact bxs 4 rfl | exact bxs 5 rfl | exact bxs 6 rfl | exact bxs 7 rfl | exact bxs 8 rfl | exact bxs 9 rfl | exact rcs ‹_› ‹_› | exact rrs 0 rfl ‹_› | exact rrs 1 rfl ‹_› | exact rrs 2 rfl ‹_› | exact rrs 3 rfl ‹_› | exact rrs 4 rfl ‹_› | exact rrs 5 rfl ‹_› | exact rrs 6 rfl ‹_› | exact rrs 7 rfl ‹_›) rfl) rfl rfl ?_
      refine xV (e_neS (fun w => sameEv_w_eq x y w) (by kernel_rfl) (q0 rfl) (q0 rfl)) rfl rfl ?_
      refine XN ?_
      refine thenJ_normal ?_
      refine H_cond rfl (fun hb => ?_) (fun hb => ?_)
      · refine H_seq ?_
        refine R0 ?_
        refine xV (e_as (v := .bool _) (q0 rfl)) rfl rfl ?_
        refine XN ?_
        refine thenJ_normal ?_
        refine H_ret ?_
        refine blockJ_ret ?_
        refine thenJ_ret ?_
        refine loopJ_ret ?_
        refine blockJ_ret ?_
        refine thenJ_ret ?_
        exact ret1 (v := .bool _) rfl rfl rfl fun w' hw => ⟨ret_bool (by
          rw [eq_comm, decide_eq_false_iff_not]
          intro e
          rw [e, hyk] at hxk
          cases hxk
          simp at hb), hw.1⟩
      · have hxy : x = y := by simpa using hb
        refine H_skip ?_
        refine blockJ_normal ?_
        refine thenJ_normal ?_
        refine R0 ?_
        refine xV (e_mv (v := .int _ _) (q0 rfl)) rfl rfl ?_
        refine xV (e_add (q0 rfl) (q0 rfl) (fun _ => ⟨rfl, by omega, by omega⟩)) rfl rfl ?_
        refine xV (e_as (v := .int _ _) (q0 rfl)) rfl rfl ?_
        refine XN ?_
        exact loopJ_normal (k + 1) (by repeat (first | exact agree_self | exact agree_over | refine agree_upd rfl ?_ | refine agree_updL rfl ?_ | refine agree_over2 rfl ?_)) ⟨rfl, trivial⟩ (fun w hw => mem_nil.2 hw.1) rfl ⟨by omega, by rw [take_snoc _ _ _ hxk, take_snoc _ _ _ hyk, hall, hxy]⟩ (by show n - (k + 1) < n - k; omega)
    · obtain rfl : k = n := by simp at hlt; omega
      refine H_exit ?_
      refine thenJ_exit ?_
      refine loopJ_exit ?_
      refine blockJ_hit ?_
      refine thenJ_normal ?_
      refine H_seq ?_
      refine R0 ?_
      refine xV (e_as (v := .bool _) (q0 rfl)) rfl rfl ?_
      refine XN ?_
      refine thenJ_normal ?_
      refine H_ret ?_
      exact ret1 (v := .bool _) rfl rfl rfl fun w' hw => ⟨ret_bool (by
        rw [eq_comm, decide_eq_true_eq]
        rw [List.take_of_length_le (by omega), List.take_of_length_le (by omega)] at hall
        exact hall), hw.1⟩

theorem sameRj_w_eq (x y : Rj) (w : World) : (Op.equal 69 (.agg (Rj.cells x).toArray) (.agg (Rj.cells y).toArray)).run Try.prog w = .ok (decide (x = y)) w := by
  have h : (Op.equalIn 10000 69 (.agg (Rj.cells x).toArray) (.agg (Rj.cells y).toArray)).run Try.prog w = .ok ((x.device == y.device && (x.seq == y.seq && (x.err == y.err && true)))) w :=
    eqS_of w Try.underlying69 (by kernel_rfl) (eqF_cons w (by decide) (run_part_one w Try.isAgg3 rfl) (run_part_one w Try.isAgg3 rfl) (run_equalIn_int w _ _ .i64 .i64 _ _ Try.underlying3) (eqF_cons w (by decide) (run_part_one w Try.isAgg3 rfl) (run_part_one w Try.isAgg3 rfl) (run_equalIn_int w _ _ .i64 .i64 _ _ Try.underlying3) (eqF_cons w (by decide) (run_part_one w Try.isAgg28 rfl) (run_part_one w Try.isAgg28 rfl) (run_equalIn_int w _ _ .i64 .i64 _ _ Try.underlying28) (eqF_nil w))))
  have e : ((x.device == y.device && (x.seq == y.seq && (x.err == y.err && true)))) = decide (x = y) := by
    rw [Bool.eq_iff_iff]
    cases x; cases y
    simp
  rw [← e]; exact h
theorem sameRj_w (A B : Option Addr) (n m c d : Nat) (xs ys : List Rj) (w : World) (hx : SlAt w 3 Rj.cells A n xs) (hy : SlAt w 3 Rj.cells B m ys) :
    Calls Try.prog 19 #[.slice A n c, .slice B m d] w fun e w' => e = .returned (.bool (decide (xs = ys))) ∧ Bel w w' := by
  have hl := hx.1
  have hn := hx.2.1
  have hl2 := hy.1
  refine H_enter Try.func19 rfl Try.ntmps19 rfl ?_
  refine H_seq ?_
  refine R0 ?_
  refine xV (e_as (v := .bool _) (q0 rfl)) rfl rfl ?_
  refine XN ?_
  refine thenJ_normal ?_
  refine H_seq ?_
  refine H_seq ?_
  refine R0 ?_
  refine xV (e_mv (v := .slice _ _ _) (q0 rfl)) rfl rfl ?_
  refine xV (e_len Try.underlying31 (q0 rfl)) rfl rfl ?_
  refine xV (e_mv (v := .slice _ _ _) (q0 rfl)) rfl rfl ?_
  refine xV (e_len Try.underlying31 (q0 rfl)) rfl rfl ?_
  refine xV (e_ne (q0 rfl) (q0 rfl)) rfl rfl ?_
  refine XN ?_
  refine thenJ_normal ?_
  refine H_cond rfl (fun h1 => ?_) (fun h1 => ?_)
  · refine H_seq ?_
    refine R0 ?_
    refine xV (e_as (v := .bool _) (q0 rfl)) rfl rfl ?_
    refine XN ?_
    refine thenJ_normal ?_
    refine H_ret ?_
    refine thenJ_ret ?_
    exact ret1 (v := .bool _) rfl rfl rfl fun w' hw => ⟨ret_bool (by
      rw [eq_comm, decide_eq_false_iff_not]
      intro e
      rw [e] at hl
      simp at h1
      omega), hw.1⟩
  · have hnm : n = m := by simp at h1; omega
    subst hnm
    refine H_skip ?_
    refine thenJ_normal ?_
    refine H_seq ?_
    refine H_seq ?_
    refine R0 ?_
    refine xV (e_as (v := .int _ _) (q0 rfl)) rfl rfl ?_
    refine XN ?_
    refine thenJ_normal ?_
    refine H_block ?_
    refine H_loop [4, 5, 11, 12, 13, 14, 15, 16, 17, 18, 19, 20, 21, 22, 23, 24, 25] (fun k : Nat => [(5, .int .i64 k)]) (fun _ => []) (fun k => k ≤ n ∧ xs.take k = ys.take k) (fun k => n - k) 0 ⟨rfl, trivial⟩ (fun _ h => h) rfl ⟨Nat.zero_le _, rfl⟩ ?_
    rintro k g ⟨hk, hall⟩
    refine H_seq ?_
    refine H_seq ?_
    refine R0 ?_
    refine xV (e_mv (v := .int _ _) (q0 rfl)) rfl rfl ?_
    refine xV (e_mv (v := .slice _ _ _) (q0 rfl)) rfl rfl ?_
    refine xV (e_len Try.underlying31 (q0 rfl)) rfl rfl ?_
    refine xV (e_lt (q0 rfl) (q0 rfl)) rfl rfl ?_
    refine XN ?_
    refine thenJ_normal ?_
    refine H_cond rfl (fun hlt => ?_) (fun hlt => ?_)
    · simp at hlt
      obtain ⟨b, off, x, rfl, hbl, hxk, hrx⟩ := hx.at_ hlt
      obtain ⟨b2, off2, y, rfl, hbl2, hyk, hry⟩ := hy.at_ hlt
      refine H_skip ?_
      refine thenJ_normal ?_
      refine H_seq ?_
      refine H_block ?_
      refine H_seq ?_
      refine R1 rfl (by decide +kernel) ?_
      refine xV (e_mv (v := .slice _ _ _) (q0 rfl)) rfl rfl ?_
      refine xV (e_mv (v := .int _ _) (q0 rfl)) rfl rfl ?_
      refine xV (e_idx _ Try.underlying31 Try.sizeOf69 (q0 rfl) (q0 rfl) (fun _ => ⟨rfl, by omega⟩)) rfl rfl ?_
      refine xV (e_lds Try.isAgg69 Try.sizeOf69 (q0 rfl) (by first | exact bxs 0 rfl | exact bxs 1 rfl | exact bxs 2 rfl | exact bxs 3 rfl | exact bxs 4 rfl | exact bxs 5 rfl | exact bxs 6 rfl | exact bxs 7 rfl | exact bxs 8 rfl | exact bxs 9 rfl | exact rcs ‹_› ‹_› | exact rrs 0 rfl ‹_› | exact rrs 1 rfl ‹_› | exact rrs 2 rfl ‹_› | exact rrs 3 rfl ‹_› | exact rrs 4 rfl ‹_› | exact rrs 5 rfl ‹_› | exact rrs 6 rfl ‹_› | exact rrs 7 rfl ‹_›) rfl) rfl rfl ?_
      refine xV (e_mv (v := .slice _ _ _) (q0 rfl)) rfl rfl ?_
      refine xV (e_mv (v := .int _ _) (q0 rfl)) rfl rfl ?_
      refine xV (e_idx _ Try.underlying31 Try.sizeOf69 (q0 rfl) (q0 rfl) (fun _ => ⟨rfl, by omega⟩)) rfl rfl ?_
      refine xV (e_lds Try.isAgg69 Try.sizeOf69 (q0 rfl) (by first | exact bxs 0 rfl | exact bxs 1 rfl | exact bxs 2 rfl | exact bxs 3 rfl | exact bxs 4 rfl | exact bxs 5 rfl | exact bxs 6 rfl | exact bxs 7 rfl | exact bxs 8 rfl | exact bxs 9 rfl | exact rcs ‹_› ‹_› | exact rrs 0 rfl ‹_› | exact rrs 1 rfl ‹_› | exact rrs 2 rfl ‹_› | exact rrs 3 rfl ‹_› | exact rrs 4 rfl ‹_› | exact rrs 5 rfl ‹_› | exact rrs 6 rfl ‹_› | exact rrs 7 rfl ‹_›) rfl) rfl rfl ?_
      refine xV (e_neS (fun w => sameRj_w_eq x y w) (by kernel_rfl) (q0 rfl) (q0 rfl)) rfl rfl ?_
      refine XN ?_
      refine thenJ_normal ?_
      refine H_cond rfl (fun hb => ?_) (fun hb => ?_)
      · refine H_seq ?_
        refine R0 ?_
        refine xV (e_as (v := .bool _) (q0 rfl)) rfl rfl ?_
        refine XN ?_
        refine thenJ_normal ?_
        refine H_ret ?_
        refine blockJ_ret ?_
        refine thenJ_ret ?_
        refine loopJ_ret ?_
        refine blockJ_ret ?_
        refine thenJ_ret ?_
        exact ret1 (v := .bool _) rfl rfl rfl fun w' hw => ⟨ret_bool (by
          rw [eq_comm, decide_eq_false_iff_not]
          intro e
          rw [e, hyk] at hxk
          cases hxk
          simp at hb), hw.1⟩
      · have hxy : x = y := by simpa using hb
        refine H_skip ?_
        refine blockJ_normal ?_
        refine thenJ_normal ?_
        refine R0 ?_
        refine xV (e_mv (v := .int _ _) (q0 rfl)) rfl rfl ?_
        refine xV (e_add (q0 rfl) (q0 rfl) (fun _ => ⟨rfl, by omega, by omega⟩)) rfl rfl ?_
        refine xV (e_as (v := .int _ _) (q0 rfl)) rfl rfl ?_
        refine XN ?_
        exact loopJ_normal (k + 1) (by repeat (first | exact agree_self | exact agree_over | refine agree_upd rfl ?_ | refine agree_updL rfl ?_ | refine agree_over2 rfl ?_)) ⟨rfl, trivial⟩ (fun w hw => mem_nil.2 hw.1) rfl ⟨by omega, by rw [take_snoc _ _ _ hxk, take_snoc _ _ _ hyk, hall, hxy]⟩ (by show n - (k + 1) < n - k; omega)
    · obtain rfl : k = n := by simp at hlt; omega
      refine H_exit ?_
      refine thenJ_exit ?_
      refine loopJ_exit ?_
      refine blockJ_hit ?_
      refine thenJ_normal ?_
      refine H_seq ?_
      refine R0 ?_
      refine xV (e_as (v := .bool _) (q0 rfl)) rfl rfl ?_
      refine XN ?_
      refine thenJ_normal ?_
      refine H_ret ?_
      exact ret1 (v := .bool _) rfl rfl rfl fun w' hw => ⟨ret_bool (by
        rw [eq_comm, decide_eq_true_eq]
        rw [List.take_of_length_le (by omega), List.take_of_length_le (by omega)] at hall
        exact hall), hw.1⟩

theorem sameSp_w_eq (x y : Sp) (w : World) : (Op.equal 41 (.agg (Sp.cells x).toArray) (.agg (Sp.cells y).toArray)).run Try.prog w = .ok (decide (x = y)) w := by
  have h : (Op.equalIn 10000 41 (.agg (Sp.cells x).toArray) (.agg (Sp.cells y).toArray)).run Try.prog w = .ok ((x.where_ == y.where_ && (x.place == y.place && (x.ride == y.ride && (x.paused == y.paused && true))))) w :=
    eqS_of w Try.underlying41 (by kernel_rfl) (eqF_cons w (by decide) (run_part_one w Try.isAgg3 rfl) (run_part_one w Try.isAgg3 rfl) (run_equalIn_int w _ _ .i64 .i64 _ _ Try.underlying3) (eqF_cons w (by decide) (run_part_one w Try.isAgg3 rfl) (run_part_one w Try.isAgg3 rfl) (run_equalIn_int w _ _ .i64 .i64 _ _ Try.underlying3) (eqF_cons w (by decide) (run_part_one w Try.isAgg3 rfl) (run_part_one w Try.isAgg3 rfl) (run_equalIn_int w _ _ .i64 .i64 _ _ Try.underlying3) (eqF_cons w (by decide) (run_part_one w Try.isAgg4 rfl) (run_part_one w Try.isAgg4 rfl) (run_equalIn_bool' w _ _ _ _ Try.underlying4) (eqF_nil w)))))
  have e : ((x.where_ == y.where_ && (x.place == y.place && (x.ride == y.ride && (x.paused == y.paused && true))))) = decide (x = y) := by
    rw [Bool.eq_iff_iff]
    cases x; cases y
    simp
  rw [← e]; exact h
theorem sameSp_w (A B : Option Addr) (n m c d : Nat) (xs ys : List Sp) (w : World) (hx : SlAt w 4 Sp.cells A n xs) (hy : SlAt w 4 Sp.cells B m ys) :
    Calls Try.prog 24 #[.slice A n c, .slice B m d] w fun e w' => e = .returned (.bool (decide (xs = ys))) ∧ Bel w w' := by
  have hl := hx.1
  have hn := hx.2.1
  have hl2 := hy.1
  refine H_enter Try.func24 rfl Try.ntmps24 rfl ?_
  refine H_seq ?_
  refine R0 ?_
  refine xV (e_as (v := .bool _) (q0 rfl)) rfl rfl ?_
  refine XN ?_
  refine thenJ_normal ?_
  refine H_seq ?_
  refine H_seq ?_
  refine R0 ?_
  refine xV (e_mv (v := .slice _ _ _) (q0 rfl)) rfl rfl ?_
  refine xV (e_len Try.underlying37 (q0 rfl)) rfl rfl ?_
  refine xV (e_mv (v := .slice _ _ _) (q0 rfl)) rfl rfl ?_
  refine xV (e_len Try.underlying37 (q0 rfl)) rfl rfl ?_
  refine xV (e_ne (q0 rfl) (q0 rfl)) rfl rfl ?_
  refine XN ?_
  refine thenJ_normal ?_
  refine H_cond rfl (fun h1 => ?_) (fun h1 => ?_)
  · refine H_seq ?_
    refine R0 ?_
    refine xV (e_as (v := .bool _) (q0 rfl)) rfl rfl ?_
    refine XN ?_
    refine thenJ_normal ?_
    refine H_ret ?_
    refine thenJ_ret ?_
    exact ret1 (v := .bool _) rfl rfl rfl fun w' hw => ⟨ret_bool (by
      rw [eq_comm, decide_eq_false_iff_not]
      intro e
      rw [e] at hl
      simp at h1
      omega), hw.1⟩
  · have hnm : n = m := by simp at h1; omega
    subst hnm
    refine H_skip ?_
    refine thenJ_normal ?_
    refine H_seq ?_
    refine H_seq ?_
    refine R0 ?_
    refine xV (e_as (v := .int _ _) (q0 rfl)) rfl rfl ?_
    refine XN ?_
    refine thenJ_normal ?_
    refine H_block ?_
    refine H_loop [4, 5, 11, 12, 13, 14, 15, 16, 17, 18, 19, 20, 21, 22, 23, 24, 25] (fun k : Nat => [(5, .int .i64 k)]) (fun _ => []) (fun k => k ≤ n ∧ xs.take k = ys.take k) (fun k => n - k) 0 ⟨rfl, trivial⟩ (fun _ h => h) rfl ⟨Nat.zero_le _, rfl⟩ ?_
    rintro k g ⟨hk, hall⟩
    refine H_seq ?_
    refine H_seq ?_
    refine R0 ?_
    refine xV (e_mv (v := .int _ _) (q0 rfl)) rfl rfl ?_
    refine xV (e_mv (v := .slice _ _ _) (q0 rfl)) rfl rfl ?_
    refine xV (e_len Try.underlying37 (q0 rfl)) rfl rfl ?_
    refine xV (e_lt (q0 rfl) (q0 rfl)) rfl rfl ?_
    refine XN ?_
    refine thenJ_normal ?_
    refine H_cond rfl (fun hlt => ?_) (fun hlt => ?_)
    · simp at hlt
      obtain ⟨b, off, x, rfl, hbl, hxk, hrx⟩ := hx.at_ hlt
      obtain ⟨b2, off2, y, rfl, hbl2, hyk, hry⟩ := hy.at_ hlt
      refine H_skip ?_
      refine thenJ_normal ?_
      refine H_seq ?_
      refine H_block ?_
      refine H_seq ?_
      refine R1 rfl (by decide +kernel) ?_
      refine xV (e_mv (v := .slice _ _ _) (q0 rfl)) rfl rfl ?_
      refine xV (e_mv (v := .int _ _) (q0 rfl)) rfl rfl ?_
      refine xV (e_idx _ Try.underlying37 Try.sizeOf41 (q0 rfl) (q0 rfl) (fun _ => ⟨rfl, by omega⟩)) rfl rfl ?_
      refine xV (e_lds Try.isAgg41 Try.sizeOf41 (q0 rfl) (by first | exact bxs 0 rfl | exact bxs 1 rfl | exact bxs 2 rfl | exact bxs 3 rfl | exact bxs 4 rfl | exact bxs 5 rfl | exact bxs 6 rfl | exact bxs 7 rfl | exact bxs 8 rfl | exact bxs 9 rfl | exact rcs ‹_› ‹_› | exact rrs 0 rfl ‹_› | exact rrs 1 rfl ‹_› | exact rrs 2 rfl ‹_› | exact rrs 3 rfl ‹_› | exact rrs 4 rfl ‹_› | exact rrs 5 rfl ‹_› | exact rrs 6 rfl ‹_› | exact rrs 7 rfl ‹_›) rfl) rfl rfl ?_
      refine xV (e_mv (v := .slice _ _ _) (q0 rfl)) rfl rfl ?_
      refine xV (e_mv (v := .int _ _) (q0 rfl)) rfl rfl ?_
      refine xV (e_idx _ Try.underlying37 Try.sizeOf41 (q0 rfl) (q0 rfl) (fun _ => ⟨rfl, by omega⟩)) rfl rfl ?_
      refine xV (e_lds Try.isAgg41 Try.sizeOf41 (q0 rfl) (by first | exact bxs 0 rfl | exact bxs 1 rfl | exact bxs 2 rfl | exact bxs 3 rfl | exact bxs 4 rfl | exact bxs 5 rfl | exact bxs 6 rfl | exact bxs 7 rfl | exact bxs 8 rfl | exact bxs 9 rfl | exact rcs ‹_› ‹_› | exact rrs 0 rfl ‹_› | exact rrs 1 rfl ‹_› | exact rrs 2 rfl ‹_› | exact rrs 3 rfl ‹_› | exact rrs 4 rfl ‹_› | exact rrs 5 rfl ‹_› | exact rrs 6 rfl ‹_› | exact rrs 7 rfl ‹_›) rfl) rfl rfl ?_
      refine xV (e_neS (fun w => sameSp_w_eq x y w) (by kernel_rfl) (q0 rfl) (q0 rfl)) rfl rfl ?_
      refine XN ?_
      refine thenJ_normal ?_
      refine H_cond rfl (fun hb => ?_) (fun hb => ?_)
      · refine H_seq ?_
        refine R0 ?_
        refine xV (e_as (v := .bool _) (q0 rfl)) rfl rfl ?_
        refine XN ?_
        refine thenJ_normal ?_
        refine H_ret ?_
        refine blockJ_ret ?_
        refine thenJ_ret ?_
        refine loopJ_ret ?_
        refine blockJ_ret ?_
        refine thenJ_ret ?_
        exact ret1 (v := .bool _) rfl rfl rfl fun w' hw => ⟨ret_bool (by
          rw [eq_comm, decide_eq_false_iff_not]
          intro e
          rw [e, hyk] at hxk
          cases hxk
          simp at hb), hw.1⟩
      · have hxy : x = y := by simpa using hb
        refine H_skip ?_
        refine blockJ_normal ?_
        refine thenJ_normal ?_
        refine R0 ?_
        refine xV (e_mv (v := .int _ _) (q0 rfl)) rfl rfl ?_
        refine xV (e_add (q0 rfl) (q0 rfl) (fun _ => ⟨rfl, by omega, by omega⟩)) rfl rfl ?_
        refine xV (e_as (v := .int _ _) (q0 rfl)) rfl rfl ?_
        refine XN ?_
        exact loopJ_normal (k + 1) (by repeat (first | exact agree_self | exact agree_over | refine agree_upd rfl ?_ | refine agree_updL rfl ?_ | refine agree_over2 rfl ?_)) ⟨rfl, trivial⟩ (fun w hw => mem_nil.2 hw.1) rfl ⟨by omega, by rw [take_snoc _ _ _ hxk, take_snoc _ _ _ hyk, hall, hxy]⟩ (by show n - (k + 1) < n - k; omega)
    · obtain rfl : k = n := by simp at hlt; omega
      refine H_exit ?_
      refine thenJ_exit ?_
      refine loopJ_exit ?_
      refine blockJ_hit ?_
      refine thenJ_normal ?_
      refine H_seq ?_
      refine R0 ?_
      refine xV (e_as (v := .bool _) (q0 rfl)) rfl rfl ?_
      refine XN ?_
      refine thenJ_normal ?_
      refine H_ret ?_
      exact ret1 (v := .bool _) rfl rfl rfl fun w' hw => ⟨ret_bool (by
        rw [eq_comm, decide_eq_true_eq]
        rw [List.take_of_length_le (by omega), List.take_of_length_le (by omega)] at hall
        exact hall), hw.1⟩

theorem sameSty_w_eq (x y : Sty) (w : World) : (Op.equal 57 (.agg (Sty.cells x).toArray) (.agg (Sty.cells y).toArray)).run Try.prog w = .ok (decide (x = y)) w := by
  have h : (Op.equalIn 10000 57 (.agg (Sty.cells x).toArray) (.agg (Sty.cells y).toArray)).run Try.prog w = .ok ((x.bike == y.bike && (x.where_ == y.where_ && (x.place == y.place && (x.ride == y.ride && ((x.from_ == y.from_ && (x.to_ == y.to_ && true)) && true)))))) w :=
    eqS_of w Try.underlying57 (by kernel_rfl) (eqF_cons w (by decide) (run_part_one w Try.isAgg3 rfl) (run_part_one w Try.isAgg3 rfl) (run_equalIn_int w _ _ .i64 .i64 _ _ Try.underlying3) (eqF_cons w (by decide) (run_part_one w Try.isAgg3 rfl) (run_part_one w Try.isAgg3 rfl) (run_equalIn_int w _ _ .i64 .i64 _ _ Try.underlying3) (eqF_cons w (by decide) (run_part_one w Try.isAgg3 rfl) (run_part_one w Try.isAgg3 rfl) (run_equalIn_int w _ _ .i64 .i64 _ _ Try.underlying3) (eqF_cons w (by decide) (run_part_one w Try.isAgg3 rfl) (run_part_one w Try.isAgg3 rfl) (run_equalIn_int w _ _ .i64 .i64 _ _ Try.underlying3) (eqF_cons w (by decide) (run_part_agg w Try.isAgg55 Try.sizeOf55 rfl) (run_part_agg w Try.isAgg55 Try.sizeOf55 rfl) (eqS_of w Try.underlying55 (by kernel_rfl) (eqF_cons w (by decide) (run_part_one w Try.isAgg3 rfl) (run_part_one w Try.isAgg3 rfl) (run_equalIn_int w _ _ .i64 .i64 _ _ Try.underlying3) (eqF_cons w (by decide) (run_part_one w Try.isAgg3 rfl) (run_part_one w Try.isAgg3 rfl) (run_equalIn_int w _ _ .i64 .i64 _ _ Try.underlying3) (eqF_nil w)))) (eqF_nil w))))))
  have e : ((x.bike == y.bike && (x.where_ == y.where_ && (x.place == y.place && (x.ride == y.ride && ((x.from_ == y.from_ && (x.to_ == y.to_ && true)) && true)))))) = decide (x = y) := by
    rw [Bool.eq_iff_iff]
    cases x; cases y
    simp
  rw [← e]; exact h
theorem sameSty_w (A B : Option Addr) (n m c d : Nat) (xs ys : List Sty) (w : World) (hx : SlAt w 6 Sty.cells A n xs) (hy : SlAt w 6 Sty.cells B m ys) :
    Calls Try.prog 29 #[.slice A n c, .slice B m d] w fun e w' => e = .returned (.bool (decide (xs = ys))) ∧ Bel w w' := by
  have hl := hx.1
  have hn := hx.2.1
  have hl2 := hy.1
  refine H_enter Try.func29 rfl Try.ntmps29 rfl ?_
  refine H_seq ?_
  refine R0 ?_
  refine xV (e_as (v := .bool _) (q0 rfl)) rfl rfl ?_
  refine XN ?_
  refine thenJ_normal ?_
  refine H_seq ?_
  refine H_seq ?_
  refine R0 ?_
  refine xV (e_mv (v := .slice _ _ _) (q0 rfl)) rfl rfl ?_
  refine xV (e_len Try.underlying46 (q0 rfl)) rfl rfl ?_
  refine xV (e_mv (v := .slice _ _ _) (q0 rfl)) rfl rfl ?_
  refine xV (e_len Try.underlying46 (q0 rfl)) rfl rfl ?_
  refine xV (e_ne (q0 rfl) (q0 rfl)) rfl rfl ?_
  refine XN ?_
  refine thenJ_normal ?_
  refine H_cond rfl (fun h1 => ?_) (fun h1 => ?_)
  · refine H_seq ?_
    refine R0 ?_
    refine xV (e_as (v := .bool _) (q0 rfl)) rfl rfl ?_
    refine XN ?_
    refine thenJ_normal ?_
    refine H_ret ?_
    refine thenJ_ret ?_
    exact ret1 (v := .bool _) rfl rfl rfl fun w' hw => ⟨ret_bool (by
      rw [eq_comm, decide_eq_false_iff_not]
      intro e
      rw [e] at hl
      simp at h1
      omega), hw.1⟩
  · have hnm : n = m := by simp at h1; omega
    subst hnm
    refine H_skip ?_
    refine thenJ_normal ?_
    refine H_seq ?_
    refine H_seq ?_
    refine R0 ?_
    refine xV (e_as (v := .int _ _) (q0 rfl)) rfl rfl ?_
    refine XN ?_
    refine thenJ_normal ?_
    refine H_block ?_
    refine H_loop [4, 5, 11, 12, 13, 14, 15, 16, 17, 18, 19, 20, 21, 22, 23, 24, 25] (fun k : Nat => [(5, .int .i64 k)]) (fun _ => []) (fun k => k ≤ n ∧ xs.take k = ys.take k) (fun k => n - k) 0 ⟨rfl, trivial⟩ (fun _ h => h) rfl ⟨Nat.zero_le _, rfl⟩ ?_
    rintro k g ⟨hk, hall⟩
    refine H_seq ?_
    refine H_seq ?_
    refine R0 ?_
    refine xV (e_mv (v := .int _ _) (q0 rfl)) rfl rfl ?_
    refine xV (e_mv (v := .slice _ _ _) (q0 rfl)) rfl rfl ?_
    refine xV (e_len Try.underlying46 (q0 rfl)) rfl rfl ?_
    refine xV (e_lt (q0 rfl) (q0 rfl)) rfl rfl ?_
    refine XN ?_
    refine thenJ_normal ?_
    refine H_cond rfl (fun hlt => ?_) (fun hlt => ?_)
    · simp at hlt
      obtain ⟨b, off, x, rfl, hbl, hxk, hrx⟩ := hx.at_ hlt
      obtain ⟨b2, off2, y, rfl, hbl2, hyk, hry⟩ := hy.at_ hlt
      refine H_skip ?_
      refine thenJ_normal ?_
      refine H_seq ?_
      refine H_block ?_
      refine H_seq ?_
      refine R1 rfl (by decide +kernel) ?_
      refine xV (e_mv (v := .slice _ _ _) (q0 rfl)) rfl rfl ?_
      refine xV (e_mv (v := .int _ _) (q0 rfl)) rfl rfl ?_
      refine xV (e_idx _ Try.underlying46 Try.sizeOf57 (q0 rfl) (q0 rfl) (fun _ => ⟨rfl, by omega⟩)) rfl rfl ?_
      refine xV (e_lds Try.isAgg57 Try.sizeOf57 (q0 rfl) (by first | exact bxs 0 rfl | exact bxs 1 rfl | exact bxs 2 rfl | exact bxs 3 rfl | exact bxs 4 rfl | exact bxs 5 rfl | exact bxs 6 rfl | exact bxs 7 rfl | exact bxs 8 rfl | exact bxs 9 rfl | exact rcs ‹_› ‹_› | exact rrs 0 rfl ‹_› | exact rrs 1 rfl ‹_› | exact rrs 2 rfl ‹_› | exact rrs 3 rfl ‹_› | exact rrs 4 rfl ‹_› | exact rrs 5 rfl ‹_› | exact rrs 6 rfl ‹_› | exact rrs 7 rfl ‹_›) rfl) rfl rfl ?_
      refine xV (e_mv (v := .slice _ _ _) (q0 rfl)) rfl rfl ?_
      refine xV (e_mv (v := .int _ _) (q0 rfl)) rfl rfl ?_
      refine xV (e_idx _ Try.underlying46 Try.sizeOf57 (q0 rfl) (q0 rfl) (fun _ => ⟨rfl, by omega⟩)) rfl rfl ?_
      refine xV (e_lds Try.isAgg57 Try.sizeOf57 (q0 rfl) (by first | exact bxs 0 rfl | exact bxs 1 rfl | exact bxs 2 rfl | exact bxs 3 rfl | exact bxs 4 rfl | exact bxs 5 rfl | exact bxs 6 rfl | exact bxs 7 rfl | exact bxs 8 rfl | exact bxs 9 rfl | exact rcs ‹_› ‹_› | exact rrs 0 rfl ‹_› | exact rrs 1 rfl ‹_› | exact rrs 2 rfl ‹_› | exact rrs 3 rfl ‹_› | exact rrs 4 rfl ‹_› | exact rrs 5 rfl ‹_› | exact rrs 6 rfl ‹_› | exact rrs 7 rfl ‹_›) rfl) rfl rfl ?_
      refine xV (e_neS (fun w => sameSty_w_eq x y w) (by kernel_rfl) (q0 rfl) (q0 rfl)) rfl rfl ?_
      refine XN ?_
      refine thenJ_normal ?_
      refine H_cond rfl (fun hb => ?_) (fun hb => ?_)
      · refine H_seq ?_
        refine R0 ?_
        refine xV (e_as (v := .bool _) (q0 rfl)) rfl rfl ?_
        refine XN ?_
        refine thenJ_normal ?_
        refine H_ret ?_
        refine blockJ_ret ?_
        refine thenJ_ret ?_
        refine loopJ_ret ?_
        refine blockJ_ret ?_
        refine thenJ_ret ?_
        exact ret1 (v := .bool _) rfl rfl rfl fun w' hw => ⟨ret_bool (by
          rw [eq_comm, decide_eq_false_iff_not]
          intro e
          rw [e, hyk] at hxk
          cases hxk
          simp at hb), hw.1⟩
      · have hxy : x = y := by simpa using hb
        refine H_skip ?_
        refine blockJ_normal ?_
        refine thenJ_normal ?_
        refine R0 ?_
        refine xV (e_mv (v := .int _ _) (q0 rfl)) rfl rfl ?_
        refine xV (e_add (q0 rfl) (q0 rfl) (fun _ => ⟨rfl, by omega, by omega⟩)) rfl rfl ?_
        refine xV (e_as (v := .int _ _) (q0 rfl)) rfl rfl ?_
        refine XN ?_
        exact loopJ_normal (k + 1) (by repeat (first | exact agree_self | exact agree_over | refine agree_upd rfl ?_ | refine agree_updL rfl ?_ | refine agree_over2 rfl ?_)) ⟨rfl, trivial⟩ (fun w hw => mem_nil.2 hw.1) rfl ⟨by omega, by rw [take_snoc _ _ _ hxk, take_snoc _ _ _ hyk, hall, hxy]⟩ (by show n - (k + 1) < n - k; omega)
    · obtain rfl : k = n := by simp at hlt; omega
      refine H_exit ?_
      refine thenJ_exit ?_
      refine loopJ_exit ?_
      refine blockJ_hit ?_
      refine thenJ_normal ?_
      refine H_seq ?_
      refine R0 ?_
      refine xV (e_as (v := .bool _) (q0 rfl)) rfl rfl ?_
      refine XN ?_
      refine thenJ_normal ?_
      refine H_ret ?_
      exact ret1 (v := .bool _) rfl rfl rfl fun w' hw => ⟨ret_bool (by
        rw [eq_comm, decide_eq_true_eq]
        rw [List.take_of_length_le (by omega), List.take_of_length_le (by omega)] at hall
        exact hall), hw.1⟩

theorem sameLv_w_eq (x y : Lv) (w : World) : (Op.equal 63 (.agg (Lv.cells x).toArray) (.agg (Lv.cells y).toArray)).run Try.prog w = .ok (decide (x = y)) w := by
  have h : (Op.equalIn 10000 63 (.agg (Lv.cells x).toArray) (.agg (Lv.cells y).toArray)).run Try.prog w = .ok ((x.at_ == y.at_ && (x.count == y.count && true))) w :=
    eqS_of w Try.underlying63 (by kernel_rfl) (eqF_cons w (by decide) (run_part_one w Try.isAgg3 rfl) (run_part_one w Try.isAgg3 rfl) (run_equalIn_int w _ _ .i64 .i64 _ _ Try.underlying3) (eqF_cons w (by decide) (run_part_one w Try.isAgg3 rfl) (run_part_one w Try.isAgg3 rfl) (run_equalIn_int w _ _ .i64 .i64 _ _ Try.underlying3) (eqF_nil w)))
  have e : ((x.at_ == y.at_ && (x.count == y.count && true))) = decide (x = y) := by
    rw [Bool.eq_iff_iff]
    cases x; cases y
    simp
  rw [← e]; exact h
theorem sameLv_w (A B : Option Addr) (n m c d : Nat) (xs ys : List Lv) (w : World) (hx : SlAt w 2 Lv.cells A n xs) (hy : SlAt w 2 Lv.cells B m ys) :
    Calls Try.prog 30 #[.slice A n c, .slice B m d] w fun e w' => e = .returned (.bool (decide (xs = ys))) ∧ Bel w w' := by
  have hl := hx.1
  have hn := hx.2.1
  have hl2 := hy.1
  refine H_enter Try.func30 rfl Try.ntmps30 rfl ?_
  refine H_seq ?_
  refine R0 ?_
  refine xV (e_as (v := .bool _) (q0 rfl)) rfl rfl ?_
  refine XN ?_
  refine thenJ_normal ?_
  refine H_seq ?_
  refine H_seq ?_
  refine R0 ?_
  refine xV (e_mv (v := .slice _ _ _) (q0 rfl)) rfl rfl ?_
  refine xV (e_len Try.underlying49 (q0 rfl)) rfl rfl ?_
  refine xV (e_mv (v := .slice _ _ _) (q0 rfl)) rfl rfl ?_
  refine xV (e_len Try.underlying49 (q0 rfl)) rfl rfl ?_
  refine xV (e_ne (q0 rfl) (q0 rfl)) rfl rfl ?_
  refine XN ?_
  refine thenJ_normal ?_
  refine H_cond rfl (fun h1 => ?_) (fun h1 => ?_)
  · refine H_seq ?_
    refine R0 ?_
    refine xV (e_as (v := .bool _) (q0 rfl)) rfl rfl ?_
    refine XN ?_
    refine thenJ_normal ?_
    refine H_ret ?_
    refine thenJ_ret ?_
    exact ret1 (v := .bool _) rfl rfl rfl fun w' hw => ⟨ret_bool (by
      rw [eq_comm, decide_eq_false_iff_not]
      intro e
      rw [e] at hl
      simp at h1
      omega), hw.1⟩
  · have hnm : n = m := by simp at h1; omega
    subst hnm
    refine H_skip ?_
    refine thenJ_normal ?_
    refine H_seq ?_
    refine H_seq ?_
    refine R0 ?_
    refine xV (e_as (v := .int _ _) (q0 rfl)) rfl rfl ?_
    refine XN ?_
    refine thenJ_normal ?_
    refine H_block ?_
    refine H_loop [4, 5, 11, 12, 13, 14, 15, 16, 17, 18, 19, 20, 21, 22, 23, 24, 25] (fun k : Nat => [(5, .int .i64 k)]) (fun _ => []) (fun k => k ≤ n ∧ xs.take k = ys.take k) (fun k => n - k) 0 ⟨rfl, trivial⟩ (fun _ h => h) rfl ⟨Nat.zero_le _, rfl⟩ ?_
    rintro k g ⟨hk, hall⟩
    refine H_seq ?_
    refine H_seq ?_
    refine R0 ?_
    refine xV (e_mv (v := .int _ _) (q0 rfl)) rfl rfl ?_
    refine xV (e_mv (v := .slice _ _ _) (q0 rfl)) rfl rfl ?_
    refine xV (e_len Try.underlying49 (q0 rfl)) rfl rfl ?_
    refine xV (e_lt (q0 rfl) (q0 rfl)) rfl rfl ?_
    refine XN ?_
    refine thenJ_normal ?_
    refine H_cond rfl (fun hlt => ?_) (fun hlt => ?_)
    · simp at hlt
      obtain ⟨b, off, x, rfl, hbl, hxk, hrx⟩ := hx.at_ hlt
      obtain ⟨b2, off2, y, rfl, hbl2, hyk, hry⟩ := hy.at_ hlt
      refine H_skip ?_
      refine thenJ_normal ?_
      refine H_seq ?_
      refine H_block ?_
      refine H_seq ?_
      refine R1 rfl (by decide +kernel) ?_
      refine xV (e_mv (v := .slice _ _ _) (q0 rfl)) rfl rfl ?_
      refine xV (e_mv (v := .int _ _) (q0 rfl)) rfl rfl ?_
      refine xV (e_idx _ Try.underlying49 Try.sizeOf63 (q0 rfl) (q0 rfl) (fun _ => ⟨rfl, by omega⟩)) rfl rfl ?_
      refine xV (e_lds Try.isAgg63 Try.sizeOf63 (q0 rfl) (by first | exact bxs 0 rfl | exact bxs 1 rfl | exact bxs 2 rfl | exact bxs 3 rfl | exact bxs 4 rfl | exact bxs 5 rfl | exact bxs 6 rfl | exact bxs 7 rfl | exact bxs 8 rfl | exact bxs 9 rfl | exact rcs ‹_› ‹_› | exact rrs 0 rfl ‹_› | exact rrs 1 rfl ‹_› | exact rrs 2 rfl ‹_› | exact rrs 3 rfl ‹_› | exact rrs 4 rfl ‹_› | exact rrs 5 rfl ‹_› | exact rrs 6 rfl ‹_› | exact rrs 7 rfl ‹_›) rfl) rfl rfl ?_
      refine xV (e_mv (v := .slice _ _ _) (q0 rfl)) rfl rfl ?_
      refine xV (e_mv (v := .int _ _) (q0 rfl)) rfl rfl ?_
      refine xV (e_idx _ Try.underlying49 Try.sizeOf63 (q0 rfl) (q0 rfl) (fun _ => ⟨rfl, by omega⟩)) rfl rfl ?_
      refine xV (e_lds Try.isAgg63 Try.sizeOf63 (q0 rfl) (by first | exact bxs 0 rfl | exact bxs 1 rfl | exact bxs 2 rfl | exact bxs 3 rfl | exact bxs 4 rfl | exact bxs 5 rfl | exact bxs 6 rfl | exact bxs 7 rfl | exact bxs 8 rfl | exact bxs 9 rfl | exact rcs ‹_› ‹_› | exact rrs 0 rfl ‹_› | exact rrs 1 rfl ‹_› | exact rrs 2 rfl ‹_› | exact rrs 3 rfl ‹_› | exact rrs 4 rfl ‹_› | exact rrs 5 rfl ‹_› | exact rrs 6 rfl ‹_› | exact rrs 7 rfl ‹_›) rfl) rfl rfl ?_
      refine xV (e_neS (fun w => sameLv_w_eq x y w) (by kernel_rfl) (q0 rfl) (q0 rfl)) rfl rfl ?_
      refine XN ?_
      refine thenJ_normal ?_
      refine H_cond rfl (fun hb => ?_) (fun hb => ?_)
      · refine H_seq ?_
        refine R0 ?_
        refine xV (e_as (v := .bool _) (q0 rfl)) rfl rfl ?_
        refine XN ?_
        refine thenJ_normal ?_
        refine H_ret ?_
        refine blockJ_ret ?_
        refine thenJ_ret ?_
        refine loopJ_ret ?_
        refine blockJ_ret ?_
        refine thenJ_ret ?_
        exact ret1 (v := .bool _) rfl rfl rfl fun w' hw => ⟨ret_bool (by
          rw [eq_comm, decide_eq_false_iff_not]
          intro e
          rw [e, hyk] at hxk
          cases hxk
          simp at hb), hw.1⟩
      · have hxy : x = y := by simpa using hb
        refine H_skip ?_
        refine blockJ_normal ?_
        refine thenJ_normal ?_
        refine R0 ?_
        refine xV (e_mv (v := .int _ _) (q0 rfl)) rfl rfl ?_
        refine xV (e_add (q0 rfl) (q0 rfl) (fun _ => ⟨rfl, by omega, by omega⟩)) rfl rfl ?_
        refine xV (e_as (v := .int _ _) (q0 rfl)) rfl rfl ?_
        refine XN ?_
        exact loopJ_normal (k + 1) (by repeat (first | exact agree_self | exact agree_over | refine agree_upd rfl ?_ | refine agree_updL rfl ?_ | refine agree_over2 rfl ?_)) ⟨rfl, trivial⟩ (fun w hw => mem_nil.2 hw.1) rfl ⟨by omega, by rw [take_snoc _ _ _ hxk, take_snoc _ _ _ hyk, hall, hxy]⟩ (by show n - (k + 1) < n - k; omega)
    · obtain rfl : k = n := by simp at hlt; omega
      refine H_exit ?_
      refine thenJ_exit ?_
      refine loopJ_exit ?_
      refine blockJ_hit ?_
      refine thenJ_normal ?_
      refine H_seq ?_
      refine R0 ?_
      refine xV (e_as (v := .bool _) (q0 rfl)) rfl rfl ?_
      refine XN ?_
      refine thenJ_normal ?_
      refine H_ret ?_
      exact ret1 (v := .bool _) rfl rfl rfl fun w' hw => ⟨ret_bool (by
        rw [eq_comm, decide_eq_true_eq]
        rw [List.take_of_length_le (by omega), List.take_of_length_le (by omega)] at hall
        exact hall), hw.1⟩


end Go.Proofs.Cus
