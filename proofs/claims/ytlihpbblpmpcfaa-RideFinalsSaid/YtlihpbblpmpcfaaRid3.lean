import Derived.Test.YtlihpbblpmpcfaaRid2
import Derived.Test.YtlihpbblpmpcfaaEng2
import Derived.Test.YtlihpbblpmpcfaaCusD
set_option linter.unusedVariables false
set_option linter.unusedSimpArgs false
/-
  The walks: are rides the same (the reference's way).
-/
namespace Go.Proofs.Rid
open Go Go.RowKit Go.Proofs.E Go.Proofs.Cus

theorem eqLg (x y : Lg) (w : World) : (Op.equal 52 (.agg x.cells.toArray) (.agg y.cells.toArray)).run Try.prog w = .ok (decide (x = y)) w := by
  have h : (Op.equalIn 10000 52 (.agg x.cells.toArray) (.agg y.cells.toArray)).run Try.prog w = .ok (x.bike == y.bike && ((x.from_.lo == y.from_.lo && (x.from_.hi == y.from_.hi && true)) && ((x.to_.lo == y.to_.lo && (x.to_.hi == y.to_.hi && true)) && true))) w :=
    eqS_of w Try.underlying52 (by kernel_rfl) (eqF_cons w (by decide) (run_part_one w Try.isAgg3 rfl) (run_part_one w Try.isAgg3 rfl) (run_equalIn_int w _ _ .i64 .i64 _ _ Try.underlying3)
      (eqF_cons w (by decide) (run_part_agg w Try.isAgg23 Try.sizeOf23 rfl) (run_part_agg w Try.isAgg23 Try.sizeOf23 rfl) (eqS_of w Try.underlying23 (by kernel_rfl) (eqF_cons w (by decide) (run_part_one w Try.isAgg3 rfl) (run_part_one w Try.isAgg3 rfl) (run_equalIn_int w _ _ .i64 .i64 _ _ Try.underlying3) (eqF_cons w (by decide) (run_part_one w Try.isAgg3 rfl) (run_part_one w Try.isAgg3 rfl) (run_equalIn_int w _ _ .i64 .i64 _ _ Try.underlying3) (eqF_nil w))))
      (eqF_cons w (by decide) (run_part_agg w Try.isAgg23 Try.sizeOf23 rfl) (run_part_agg w Try.isAgg23 Try.sizeOf23 rfl) (eqS_of w Try.underlying23 (by kernel_rfl) (eqF_cons w (by decide) (run_part_one w Try.isAgg3 rfl) (run_part_one w Try.isAgg3 rfl) (run_equalIn_int w _ _ .i64 .i64 _ _ Try.underlying3) (eqF_cons w (by decide) (run_part_one w Try.isAgg3 rfl) (run_part_one w Try.isAgg3 rfl) (run_equalIn_int w _ _ .i64 .i64 _ _ Try.underlying3) (eqF_nil w)))) (eqF_nil w))))
  have e : (x.bike == y.bike && ((x.from_.lo == y.from_.lo && (x.from_.hi == y.from_.hi && true)) && ((x.to_.lo == y.to_.lo && (x.to_.hi == y.to_.hi && true)) && true))) = decide (x = y) := by
    rw [Bool.eq_iff_iff]
    obtain ⟨a, ⟨b, c⟩, ⟨d, e⟩⟩ := x
    obtain ⟨a', ⟨b', c'⟩, ⟨d', e'⟩⟩ := y
    simp
  rw [← e]; exact h
theorem eqPz (x y : Pz) (w : World) : (Op.equal 71 (.agg x.cells.toArray) (.agg y.cells.toArray)).run Try.prog w = .ok (decide (x = y)) w := by
  have h : (Op.equalIn 10000 71 (.agg x.cells.toArray) (.agg y.cells.toArray)).run Try.prog w = .ok ((x.from_.lo == y.from_.lo && (x.from_.hi == y.from_.hi && true)) && ((x.to_.lo == y.to_.lo && (x.to_.hi == y.to_.hi && true)) && true)) w :=
    eqS_of w Try.underlying71 (by kernel_rfl) 
      (eqF_cons w (by decide) (run_part_agg w Try.isAgg23 Try.sizeOf23 rfl) (run_part_agg w Try.isAgg23 Try.sizeOf23 rfl) (eqS_of w Try.underlying23 (by kernel_rfl) (eqF_cons w (by decide) (run_part_one w Try.isAgg3 rfl) (run_part_one w Try.isAgg3 rfl) (run_equalIn_int w _ _ .i64 .i64 _ _ Try.underlying3) (eqF_cons w (by decide) (run_part_one w Try.isAgg3 rfl) (run_part_one w Try.isAgg3 rfl) (run_equalIn_int w _ _ .i64 .i64 _ _ Try.underlying3) (eqF_nil w))))
      (eqF_cons w (by decide) (run_part_agg w Try.isAgg23 Try.sizeOf23 rfl) (run_part_agg w Try.isAgg23 Try.sizeOf23 rfl) (eqS_of w Try.underlying23 (by kernel_rfl) (eqF_cons w (by decide) (run_part_one w Try.isAgg3 rfl) (run_part_one w Try.isAgg3 rfl) (run_equalIn_int w _ _ .i64 .i64 _ _ Try.underlying3) (eqF_cons w (by decide) (run_part_one w Try.isAgg3 rfl) (run_part_one w Try.isAgg3 rfl) (run_equalIn_int w _ _ .i64 .i64 _ _ Try.underlying3) (eqF_nil w)))) (eqF_nil w)))
  have e : ((x.from_.lo == y.from_.lo && (x.from_.hi == y.from_.hi && true)) && ((x.to_.lo == y.to_.lo && (x.to_.hi == y.to_.hi && true)) && true)) = decide (x = y) := by
    rw [Bool.eq_iff_iff]
    obtain ⟨⟨b, c⟩, ⟨d, e⟩⟩ := x
    obtain ⟨⟨b', c'⟩, ⟨d', e'⟩⟩ := y
    simp
  rw [← e]; exact h
theorem cons_dec {α : Type} [DecidableEq α] (x y : α) (l m : List α) : decide (x :: l = y :: m) = (decide (x = y) && decide (l = m)) := by
  rw [Bool.eq_iff_iff]; simp
set_option maxHeartbeats 1000000 in
set_option maxRecDepth 20000 in
theorem sameRide_w (x y : RX) (w : World) (hx : RdAt w x) (hy : RdAt w y) : Calls Try.prog 16 #[.agg x.cells.toArray, .agg y.cells.toArray] w fun e w' => e = .returned (.bool (decide (x.r = y.r))) ∧ Bel w w' := by
  obtain ⟨r, ⟨lA, lc, pA, pc⟩⟩ := x
  obtain ⟨s, ⟨mA, mc, qA, qc⟩⟩ := y
  obtain ⟨hlg, hpz⟩ := hx
  obtain ⟨hmg, hqz⟩ := hy
  simp only at hlg hpz hmg hqz
  have hln := hlg.2.1
  have hpn := hpz.2.1
  have hmn := hmg.2.1
  have hqn := hqz.2.1
  refine H_enter Try.func16 rfl Try.ntmps16 rfl ?_
  refine H_seq ?_
  refine R0 ?_
  refine X_box (v := .agg _) rfl rfl fun b2 => ?_
  refine X_box (v := .agg _) rfl rfl fun b3 => ?_
  refine xV (e_as (v := .bool _) (q0 rfl)) rfl rfl ?_
  refine XN ?_
  refine thenJ_normal ?_
  refine H_seq ?_
  refine H_seq ?_
  refine R0 ?_
  refine xV (e_fld Try.underlying27 rfl Try.sizeOf3 rfl (q0 rfl)) rfl rfl ?_
  refine xV (eL Try.isAgg3 (q0 rfl)) rfl rfl ?_
  refine xV (e_fld Try.underlying27 rfl Try.sizeOf3 rfl (q0 rfl)) rfl rfl ?_
  refine xV (eL Try.isAgg3 (q0 rfl)) rfl rfl ?_
  refine xV (e_ne (q0 rfl) (q0 rfl)) rfl rfl ?_
  refine xV (e_mv (v := .bool _) (q0 rfl)) rfl rfl ?_
  refine xVF (e_fld Try.underlying27 rfl Try.sizeOf3 rfl (q0 rfl)) rfl rfl rfl rfl ?_
  refine xVF (eL Try.isAgg3 (q1 rfl)) rfl rfl rfl rfl ?_
  refine xVF (e_fld Try.underlying27 rfl Try.sizeOf3 rfl (q0 rfl)) rfl rfl rfl rfl ?_
  refine xVF (eL Try.isAgg3 (q1 rfl)) rfl rfl rfl rfl ?_
  refine xVF (e_ne (q1 rfl) (q1 rfl)) rfl rfl rfl rfl ?_
  refine xV (e_or (q0 rfl) rfl (fun h => by first | rfl | (rw [h]; rfl))) rfl rfl ?_
  refine xV (e_mv (v := .bool _) (q0 rfl)) rfl rfl ?_
  refine xVF (e_fld Try.underlying27 rfl Try.sizeOf23 rfl (q0 rfl)) rfl rfl rfl rfl ?_
  refine xVF (eP Try.isAgg23 Try.sizeOf23 (q1 rfl)) rfl rfl rfl rfl ?_
  refine xVF (e_fld Try.underlying27 rfl Try.sizeOf23 rfl (q0 rfl)) rfl rfl rfl rfl ?_
  refine xVF (eP Try.isAgg23 Try.sizeOf23 (q1 rfl)) rfl rfl rfl rfl ?_
  refine xVF (e_neS (fun w => eqSpn r.start s.start w) (by kernel_rfl) (q1 rfl) (q1 rfl)) rfl rfl rfl rfl ?_
  refine xV (e_or (q0 rfl) rfl (fun h => by first | rfl | (rw [h]; rfl))) rfl rfl ?_
  refine xV (e_mv (v := .bool _) (q0 rfl)) rfl rfl ?_
  refine xVF (e_fld Try.underlying27 rfl Try.sizeOf23 rfl (q0 rfl)) rfl rfl rfl rfl ?_
  refine xVF (eP Try.isAgg23 Try.sizeOf23 (q1 rfl)) rfl rfl rfl rfl ?_
  refine xVF (e_fld Try.underlying27 rfl Try.sizeOf23 rfl (q0 rfl)) rfl rfl rfl rfl ?_
  refine xVF (eP Try.isAgg23 Try.sizeOf23 (q1 rfl)) rfl rfl rfl rfl ?_
  refine xVF (e_neS (fun w => eqSpn r.end_ s.end_ w) (by kernel_rfl) (q1 rfl) (q1 rfl)) rfl rfl rfl rfl ?_
  refine xV (e_or (q0 rfl) rfl (fun h => by first | rfl | (rw [h]; rfl))) rfl rfl ?_
  refine xV (e_mv (v := .bool _) (q0 rfl)) rfl rfl ?_
  refine xVF (e_fld Try.underlying27 rfl Try.sizeOf4 rfl (q0 rfl)) rfl rfl rfl rfl ?_
  refine xVF (eL Try.isAgg4 (q1 rfl)) rfl rfl rfl rfl ?_
  refine xVF (e_fld Try.underlying27 rfl Try.sizeOf4 rfl (q0 rfl)) rfl rfl rfl rfl ?_
  refine xVF (eL Try.isAgg4 (q1 rfl)) rfl rfl rfl rfl ?_
  refine xVF (e_neb Try.underlying4 (q1 rfl) (q1 rfl)) rfl rfl rfl rfl ?_
  refine xV (e_or (q0 rfl) rfl (fun h => by first | rfl | (rw [h]; rfl))) rfl rfl ?_
  refine xV (e_mv (v := .bool _) (q0 rfl)) rfl rfl ?_
  refine xVF (e_fld Try.underlying27 rfl Try.sizeOf3 rfl (q0 rfl)) rfl rfl rfl rfl ?_
  refine xVF (eL Try.isAgg3 (q1 rfl)) rfl rfl rfl rfl ?_
  refine xVF (e_fld Try.underlying27 rfl Try.sizeOf3 rfl (q0 rfl)) rfl rfl rfl rfl ?_
  refine xVF (eL Try.isAgg3 (q1 rfl)) rfl rfl rfl rfl ?_
  refine xVF (e_ne (q1 rfl) (q1 rfl)) rfl rfl rfl rfl ?_
  refine xV (e_or (q0 rfl) rfl (fun h => by first | rfl | (rw [h]; rfl))) rfl rfl ?_
  refine xV (e_mv (v := .bool _) (q0 rfl)) rfl rfl ?_
  refine xVF (e_fld Try.underlying27 rfl Try.sizeOf3 rfl (q0 rfl)) rfl rfl rfl rfl ?_
  refine xVF (eL Try.isAgg3 (q1 rfl)) rfl rfl rfl rfl ?_
  refine xVF (e_fld Try.underlying27 rfl Try.sizeOf3 rfl (q0 rfl)) rfl rfl rfl rfl ?_
  refine xVF (eL Try.isAgg3 (q1 rfl)) rfl rfl rfl rfl ?_
  refine xVF (e_ne (q1 rfl) (q1 rfl)) rfl rfl rfl rfl ?_
  refine xV (e_or (q0 rfl) rfl (fun h => by first | rfl | (rw [h]; rfl))) rfl rfl ?_
  refine xV (e_mv (v := .bool _) (q0 rfl)) rfl rfl ?_
  refine xVF (e_fld Try.underlying27 rfl Try.sizeOf3 rfl (q0 rfl)) rfl rfl rfl rfl ?_
  refine xVF (eL Try.isAgg3 (q1 rfl)) rfl rfl rfl rfl ?_
  refine xVF (e_fld Try.underlying27 rfl Try.sizeOf3 rfl (q0 rfl)) rfl rfl rfl rfl ?_
  refine xVF (eL Try.isAgg3 (q1 rfl)) rfl rfl rfl rfl ?_
  refine xVF (e_ne (q1 rfl) (q1 rfl)) rfl rfl rfl rfl ?_
  refine xV (e_or (q0 rfl) rfl (fun h => by first | rfl | (rw [h]; rfl))) rfl rfl ?_
  refine xV (e_mv (v := .bool _) (q0 rfl)) rfl rfl ?_
  refine xVF (e_fld Try.underlying27 rfl Try.sizeOf3 rfl (q0 rfl)) rfl rfl rfl rfl ?_
  refine xVF (eL Try.isAgg3 (q1 rfl)) rfl rfl rfl rfl ?_
  refine xVF (e_fld Try.underlying27 rfl Try.sizeOf3 rfl (q0 rfl)) rfl rfl rfl rfl ?_
  refine xVF (eL Try.isAgg3 (q1 rfl)) rfl rfl rfl rfl ?_
  refine xVF (e_ne (q1 rfl) (q1 rfl)) rfl rfl rfl rfl ?_
  refine xV (e_or (q0 rfl) rfl (fun h => by first | rfl | (rw [h]; rfl))) rfl rfl ?_
  refine xV (e_mv (v := .bool _) (q0 rfl)) rfl rfl ?_
  refine xVF (e_fld Try.underlying27 rfl Try.sizeOf24 rfl (q0 rfl)) rfl rfl rfl rfl ?_
  refine xVF (eL Try.isAgg24 (q1 rfl)) rfl rfl rfl rfl ?_
  refine xVF (e_len Try.underlying24 (q1 rfl)) rfl rfl rfl rfl ?_
  refine xVF (e_fld Try.underlying27 rfl Try.sizeOf24 rfl (q0 rfl)) rfl rfl rfl rfl ?_
  refine xVF (eL Try.isAgg24 (q1 rfl)) rfl rfl rfl rfl ?_
  refine xVF (e_len Try.underlying24 (q1 rfl)) rfl rfl rfl rfl ?_
  refine xVF (e_ne (q1 rfl) (q1 rfl)) rfl rfl rfl rfl ?_
  refine xV (e_or (q0 rfl) rfl (fun h => by first | rfl | (rw [h]; rfl))) rfl rfl ?_
  refine xV (e_mv (v := .bool _) (q0 rfl)) rfl rfl ?_
  refine xVF (e_fld Try.underlying27 rfl Try.sizeOf25 rfl (q0 rfl)) rfl rfl rfl rfl ?_
  refine xVF (eL Try.isAgg25 (q1 rfl)) rfl rfl rfl rfl ?_
  refine xVF (e_len Try.underlying25 (q1 rfl)) rfl rfl rfl rfl ?_
  refine xVF (e_fld Try.underlying27 rfl Try.sizeOf25 rfl (q0 rfl)) rfl rfl rfl rfl ?_
  refine xVF (eL Try.isAgg25 (q1 rfl)) rfl rfl rfl rfl ?_
  refine xVF (e_len Try.underlying25 (q1 rfl)) rfl rfl rfl rfl ?_
  refine xVF (e_ne (q1 rfl) (q1 rfl)) rfl rfl rfl rfl ?_
  refine xV (e_or (q0 rfl) rfl (fun h => by first | rfl | (rw [h]; rfl))) rfl rfl ?_
  refine XN ?_
  refine thenJ_normal ?_
  refine H_cond rfl (fun h1 => ?_) (fun h1 => ?_)
  · have hne : decide (r = s) = false := by
      rw [decide_eq_false_iff_not]
      rintro rfl
      simp at h1
    rw [show (decide ((⟨r, ⟨lA, lc, pA, pc⟩⟩ : RX).r = (⟨s, ⟨mA, mc, qA, qc⟩⟩ : RX).r)) = decide (r = s) from rfl, hne]
    refine H_seq ?_
    refine R0 ?_
    refine xV (e_as (v := .bool _) (q0 rfl)) rfl rfl ?_
    refine XN ?_
    refine thenJ_normal ?_
    refine H_ret ?_
    refine thenJ_ret ?_
    exact ret1 (v := .bool _) rfl rfl rfl fun w' hw => ⟨rfl, hw.1⟩
  · have hE : decide (r = s) = (decide (r.legs = s.legs) && decide (r.pauses = s.pauses)) ∧ r.legs.length = s.legs.length ∧ r.pauses.length = s.pauses.length := by
      clear hlg hpz hmg hqz hln hpn hmn hqn
      obtain ⟨a1, a2, a3, a4, a5, a6, a7, a8, a9, a10, a11⟩ := r
      obtain ⟨b1, b2, b3, b4, b5, b6, b7, b8, b9, b10, b11⟩ := s
      simp at h1
      obtain ⟨⟨⟨⟨⟨⟨⟨⟨⟨⟨g1, g2⟩, g3⟩, g4⟩, g5⟩, g6⟩, g7⟩, g8⟩, g9⟩, g10⟩, g11⟩ := h1
      subst g1 g2 g3 g4 g5 g6 g7 g8 g9
      refine ⟨?_, by simp only; omega, by simp only; omega⟩
      rw [Bool.eq_iff_iff]
      simp
    obtain ⟨hE, hl1, hl2⟩ := hE
    rw [show (decide ((⟨r, ⟨lA, lc, pA, pc⟩⟩ : RX).r = (⟨s, ⟨mA, mc, qA, qc⟩⟩ : RX).r)) = decide (r = s) from rfl, hE]
    refine H_skip ?_
    refine thenJ_normal ?_
    refine H_seq ?_
    refine H_seq ?_
    refine R0 ?_
    refine xV (e_as (v := .int _ _) (q0 rfl)) rfl rfl ?_
    refine XN ?_
    refine thenJ_normal ?_
    refine H_block ?_
    refine H_loop [4, 5, 86, 87, 88, 89, 90, 91, 92, 93, 94, 95, 96, 97, 98, 99, 100, 101, 102, 103] (fun k : Nat => [(5, .int .i64 k)]) (fun _ => [box b3 27 (RX.cells ⟨s, ⟨mA, mc, qA, qc⟩⟩), box b2 27 (RX.cells ⟨r, ⟨lA, lc, pA, pc⟩⟩)]) (fun k => k ≤ r.legs.length ∧ decide (r.legs = s.legs) = decide (r.legs.drop k = s.legs.drop k)) (fun k => r.legs.length - k) 0 ⟨rfl, trivial⟩ (fun w hw => hw) rfl ⟨Nat.zero_le _, rfl⟩ ?_
    rintro k g ⟨hk, hall⟩
    refine H_seq ?_
    refine H_seq ?_
    refine R0 ?_
    refine xV (e_mv (v := .int _ _) (q0 rfl)) rfl rfl ?_
    refine xV (e_fld Try.underlying27 rfl Try.sizeOf24 rfl (q0 rfl)) rfl rfl ?_
    refine xV (eL Try.isAgg24 (q0 rfl)) rfl rfl ?_
    refine xV (e_len Try.underlying24 (q0 rfl)) rfl rfl ?_
    refine xV (e_lt (q0 rfl) (q0 rfl)) rfl rfl ?_
    refine XN ?_
    refine thenJ_normal ?_
    refine H_cond rfl (fun hlt => ?_) (fun hlt => ?_)
    · have hlt' : k < r.legs.length := by simpa using hlt
      obtain ⟨b, off, y, rfl, hbl, hy, hry⟩ := hlg.at_ hlt'
      obtain ⟨b', off', z, rfl, hbl', hz, hrz⟩ := hmg.at_ (i := k) (by omega)
      rw [drop_of hy, drop_of hz, cons_dec] at hall
      have hk2 : k < s.legs.length := by omega
      refine H_skip ?_
      refine thenJ_normal ?_
      refine H_seq ?_
      refine H_block ?_
      refine H_seq ?_
      refine R1 rfl (by decide +kernel) ?_
      refine xV (e_fld Try.underlying27 rfl Try.sizeOf24 rfl (q0 rfl)) rfl rfl ?_
      refine xV (eL Try.isAgg24 (q0 rfl)) rfl rfl ?_
      refine xV (e_mv (v := .int _ _) (q0 rfl)) rfl rfl ?_
      refine xV (e_idx _ Try.underlying24 Try.sizeOf52 (q0 rfl) (q0 rfl) (fun _ => ⟨rfl, by omega⟩)) rfl rfl ?_
      refine xV (eS Try.isAgg52 Try.sizeOf52 (q0 rfl)) rfl rfl ?_
      refine xV (e_fld Try.underlying27 rfl Try.sizeOf24 rfl (q0 rfl)) rfl rfl ?_
      refine xV (eL Try.isAgg24 (q0 rfl)) rfl rfl ?_
      refine xV (e_mv (v := .int _ _) (q0 rfl)) rfl rfl ?_
      refine xV (e_idx k Try.underlying24 Try.sizeOf52 (q0 rfl) (q0 rfl) (fun _ => ⟨rfl, hk2⟩)) rfl rfl ?_
      refine xV (eS Try.isAgg52 Try.sizeOf52 (q0 rfl)) rfl rfl ?_
      refine xV (e_neS (fun w => eqLg y z w) (by kernel_rfl) (q0 rfl) (q0 rfl)) rfl rfl ?_
      refine XN ?_
      refine thenJ_normal ?_
      refine H_cond rfl (fun hb => ?_) (fun hb => ?_)
      · have hy0 : decide (y = z) = false := by simpa using hb
        rw [hall, hy0]
        refine H_seq ?_
        refine R0 ?_
        refine xV (e_as (v := .bool _) (q0 rfl)) rfl rfl ?_
        refine XN ?_
        refine thenJ_normal ?_
        refine H_ret ?_
        refine blockJ_ret ?_
        refine thenJ_ret ?_
        refine loopJ_ret ?_
        refine blockJ_ret ?_
        refine thenJ_ret ?_
        exact ret1 (v := .bool _) rfl rfl rfl fun w' hw => ⟨rfl, hw.1⟩
      · have hy1 : decide (y = z) = true := by simpa using hb
        rw [hy1, Bool.true_and] at hall
        refine H_skip ?_
        refine blockJ_normal ?_
        refine thenJ_normal ?_
        refine R0 ?_
        refine xV (e_mv (v := .int _ _) (q0 rfl)) rfl rfl ?_
        refine xV (e_add (q0 rfl) (q0 rfl) (fun _ => ⟨rfl, by omega, by omega⟩)) rfl rfl ?_
        refine xV (e_as (v := .int _ _) (q0 rfl)) rfl rfl ?_
        refine XN ?_
        exact loopJ_normal (k + 1) (by repeat (first | exact agree_self | exact agree_over | refine agree_upd rfl ?_ | refine agree_updL rfl ?_ | refine agree_over2 rfl ?_)) ⟨rfl, trivial⟩ (fun w hw => hw) rfl ⟨by omega, hall⟩ (by show r.legs.length - (k + 1) < r.legs.length - k; omega)
    · have hend : k = r.legs.length := by simp at hlt; omega
      have hall1 : decide (r.legs = s.legs) = true := by rw [hall, hend, List.drop_length, hl1, List.drop_length]; simp
      rw [hall1, Bool.true_and]
      refine H_exit ?_
      refine thenJ_exit ?_
      refine loopJ_exit ?_
      refine blockJ_hit ?_
      refine thenJ_normal ?_
      refine H_seq ?_
      refine H_seq ?_
      refine R0 ?_
      refine xV (e_as (v := .int _ _) (q0 rfl)) rfl rfl ?_
      refine XN ?_
      refine thenJ_normal ?_
      refine H_block ?_
      refine H_loop [4, 6, 104, 105, 106, 107, 108, 109, 110, 111, 112, 113, 114, 115, 116, 117, 118, 119, 120, 121] (fun k : Nat => [(6, .int .i64 k)]) (fun _ => [box b3 27 (RX.cells ⟨s, ⟨mA, mc, qA, qc⟩⟩), box b2 27 (RX.cells ⟨r, ⟨lA, lc, pA, pc⟩⟩)]) (fun k => k ≤ r.pauses.length ∧ decide (r.pauses = s.pauses) = decide (r.pauses.drop k = s.pauses.drop k)) (fun k => r.pauses.length - k) 0 ⟨rfl, trivial⟩ (fun w hw => hw) rfl ⟨Nat.zero_le _, rfl⟩ ?_
      rintro q g2 ⟨hq, hall2⟩
      refine H_seq ?_
      refine H_seq ?_
      refine R0 ?_
      refine xV (e_mv (v := .int _ _) (q0 rfl)) rfl rfl ?_
      refine xV (e_fld Try.underlying27 rfl Try.sizeOf25 rfl (q0 rfl)) rfl rfl ?_
      refine xV (eL Try.isAgg25 (q0 rfl)) rfl rfl ?_
      refine xV (e_len Try.underlying25 (q0 rfl)) rfl rfl ?_
      refine xV (e_lt (q0 rfl) (q0 rfl)) rfl rfl ?_
      refine XN ?_
      refine thenJ_normal ?_
      refine H_cond rfl (fun hlt2 => ?_) (fun hlt2 => ?_)
      · have hlt2' : q < r.pauses.length := by simpa using hlt2
        obtain ⟨b, off, y, rfl, hbl, hy, hry⟩ := hpz.at_ hlt2'
        obtain ⟨b', off', z, rfl, hbl', hz, hrz⟩ := hqz.at_ (i := q) (by omega)
        rw [drop_of hy, drop_of hz, cons_dec] at hall2
        have hq2 : q < s.pauses.length := by omega
        refine H_skip ?_
        refine thenJ_normal ?_
        refine H_seq ?_
        refine H_block ?_
        refine H_seq ?_
        refine R1 rfl (by decide +kernel) ?_
        refine xV (e_fld Try.underlying27 rfl Try.sizeOf25 rfl (q0 rfl)) rfl rfl ?_
        refine xV (eL Try.isAgg25 (q0 rfl)) rfl rfl ?_
        refine xV (e_mv (v := .int _ _) (q0 rfl)) rfl rfl ?_
        refine xV (e_idx _ Try.underlying25 Try.sizeOf71 (q0 rfl) (q0 rfl) (fun _ => ⟨rfl, by omega⟩)) rfl rfl ?_
        refine xV (eS Try.isAgg71 Try.sizeOf71 (q0 rfl)) rfl rfl ?_
        refine xV (e_fld Try.underlying27 rfl Try.sizeOf25 rfl (q0 rfl)) rfl rfl ?_
        refine xV (eL Try.isAgg25 (q0 rfl)) rfl rfl ?_
        refine xV (e_mv (v := .int _ _) (q0 rfl)) rfl rfl ?_
        refine xV (e_idx q Try.underlying25 Try.sizeOf71 (q0 rfl) (q0 rfl) (fun _ => ⟨rfl, hq2⟩)) rfl rfl ?_
        refine xV (eS Try.isAgg71 Try.sizeOf71 (q0 rfl)) rfl rfl ?_
        refine xV (e_neS (fun w => eqPz y z w) (by kernel_rfl) (q0 rfl) (q0 rfl)) rfl rfl ?_
        refine XN ?_
        refine thenJ_normal ?_
        refine H_cond rfl (fun hb => ?_) (fun hb => ?_)
        · have hy0 : decide (y = z) = false := by simpa using hb
          rw [hall2, hy0]
          refine H_seq ?_
          refine R0 ?_
          refine xV (e_as (v := .bool _) (q0 rfl)) rfl rfl ?_
          refine XN ?_
          refine thenJ_normal ?_
          refine H_ret ?_
          refine blockJ_ret ?_
          refine thenJ_ret ?_
          refine loopJ_ret ?_
          refine blockJ_ret ?_
          refine thenJ_ret ?_
          exact ret1 (v := .bool _) rfl rfl rfl fun w' hw => ⟨rfl, hw.1⟩
        · have hy1 : decide (y = z) = true := by simpa using hb
          rw [hy1, Bool.true_and] at hall2
          refine H_skip ?_
          refine blockJ_normal ?_
          refine thenJ_normal ?_
          refine R0 ?_
          refine xV (e_mv (v := .int _ _) (q0 rfl)) rfl rfl ?_
          refine xV (e_add (q0 rfl) (q0 rfl) (fun _ => ⟨rfl, by omega, by omega⟩)) rfl rfl ?_
          refine xV (e_as (v := .int _ _) (q0 rfl)) rfl rfl ?_
          refine XN ?_
          exact loopJ_normal (q + 1) (by repeat (first | exact agree_self | exact agree_over | refine agree_upd rfl ?_ | refine agree_updL rfl ?_ | refine agree_over2 rfl ?_)) ⟨rfl, trivial⟩ (fun w hw => hw) rfl ⟨by omega, hall2⟩ (by show r.pauses.length - (q + 1) < r.pauses.length - q; omega)
      · have hend2 : q = r.pauses.length := by simp at hlt2; omega
        have hall3 : decide (r.pauses = s.pauses) = true := by rw [hall2, hend2, List.drop_length, hl2, List.drop_length]; simp
        rw [hall3]
        refine H_exit ?_
        refine thenJ_exit ?_
        refine loopJ_exit ?_
        refine blockJ_hit ?_
        refine thenJ_normal ?_
        refine H_seq ?_
        refine R0 ?_
        refine xV (e_as (v := .bool _) (q0 rfl)) rfl rfl ?_
        refine XN ?_
        refine thenJ_normal ?_
        refine H_ret ?_
        exact ret1 (v := .bool _) rfl rfl rfl fun w' hw => ⟨rfl, hw.1⟩
theorem map_dec (k : Nat) {xs ys : List RX} {x y : RX} (hx : xs[k]? = some x) (hy : ys[k]? = some y) : decide ((xs.map (·.r)).drop k = (ys.map (·.r)).drop k) = (decide (x.r = y.r) && decide ((xs.map (·.r)).drop (k + 1) = (ys.map (·.r)).drop (k + 1))) := by
  rw [drop_of (l := xs.map (·.r)) (k := k) (x := x.r) (by simp [hx]), drop_of (l := ys.map (·.r)) (k := k) (x := y.r) (by simp [hy]), cons_dec]
set_option maxRecDepth 20000 in
theorem same_w (A B : Option Addr) (n m c d : Nat) (xs ys : List RX) (w : World) (hx : RdsAt w A n xs) (hy : RdsAt w B m ys) : Calls Try.prog 17 #[.slice A n c, .slice B m d] w fun e w' => e = .returned (.bool (decide (xs.map (·.r) = ys.map (·.r)))) ∧ Bel w w' := by
  have hl := hx.1.1
  have hn := hx.1.2.1
  have hl2 := hy.1.1
  have hn2 := hy.1.2.1
  refine H_enter Try.func17 rfl Try.ntmps17 rfl ?_
  refine H_seq ?_
  refine R0 ?_
  refine xV (e_as (v := .bool _) (q0 rfl)) rfl rfl ?_
  refine XN ?_
  refine thenJ_normal ?_
  refine H_seq ?_
  refine H_seq ?_
  refine R0 ?_
  refine xV (e_mv (v := .slice _ _ _) (q0 rfl)) rfl rfl ?_
  refine xV (e_len Try.underlying32 (q0 rfl)) rfl rfl ?_
  refine xV (e_mv (v := .slice _ _ _) (q0 rfl)) rfl rfl ?_
  refine xV (e_len Try.underlying32 (q0 rfl)) rfl rfl ?_
  refine xV (e_ne (q0 rfl) (q0 rfl)) rfl rfl ?_
  refine XN ?_
  refine thenJ_normal ?_
  refine H_cond rfl (fun h1 => ?_) (fun h1 => ?_)
  · have hne : decide (xs.map (·.r) = ys.map (·.r)) = false := by
      rw [decide_eq_false_iff_not]
      intro h
      have := congrArg List.length h
      simp only [List.length_map] at this
      simp at h1
      omega
    rw [hne]
    refine H_seq ?_
    refine R0 ?_
    refine xV (e_as (v := .bool _) (q0 rfl)) rfl rfl ?_
    refine XN ?_
    refine thenJ_normal ?_
    refine H_ret ?_
    refine thenJ_ret ?_
    exact ret1 (v := .bool _) rfl rfl rfl fun w' hw => ⟨rfl, hw.1⟩
  · have hnm : n = m := by simp at h1; omega
    refine H_skip ?_
    refine thenJ_normal ?_
    refine H_seq ?_
    refine H_seq ?_
    refine R0 ?_
    refine xV (e_as (v := .int _ _) (q0 rfl)) rfl rfl ?_
    refine XN ?_
    refine thenJ_normal ?_
    refine H_block ?_
    refine H_loop [4, 5, 11, 12, 13, 14, 15, 16, 17, 18, 19, 20, 21, 22, 23, 24, 25, 26] (fun k : Nat => [(5, .int .i64 k)]) (fun _ => []) (fun k => k ≤ n ∧ decide (xs.map (·.r) = ys.map (·.r)) = decide ((xs.map (·.r)).drop k = (ys.map (·.r)).drop k)) (fun k => n - k) 0 ⟨rfl, trivial⟩ (fun w hw => hw) rfl ⟨Nat.zero_le _, rfl⟩ ?_
    rintro k g ⟨hk, hall⟩
    refine H_seq ?_
    refine H_seq ?_
    refine R0 ?_
    refine xV (e_mv (v := .int _ _) (q0 rfl)) rfl rfl ?_
    refine xV (e_mv (v := .slice _ _ _) (q0 rfl)) rfl rfl ?_
    refine xV (e_len Try.underlying32 (q0 rfl)) rfl rfl ?_
    refine xV (e_lt (q0 rfl) (q0 rfl)) rfl rfl ?_
    refine XN ?_
    refine thenJ_normal ?_
    refine H_cond rfl (fun hlt => ?_) (fun hlt => ?_)
    · have hlt' : k < n := by simpa using hlt
      obtain ⟨b, off, y, rfl, hbl, hy1, hry⟩ := hx.1.at_ hlt'
      obtain ⟨b', off', z, rfl, hbl', hz1, hrz⟩ := hy.1.at_ (i := k) (by omega)
      rw [map_dec k hy1 hz1] at hall
      have hya := hx.2 y (List.mem_of_getElem? hy1)
      have hza := hy.2 z (List.mem_of_getElem? hz1)
      refine H_skip ?_
      refine thenJ_normal ?_
      refine H_seq ?_
      refine H_block ?_
      refine H_seq ?_
      refine R1 rfl (by decide +kernel) ?_
      refine xV (e_mv (v := .slice _ _ _) (q0 rfl)) rfl rfl ?_
      refine xV (e_mv (v := .int _ _) (q0 rfl)) rfl rfl ?_
      refine xV (e_idx _ Try.underlying32 Try.sizeOf27 (q0 rfl) (q0 rfl) (fun _ => ⟨rfl, by omega⟩)) rfl rfl ?_
      refine xV (eS Try.isAgg27 Try.sizeOf27 (q0 rfl)) rfl rfl ?_
      refine xV (e_mv (v := .slice _ _ _) (q0 rfl)) rfl rfl ?_
      refine xV (e_mv (v := .int _ _) (q0 rfl)) rfl rfl ?_
      refine xV (e_idx _ Try.underlying32 Try.sizeOf27 (q0 rfl) (q0 rfl) (fun _ => ⟨rfl, by omega⟩)) rfl rfl ?_
      refine xV (eS Try.isAgg27 Try.sizeOf27 (q0 rfl)) rfl rfl ?_
      refine xC (en Try.call16 (ha2 (q0 rfl) (q0 rfl))) (fun _ w hw => sameRide_w y z w (hya.mem hw) (hza.mem hw)) rfl rfl ?_
      refine xV (e_not (q0 rfl)) rfl rfl ?_
      refine XN ?_
      refine thenJ_normal ?_
      refine H_cond rfl (fun hb => ?_) (fun hb => ?_)
      · have hy0 : decide (y.r = z.r) = false := by simpa using hb
        rw [hall, hy0]
        refine H_seq ?_
        refine R0 ?_
        refine xV (e_as (v := .bool _) (q0 rfl)) rfl rfl ?_
        refine XN ?_
        refine thenJ_normal ?_
        refine H_ret ?_
        refine blockJ_ret ?_
        refine thenJ_ret ?_
        refine loopJ_ret ?_
        refine blockJ_ret ?_
        refine thenJ_ret ?_
        exact ret1 (v := .bool _) rfl rfl rfl fun w' hw => ⟨rfl, hw.1⟩
      · have hy1 : decide (y.r = z.r) = true := by simpa using hb
        rw [hy1, Bool.true_and] at hall
        refine H_skip ?_
        refine blockJ_normal ?_
        refine thenJ_normal ?_
        refine R0 ?_
        refine xV (e_mv (v := .int _ _) (q0 rfl)) rfl rfl ?_
        refine xV (e_add (q0 rfl) (q0 rfl) (fun _ => ⟨rfl, by omega, by omega⟩)) rfl rfl ?_
        refine xV (e_as (v := .int _ _) (q0 rfl)) rfl rfl ?_
        refine XN ?_
        exact loopJ_normal (k + 1) (by repeat (first | exact agree_self | exact agree_over | refine agree_upd rfl ?_ | refine agree_updL rfl ?_ | refine agree_over2 rfl ?_)) ⟨rfl, trivial⟩ (fun w hw => hw) rfl ⟨by omega, hall⟩ (by show n - (k + 1) < n - k; omega)
    · have hend : k = n := by simp at hlt; omega
      have hall1 : decide (xs.map (·.r) = ys.map (·.r)) = true := by rw [hall, hend, List.drop_of_length_le (by simp; omega), List.drop_of_length_le (by simp; omega)]; simp
      rw [hall1]
      refine H_exit ?_
      refine thenJ_exit ?_
      refine loopJ_exit ?_
      refine blockJ_hit ?_
      refine thenJ_normal ?_
      refine H_seq ?_
      refine R0 ?_
      refine xV (e_as (v := .bool _) (q0 rfl)) rfl rfl ?_
      refine XN ?_
      refine thenJ_normal ?_
      refine H_ret ?_
      exact ret1 (v := .bool _) rfl rfl rfl fun w' hw => ⟨rfl, hw.1⟩

end Go.Proofs.Rid

/-
  The walks: the chapter's examples.
-/
namespace Go.Proofs.Rid
open Go Go.RowKit Go.Proofs.E Go.Proofs.Cus

theorem fl42 {fs : Array Field} (h : Try.prog.underlying 42 = some (.struct fs) := by exact Try.underlying42) : FieldsLie Try.prog fs [(0, 1), (1, 1), (2, 1), (3, 1), (4, 1)] := by
  rw [Try.underlying42] at h
  cases h
  intro w
  kernel_rfl
theorem fl50 {fs : Array Field} (h : Try.prog.underlying 50 = some (.struct fs) := by exact Try.underlying50) : FieldsLie Try.prog fs [(0, 1), (1, 1), (2, 1), (3, 1), (4, 1), (5, 1), (6, 1), (7, 1), (8, 1)] := by
  rw [Try.underlying50] at h
  cases h
  intro w
  kernel_rfl
def awF : Fl := ⟨2, 2, 1, [3], []⟩
def awA (b : Nat) : FA := ⟨some ⟨b, 0, none⟩, 1, 1, none, 0, 0⟩
def awL : List Ev := [⟨0, 1, 10, 10, 1, 0, 0, 0, 0⟩, ⟨0, 2, 10, 10, 1, 1, 1, 0, 0⟩, ⟨0, 3, 100, 103, 3, 0, 0, 1, 7⟩, ⟨0, 4, 200, 200, 5, 0, 0, 0, 0⟩, ⟨0, 5, 260, 265, 6, 0, 0, 0, 0⟩, ⟨0, 6, 400, 401, 1, 0, 2, 0, 0⟩]
def awR : Rd := ⟨7, 1, ⟨100, 103⟩, ⟨400, 401⟩, false, [⟨0, ⟨100, 103⟩, ⟨400, 401⟩⟩], [⟨⟨200, 200⟩, ⟨260, 265⟩⟩], 1, 0, 1, 2⟩
def awX (x : Nat × Nat) : RX := ⟨awR, ⟨some ⟨x.1, 0, none⟩, 1, some ⟨x.2, 0, none⟩, 1⟩⟩
theorem fleet_w (w : World) : Calls Try.prog 29 #[] w fun e w' => ∃ b : Nat, e = .returned (.agg (awF.cells (awA b)).toArray) ∧ Mem w [box b 3 [.int .i64 3]] w' := by
  refine H_enter Try.func29 rfl Try.ntmps29 rfl ?_
  refine H_seq ?_
  refine R0 ?_
  refine X_alloc Try.zeroValue42 rfl fun b0 => ?_
  refine XN ?_
  refine thenJ_normal ?_
  refine H_seq ?_
  refine R0 ?_
  refine X_slit [(.int .i64 0)] Try.underlying40 Try.sizeOf3 Try.zeroValue3 rfl (by kernel_rfl) (pt (v := .int _ _) rfl E.p0) rfl rfl fun b1 => ?_
  refine xV (e_build Try.underlying42 fl42 Try.zeroValue42 (pt (v := .int _ _) rfl (pt (v := .int _ _) rfl (pt (v := .int _ _) rfl (pt (v := .slice _ _ _) rfl E.p0)))) rfl) rfl rfl ?_
  refine X_st (v := .agg _) rfl rfl Try.sizeOf42 ?_
  refine XN ?_
  refine thenJ_normal ?_
  refine H_ret ?_
  exact ret_of rfl (resc1 1 rfl rfl Try.isAgg42 Try.sizeOf42 rfl rfl) fun w' hw => ⟨b1, rfl, hw.pick [0] (by decide)⟩
theorem events_w (w : World) : Calls Try.prog 30 #[] w fun e w' => ∃ b : Nat, e = .returned (.slice (some ⟨b, 0, none⟩) 6 6) ∧ Mem w [box b 50 (awL.flatMap Ev.cells)] w' := by
  refine H_enter Try.func30 rfl Try.ntmps30 rfl ?_
  refine H_seq ?_
  refine R0 ?_
  refine xV (e_as (v := .slice _ _ _) (q0 rfl)) rfl rfl ?_
  refine XN ?_
  refine thenJ_normal ?_
  refine H_seq ?_
  refine R0 ?_
  refine xV (e_build Try.underlying50 fl50 Try.zeroValue50 (pt (v := .int _ _) rfl (pt (v := .int _ _) rfl (pt (v := .int _ _) rfl (pt (v := .int _ _) rfl E.p0)))) rfl) rfl rfl ?_
  refine xV (e_build Try.underlying50 fl50 Try.zeroValue50 (pt (v := .int _ _) rfl (pt (v := .int _ _) rfl (pt (v := .int _ _) rfl (pt (v := .int _ _) rfl (pt (v := .int _ _) rfl (pt (v := .int _ _) rfl E.p0)))))) rfl) rfl rfl ?_
  refine xV (e_build Try.underlying50 fl50 Try.zeroValue50 (pt (v := .int _ _) rfl (pt (v := .int _ _) rfl (pt (v := .int _ _) rfl (pt (v := .int _ _) rfl (pt (v := .int _ _) rfl (pt (v := .int _ _) rfl E.p0)))))) rfl) rfl rfl ?_
  refine xV (e_build Try.underlying50 fl50 Try.zeroValue50 (pt (v := .int _ _) rfl (pt (v := .int _ _) rfl (pt (v := .int _ _) rfl (pt (v := .int _ _) rfl E.p0)))) rfl) rfl rfl ?_
  refine xV (e_build Try.underlying50 fl50 Try.zeroValue50 (pt (v := .int _ _) rfl (pt (v := .int _ _) rfl (pt (v := .int _ _) rfl (pt (v := .int _ _) rfl E.p0)))) rfl) rfl rfl ?_
  refine xV (e_build Try.underlying50 fl50 Try.zeroValue50 (pt (v := .int _ _) rfl (pt (v := .int _ _) rfl (pt (v := .int _ _) rfl (pt (v := .int _ _) rfl (pt (v := .int _ _) rfl E.p0))))) rfl) rfl rfl ?_
  refine X_slit [(.int .i64 0), (.int .i64 0), (.int .i64 0), (.int .i64 0), (.int .i64 0), (.int .i64 0), (.int .i64 0), (.int .i64 0), (.int .i64 0), (.int .i64 0), (.int .i64 0), (.int .i64 0), (.int .i64 0), (.int .i64 0), (.int .i64 0), (.int .i64 0), (.int .i64 0), (.int .i64 0), (.int .i64 0), (.int .i64 0), (.int .i64 0), (.int .i64 0), (.int .i64 0), (.int .i64 0), (.int .i64 0), (.int .i64 0), (.int .i64 0), (.int .i64 0), (.int .i64 0), (.int .i64 0), (.int .i64 0), (.int .i64 0), (.int .i64 0), (.int .i64 0), (.int .i64 0), (.int .i64 0), (.int .i64 0), (.int .i64 0), (.int .i64 0), (.int .i64 0), (.int .i64 0), (.int .i64 0), (.int .i64 0), (.int .i64 0), (.int .i64 0), (.int .i64 0), (.int .i64 0), (.int .i64 0), (.int .i64 0), (.int .i64 0), (.int .i64 0), (.int .i64 0), (.int .i64 0), (.int .i64 0)] Try.underlying43 Try.sizeOf50 Try.zeroValue50 rfl (by kernel_rfl) (pt (v := .agg _) rfl (pt (v := .agg _) rfl (pt (v := .agg _) rfl (pt (v := .agg _) rfl (pt (v := .agg _) rfl (pt (v := .agg _) rfl E.p0)))))) rfl rfl fun b7 => ?_
  refine xV (e_as (v := .slice _ _ _) (q0 rfl)) rfl rfl ?_
  refine XN ?_
  refine thenJ_normal ?_
  refine H_ret ?_
  exact ret1 (v := .slice _ _ _) rfl rfl rfl fun w' hw => ⟨b7, rfl, hw⟩
theorem example_w (w : World) : Calls Try.prog 31 #[] w fun e w' => ∃ x : Nat × Nat, e = .returned (.agg (RX.cells (awX x)).toArray) ∧ Mem w [box x.2 71 (awR.pauses.flatMap Pz.cells), box x.1 52 (awR.legs.flatMap Lg.cells)] w' := by
  refine H_enter Try.func31 rfl Try.ntmps31 rfl ?_
  refine H_seq ?_
  refine R0 ?_
  refine X_alloc Try.zeroValue27 rfl fun b0 => ?_
  refine XN ?_
  refine thenJ_normal ?_
  refine H_seq ?_
  refine R0 ?_
  refine xV (e_build Try.underlying23 fl23 Try.zeroValue23 (pt (v := .int _ _) rfl (pt (v := .int _ _) rfl E.p0)) rfl) rfl rfl ?_
  refine xV (e_build Try.underlying23 fl23 Try.zeroValue23 (pt (v := .int _ _) rfl (pt (v := .int _ _) rfl E.p0)) rfl) rfl rfl ?_
  refine X_alloc Try.zeroValue23 rfl fun b1 => ?_
  refine X_alloc Try.zeroValue23 rfl fun b2 => ?_
  refine X_st (v := .agg _) rfl rfl Try.sizeOf23 ?_
  refine X_st (v := .agg _) rfl rfl Try.sizeOf23 ?_
  refine XN ?_
  refine thenJ_normal ?_
  refine H_seq ?_
  refine R0 ?_
  refine xV (eS Try.isAgg23 Try.sizeOf23 (q0 rfl)) rfl rfl ?_
  refine xV (eS Try.isAgg23 Try.sizeOf23 (q0 rfl)) rfl rfl ?_
  refine xV (eS Try.isAgg23 Try.sizeOf23 (q0 rfl)) rfl rfl ?_
  refine xV (eS Try.isAgg23 Try.sizeOf23 (q0 rfl)) rfl rfl ?_
  refine xV (e_build Try.underlying52 fl52 Try.zeroValue52 (pt (v := .agg _) rfl (pt (v := .agg _) rfl E.p0)) rfl) rfl rfl ?_
  refine X_slit [(.int .i64 0), (.int .i64 0), (.int .i64 0), (.int .i64 0), (.int .i64 0)] Try.underlying24 Try.sizeOf52 Try.zeroValue52 rfl (by kernel_rfl) (pt (v := .agg _) rfl E.p0) rfl rfl fun b10 => ?_
  refine xV (e_build Try.underlying23 fl23 Try.zeroValue23 (pt (v := .int _ _) rfl (pt (v := .int _ _) rfl E.p0)) rfl) rfl rfl ?_
  refine xV (e_build Try.underlying23 fl23 Try.zeroValue23 (pt (v := .int _ _) rfl (pt (v := .int _ _) rfl E.p0)) rfl) rfl rfl ?_
  refine xV (e_build Try.underlying71 fl71 Try.zeroValue71 (pt (v := .agg _) rfl (pt (v := .agg _) rfl E.p0)) rfl) rfl rfl ?_
  refine X_slit [(.int .i64 0), (.int .i64 0), (.int .i64 0), (.int .i64 0)] Try.underlying25 Try.sizeOf71 Try.zeroValue71 rfl (by kernel_rfl) (pt (v := .agg _) rfl E.p0) rfl rfl fun b14 => ?_
  refine xV (e_build Try.underlying27 fl27 Try.zeroValue27 (pt (v := .int _ _) rfl (pt (v := .int _ _) rfl (pt (v := .agg _) rfl (pt (v := .agg _) rfl (pt (v := .slice _ _ _) rfl (pt (v := .slice _ _ _) rfl (pt (v := .int _ _) rfl (pt (v := .int _ _) rfl (pt (v := .int _ _) rfl E.p0))))))))) rfl) rfl rfl ?_
  refine X_st (v := .agg _) rfl rfl Try.sizeOf27 ?_
  refine XN ?_
  refine thenJ_normal ?_
  refine H_ret ?_
  exact ret_of rfl (resc1 4 rfl rfl Try.isAgg27 Try.sizeOf27 rfl rfl) fun w' hw => ⟨(b10, b14), rfl, hw.pick [0, 1] (by decide)⟩
theorem nil_at {α : Type} {k : Nat} {enc : α → List Value} (w : World) : SlAt w k enc none 0 [] := ⟨rfl, by decide, fun h => absurd h (by decide)⟩
theorem lenR : awR.legs.length ≤ 100000 ∧ awR.pauses.length ≤ 100000 := by decide
theorem ex_at {w0 w : World} {L : List E.Item} {x : Nat × Nat} (hw : Mem w0 L w) (i j : Nat) (hi : L[i]? = some (box x.2 71 (awR.pauses.flatMap Pz.cells))) (hj : L[j]? = some (box x.1 52 (awR.legs.flatMap Lg.cells))) : RdAt w (awX x) :=
  ⟨slAt_box (enc := Lg.cells) (xs := awR.legs) hw hj (fun _ => rfl) (by decide), slAt_box (enc := Pz.cells) (xs := awR.pauses) hw hi (fun _ => rfl) (by decide)⟩
theorem aw_fleet {w0 w : World} {L : List E.Item} {b : Nat} (hw : Mem w0 L w) (i : Nat) (hi : L[i]? = some (box b 3 [.int .i64 3])) : FlAt w awF (awA b) :=
  ⟨slAt_box (enc := encInt) (xs := [3]) hw hi (fun _ => rfl) (by decide), nil_at w⟩
theorem aw_evs {w0 w : World} {L : List E.Item} {b : Nat} (hw : Mem w0 L w) (i : Nat) (hi : L[i]? = some (box b 50 (awL.flatMap Ev.cells))) : EvsAt w (some ⟨b, 0, none⟩) 6 awL := slAt_box (xs := awL) hw hi (fun _ => rfl) (by decide)
theorem aw_pl : PlOk awL := by intro e he; simp [awL] at he; rcases he with rfl | rfl | rfl | rfl | rfl | rfl <;> decide
def awM : Rd := ⟨7, 1, ⟨100, 103⟩, ⟨0, 0⟩, true, [⟨0, ⟨100, 103⟩, ⟨0, 0⟩⟩], [⟨⟨200, 200⟩, ⟨0, 0⟩⟩], 1, 0, 3, 0⟩
theorem aw1 : allOf awF awL = [awR] := by unfold allOf storyOf accOf; simp only [← refSet_eq]; decide +kernel
theorem aw2 : allOf awF (awL.take 4) = [awM] := by unfold allOf storyOf accOf; simp only [← refSet_eq]; decide +kernel
theorem aw3 : flErr awF = 0 := by decide +kernel
theorem aw4 : (storyOf awF awL).rides.length = 1 := by unfold storyOf accOf; simp only [← refSet_eq]; decide +kernel
theorem aw5 : (storyOf awF (awL.take 4)).rides.length = 1 := by unfold storyOf accOf; simp only [← refSet_eq]; decide +kernel
theorem one_of {r : Rd} {xs : List RX} (h : xs.map (·.r) = [r]) : ∃ p, xs = [⟨r, p⟩] := by
  cases xs with
  | nil => cases h
  | cons x l =>
    have h1 : x.r = r ∧ l.map (·.r) = [] := by
      rw [List.map_cons, List.cons.injEq] at h; exact h
    have h2 : l = [] := List.map_eq_nil_iff.1 h1.2
    exact ⟨x.a, by rw [h2, ← h1.1]⟩
theorem short1 (p : RPl) : Short [⟨awR, p⟩] := by intro x hx; rw [List.mem_singleton] at hx; subst hx; exact lenR
abbrev oneRd (r : Rd) (x : Option Addr × Nat × RPl) : List E.Item := [rdRow x.1 x.2.1 [⟨r, x.2.2⟩], rdBag [⟨r, x.2.2⟩]]
theorem all1_w (b c : Nat) (w : World) (hf : FlAt w awF (awA b)) (hx : EvsAt w (some ⟨c, 0, none⟩) 6 awL) : Calls Try.prog 23 #[.agg (awF.cells (awA b)).toArray, .slice (some ⟨c, 0, none⟩) 6 6] w fun r w' => ∃ x : Option Addr × Nat × RPl, r = .returned (.tuple #[.slice x.1 1 x.2.1, .int .i64 0]) ∧ Mem w (oneRd awR x) w' :=
  (all_w awF (awA b) _ 6 6 awL w hf hx (by decide) aw_pl (by rw [aw4]; decide)).mono fun r w' => by
    rintro ⟨⟨⟨A, c, xs⟩, hy⟩, rfl, hm⟩
    rw [aw1] at hy
    obtain ⟨p, rfl⟩ := one_of hy
    exact ⟨(A, c, p), by rw [aw3]; rfl, hm⟩
theorem all2_w (b c : Nat) (w : World) (hf : FlAt w awF (awA b)) (hx : EvsAt w (some ⟨c, 0, none⟩) 6 awL) : Calls Try.prog 23 #[.agg (awF.cells (awA b)).toArray, .slice (some ⟨c, 0, none⟩) 4 6] w fun r w' => ∃ x : Option Addr × Nat × RPl, r = .returned (.tuple #[.slice x.1 1 x.2.1, .int .i64 0]) ∧ Mem w (oneRd awM x) w' :=
  (all_w awF (awA b) _ 4 6 (awL.take 4) w hf (hx.take (i := 4) (by decide)) (by decide) (fun e he => aw_pl e (List.mem_of_mem_take he)) (by rw [aw5]; decide)).mono fun r w' => by
    rintro ⟨⟨⟨A, c, xs⟩, hy⟩, rfl, hm⟩
    rw [aw2] at hy
    obtain ⟨p, rfl⟩ := one_of hy
    exact ⟨(A, c, p), by rw [aw3]; rfl, hm⟩
theorem find1_w (A : Option Addr) (c : Nat) (p : RPl) (w : World) (hx : RdsAt w A 1 [⟨awR, p⟩]) : Calls Try.prog 14 #[.slice A 1 c, .int .i64 7] w fun e w' => ∃ y : RPl, e = .returned (.tuple #[.agg (RX.cells ⟨awR, y⟩).toArray, .bool true]) ∧ Mem w (rdParts ⟨awR, y⟩) w' :=
  (find_w A 1 c [⟨awR, p⟩] 7 w hx (short1 p)).mono fun r w' h => h
theorem of1_w (A : Option Addr) (c : Nat) (p : RPl) (w : World) (hx : RdsAt w A 1 [⟨awR, p⟩]) : Calls Try.prog 18 #[.slice A 1 c, .int .i64 1] w fun e w' => ∃ x : Option Addr × Nat × RPl, e = .returned (.slice x.1 1 x.2.1) ∧ Mem w (oneRd awR x) w' :=
  (of_w A 1 c [⟨awR, p⟩] 1 w hx (short1 p) (by decide)).mono fun r w' => by
    rintro ⟨⟨⟨A, c, xs⟩, hy⟩, rfl, hm⟩
    obtain ⟨q, rfl⟩ := one_of (r := awR) hy
    exact ⟨(A, c, q), rfl, hm⟩
theorem of0_w (A : Option Addr) (c : Nat) (p : RPl) (w : World) (hx : RdsAt w A 1 [⟨awR, p⟩]) : Calls Try.prog 18 #[.slice A 1 c, .int .i64 0] w fun e w' => ∃ x : Option Addr × Nat, e = .returned (.slice x.1 0 x.2) ∧ Mem w [rdRow x.1 x.2 [], rdBag []] w' :=
  (of_w A 1 c [⟨awR, p⟩] 0 w hx (short1 p) (by decide)).mono fun r w' => by
    rintro ⟨⟨⟨A, c, xs⟩, hy⟩, rfl, hm⟩
    have : xs = [] := List.map_eq_nil_iff.1 (show xs.map (·.r) = [] from hy)
    subst this
    exact ⟨(A, c), rfl, hm⟩
theorem fin1_w (A : Option Addr) (c : Nat) (p : RPl) (w : World) (hx : RdsAt w A 1 [⟨awR, p⟩]) : Calls Try.prog 20 #[.slice A 1 c, .int .i64 401] w fun e w' => ∃ x : Option Addr × Nat × RPl, e = .returned (.slice x.1 1 x.2.1) ∧ Mem w (oneRd awR x) w' :=
  (final_w A 1 c [⟨awR, p⟩] 401 w hx (short1 p) (by decide)).mono fun r w' => by
    rintro ⟨⟨⟨A, c, xs⟩, hy⟩, rfl, hm⟩
    obtain ⟨q, rfl⟩ := one_of (r := awR) hy
    exact ⟨(A, c, q), rfl, hm⟩
theorem fin0_w (A : Option Addr) (c : Nat) (p : RPl) (w : World) (hx : RdsAt w A 1 [⟨awR, p⟩]) : Calls Try.prog 20 #[.slice A 1 c, .int .i64 400] w fun e w' => ∃ x : Option Addr × Nat, e = .returned (.slice x.1 0 x.2) ∧ Mem w [rdRow x.1 x.2 [], rdBag []] w' :=
  (final_w A 1 c [⟨awR, p⟩] 400 w hx (short1 p) (by decide)).mono fun r w' => by
    rintro ⟨⟨⟨A, c, xs⟩, hy⟩, rfl, hm⟩
    have : xs = [] := List.map_eq_nil_iff.1 (show xs.map (·.r) = [] from hy)
    subst this
    exact ⟨(A, c), rfl, hm⟩
theorem chk1_w (x : Nat × Nat) (w : World) (hx : RdAt w (awX x)) : Calls Try.prog 11 #[.agg (RX.cells (awX x)).toArray] w fun e w' => e = .returned (.int .i64 0) ∧ Bel w w' :=
  rcheck_w (awX x) w hx (Nat.le_trans lenR.1 (by decide)) (Nat.le_trans lenR.2 (by decide))
theorem chk0_w (w : World) : Calls Try.prog 11 #[.agg (RX.cells ⟨zRd, zPl⟩).toArray] w fun e w' => e = .returned (.int .i64 1) ∧ Bel w w' :=
  rcheck_w ⟨zRd, zPl⟩ w ⟨⟨rfl, by decide, fun h => absurd h (by decide)⟩, ⟨rfl, by decide, fun h => absurd h (by decide)⟩⟩ (by decide) (by decide)
theorem same1_w (A : Option Addr) (c b : Nat) (p : RPl) (x : Nat × Nat) (w : World) (hx : RdsAt w A 1 [⟨awR, p⟩]) (hy : RdsAt w (some ⟨b, 0, none⟩) 1 [awX x]) : Calls Try.prog 17 #[.slice A 1 c, .slice (some ⟨b, 0, none⟩) 1 1] w fun e w' => e = .returned (.bool true) ∧ Bel w w' :=
  (same_w A _ 1 1 c 1 [⟨awR, p⟩] [awX x] w hx hy).mono fun r w' h => by rw [show decide (([⟨awR, p⟩] : List RX).map (·.r) = [awX x].map (·.r)) = true from decide_eq_true rfl] at h; exact h
theorem sameR1_w (y : RPl) (x : Nat × Nat) (w : World) (hx : RdAt w ⟨awR, y⟩) (hy : RdAt w (awX x)) : Calls Try.prog 16 #[.agg (RX.cells ⟨awR, y⟩).toArray, .agg (RX.cells (awX x)).toArray] w fun e w' => e = .returned (.bool true) ∧ Bel w w' :=
  (sameRide_w ⟨awR, y⟩ (awX x) w hx hy).mono fun r w' h => by rw [show decide ((⟨awR, y⟩ : RX).r = (awX x).r) = true from decide_eq_true rfl] at h; exact h
theorem one_at {w0 w : World} {L : List E.Item} {x : Option Addr × Nat × RPl} (hw : Mem w0 L w) (j k : Nat) (hj : L[j]? = some (rdRow x.1 x.2.1 [⟨awR, x.2.2⟩])) (hk : L[k]? = some (rdBag [⟨awR, x.2.2⟩])) : RdsAt w x.1 1 [⟨awR, x.2.2⟩] :=
  rds_items hw hj hk (show 1 ≤ 100000 by decide) (short1 _)

end Go.Proofs.Rid

/-
  The walks: the chapter's examples hold.
-/
namespace Go.Proofs.Rid
open Go Go.RowKit Go.Proofs.E Go.Proofs.Cus

theorem same1u_w (A : Option Addr) (c b : Nat) (p : RPl) (x : Nat × Nat) (w : World) (hx : RdsAt w A 1 [⟨awR, p⟩]) (hy : RdsAt w (some ⟨b, 0, none⟩) 1 [awX x]) : Calls Try.prog 17 #[.slice A 1 c, .slice (some ⟨b, 0, none⟩) 1 1] w fun e w' => ∃ _ : Unit, e = .returned (.bool true) ∧ Mem w [] w' :=
  (same1_w A c b p x w hx hy).mono fun r w' h => ⟨(), h.1, mem_nil.2 h.2⟩
theorem sameR1u_w (y : RPl) (x : Nat × Nat) (w : World) (hx : RdAt w ⟨awR, y⟩) (hy : RdAt w (awX x)) : Calls Try.prog 16 #[.agg (RX.cells ⟨awR, y⟩).toArray, .agg (RX.cells (awX x)).toArray] w fun e w' => ∃ _ : Unit, e = .returned (.bool true) ∧ Mem w [] w' :=
  (sameR1_w y x w hx hy).mono fun r w' h => ⟨(), h.1, mem_nil.2 h.2⟩
theorem ex_row {w0 w : World} {L : List E.Item} {x : Nat × Nat} {b : Nat} (hw : Mem w0 L w) (i j k : Nat) (hi : L[i]? = some (box x.2 71 (awR.pauses.flatMap Pz.cells))) (hj : L[j]? = some (box x.1 52 (awR.legs.flatMap Lg.cells))) (hk : L[k]? = some (box b 27 (RX.cells (awX x)))) : RdsAt w (some ⟨b, 0, none⟩) 1 [awX x] :=
  ⟨slAt_box (enc := RX.cells) (xs := [awX x]) hw hk (fun _ => rfl) (show 1 ≤ 9223372036854775807 by decide), fun y hy => by rw [List.mem_singleton] at hy; subst hy; exact ex_at hw i j hi hj⟩
theorem part_at {w0 w : World} {L : List E.Item} {y : RPl} (hw : Mem w0 L w) (i j : Nat) (hi : L[i]? = some (lgRow y.lA y.lc awR.legs)) (hj : L[j]? = some (pzRow y.pA y.pc awR.pauses)) : RdAt w ⟨awR, y⟩ :=
  ⟨slAt_row hw hi (fun _ => rfl) (Nat.le_trans lenR.1 (by decide)), slAt_row hw hj (fun _ => rfl) (Nat.le_trans lenR.2 (by decide))⟩
attribute [local irreducible] allOf
set_option maxHeartbeats 1000000 in
set_option maxRecDepth 20000 in
theorem awake_w (w : World) : Calls Try.prog 10 #[] w fun e w' => e = .returned (.bool true) ∧ Bel w w' := by
  refine H_enter Try.func10 rfl Try.ntmps10 rfl ?_
  refine H_seq ?_
  refine R0 ?_
  refine xV (e_as (v := .bool _) (q0 rfl)) rfl rfl ?_
  refine XN ?_
  refine thenJ_normal ?_
  refine H_seq ?_
  refine R0 ?_
  refine xCX (en Try.call29 (ha0)) (fun w hw => fleet_w w) rfl (fun _ => rfl) fun c1 => ?_
  refine xCX (en Try.call30 (ha0)) (fun w hw => events_w w) rfl (fun _ => rfl) fun d1 => ?_
  refine xCX (en Try.call23 (ha2 (q0 rfl) (q0 rfl))) (fun w hw => all1_w c1 d1 w (aw_fleet hw 1 rfl) (aw_evs hw 0 rfl)) rfl (fun _ => rfl) fun x1 => ?_
  refine xV (e_mv (q0 rfl)) rfl rfl ?_
  refine xV (e_ext (q0 rfl) rfl) rfl rfl ?_
  refine xV (e_ext (q0 rfl) rfl) rfl rfl ?_
  refine xV (e_as (v := .slice _ _ _) (q0 rfl)) rfl rfl ?_
  refine xV (e_as (v := .int _ _) (q0 rfl)) rfl rfl ?_
  refine XN ?_
  refine thenJ_normal ?_
  refine H_seq ?_
  refine H_mem (L' := oneRd awR x1) (fun w hw => hw.pick [0, 1] (by decide)) rfl ?_
  refine R0 ?_
  refine xCX (en Try.call29 (ha0)) (fun w hw => fleet_w w) rfl (fun _ => rfl) fun c2 => ?_
  refine xCX (en Try.call30 (ha0)) (fun w hw => events_w w) rfl (fun _ => rfl) fun d2 => ?_
  refine xV (e_slHi 4 Try.underlying43 Try.sizeOf50 (q0 rfl) (q0 rfl) (fun _ => ⟨by decide, by decide⟩)) rfl rfl ?_
  refine xCX (en Try.call23 (ha2 (q0 rfl) (q0 rfl))) (fun w hw => all2_w c2 d2 w (aw_fleet hw 1 rfl) (aw_evs hw 0 rfl)) rfl (fun _ => rfl) fun x2 => ?_
  refine xV (e_mv (q0 rfl)) rfl rfl ?_
  refine xV (e_ext (q0 rfl) rfl) rfl rfl ?_
  refine xV (e_ext (q0 rfl) rfl) rfl rfl ?_
  refine xV (e_as (v := .slice _ _ _) (q0 rfl)) rfl rfl ?_
  refine xV (e_as (v := .int _ _) (q0 rfl)) rfl rfl ?_
  refine XN ?_
  refine thenJ_normal ?_
  refine H_seq ?_
  refine H_mem (L' := oneRd awM x2 ++ oneRd awR x1) (fun w hw => hw.pick [0, 1, 4, 5] (by decide)) rfl ?_
  obtain ⟨m1, m2, m3⟩ := x2
  refine H_know (fun w hw => rowT_at (j := 0) hw rfl (show 0 < 1 by decide)) fun ⟨q, hq⟩ => ?_
  simp only at hq
  subst hq
  have hm0 : ([⟨awM, m3⟩] : List RX)[0]? = some ⟨awM, m3⟩ := rfl
  refine R0 ?_
  refine xV (e_mv (v := .slice _ _ _) (q0 rfl)) rfl rfl ?_
  refine xCX (en Try.call14 (ha2 (q0 rfl) (q0 rfl))) (fun w hw => find1_w x1.1 x1.2.1 x1.2.2 w (one_at hw 2 3 rfl rfl)) rfl (fun _ => rfl) fun y => ?_
  refine xV (e_mv (q0 rfl)) rfl rfl ?_
  refine xV (e_ext (q0 rfl) rfl) rfl rfl ?_
  refine xV (e_ext (q0 rfl) rfl) rfl rfl ?_
  refine X_alloc Try.zeroValue27 rfl fun b5 => ?_
  refine X_st (v := .agg _) rfl rfl Try.sizeOf27 ?_
  refine xV (e_as (v := .bool _) (q0 rfl)) rfl rfl ?_
  refine XN ?_
  refine thenJ_normal ?_
  refine H_seq ?_
  refine H_seq ?_
  refine RA rfl (by decide +kernel) ?_
  refine aV 0 (by decide +kernel) rfl (e_mv (v := .int _ _) (q0 rfl)) rfl ?_
  refine aV 1 (by decide +kernel) rfl (e_ne (q0 rfl) (q0 rfl)) rfl ?_
  refine aV 2 (by decide +kernel) rfl (e_mv (v := .bool _) (q0 rfl)) rfl ?_
  refine aVF 3 (by decide +kernel) rfl (e_mv (v := .slice _ _ _) (q0 rfl)) rfl rfl rfl ?_
  refine rdy1 (i := 4) (by decide +kernel) (sub_drop 0) ?_
  refine aLG rfl (Gd_false rfl rfl) (by first | rfl | decide | simp) (f_callx (en Try.call31 (ha0)) (fun w hw => example_w w) rfl (fun _ => rfl) fun e1 => ?_)
  refine rdy1 (i := 5) (by decide +kernel) (sub_drop 2) ?_
  refine aLG rfl (Gd_false rfl rfl) (by first | rfl | decide) (f_slit [(.int .i64 0), (.int .i64 0), (.int .i64 0), (.int .i64 0), (.int .i64 0), (.int .i64 0), (.bool false), (.slice none 0 0), (.slice none 0 0), (.int .i64 0), (.int .i64 0), (.int .i64 0), (.int .i64 0)] Try.underlying32 Try.sizeOf27 Try.zeroValue27 rfl (by kernel_rfl) (pt (v := .agg _) rfl E.p0) rfl rfl fun b5 => ?_)
  refine aI 2 ?_
  refine rdy1 (i := 6) (by decide +kernel) (sub_drop 3) ?_
  refine aLG rfl (Gd_false rfl rfl) (by first | rfl | decide | simp) (f_callx (en Try.call17 (ha2 (qk (v := .slice _ _ _) rfl (by first | rfl | decide | simp)) (q0 (v := .slice _ _ _) rfl))) (fun w hw => same1u_w x1.1 x1.2.1 b5 x1.2.2 e1 w (one_at hw 8 9 rfl rfl) (ex_row hw 0 1 2 rfl rfl rfl)) rfl (fun _ => rfl) fun u6 => ?_)
  refine aVF 7 (by decide +kernel) rfl (e_not (q0 rfl)) rfl rfl rfl ?_
  refine aV 8 (by decide +kernel) rfl (e_or (q0 rfl) rfl (fun h => by first | rfl | (rw [h]; rfl))) rfl ?_
  refine aV 9 (by decide +kernel) rfl (e_mv (v := .bool _) (q0 rfl)) rfl ?_
  refine aVF 10 (by decide +kernel) rfl (e_mv (v := .int _ _) (q0 rfl)) rfl rfl rfl ?_
  refine aVF 11 (by decide +kernel) rfl (e_ne (q1 rfl) (q0 rfl)) rfl rfl rfl ?_
  refine aV 12 (by decide +kernel) rfl (e_or (q0 rfl) rfl (fun h => by first | rfl | (rw [h]; rfl))) rfl ?_
  refine aV 13 (by decide +kernel) rfl (e_mv (v := .bool _) (q0 rfl)) rfl ?_
  refine aVF 14 (by decide +kernel) rfl (e_mv (v := .slice _ _ _) (q0 rfl)) rfl rfl rfl ?_
  refine aVF 15 (by decide +kernel) rfl (e_len Try.underlying32 (q1 rfl)) rfl rfl rfl ?_
  refine aVF 16 (by decide +kernel) rfl (e_ne (q1 rfl) (q0 rfl)) rfl rfl rfl ?_
  refine aV 17 (by decide +kernel) rfl (e_or (q0 rfl) rfl (fun h => by first | rfl | (rw [h]; rfl))) rfl ?_
  refine aV 18 (by decide +kernel) rfl (e_mv (v := .bool _) (q0 rfl)) rfl ?_
  refine aVF 19 (by decide +kernel) rfl (e_mv (v := .slice _ _ _) (q0 rfl)) rfl rfl rfl ?_
  refine aVF 20 (by decide +kernel) rfl (e_idx 0 Try.underlying32 Try.sizeOf27 (q1 rfl) (q0 rfl) (fun _ => ⟨rfl, by decide⟩)) rfl rfl rfl ?_
  refine aVF 21 (by decide +kernel) rfl (e_fld Try.underlying27 rfl Try.sizeOf4 rfl (q1 rfl)) rfl rfl rfl ?_
  refine aVF 22 (by decide +kernel) rfl (eL Try.isAgg4 (q1 rfl)) rfl rfl rfl ?_
  refine aVF 23 (by decide +kernel) rfl (e_not (q1 rfl)) rfl rfl rfl ?_
  refine aV 24 (by decide +kernel) rfl (e_or (q0 rfl) rfl (fun h => by first | rfl | (rw [h]; rfl))) rfl ?_
  refine aV 25 (by decide +kernel) rfl (e_mv (v := .bool _) (q0 rfl)) rfl ?_
  refine aVF 26 (by decide +kernel) rfl (e_mv (v := .bool _) (q0 rfl)) rfl rfl rfl ?_
  refine aVF 27 (by decide +kernel) rfl (e_not (q1 rfl)) rfl rfl rfl ?_
  refine aV 28 (by decide +kernel) rfl (e_or (q0 rfl) rfl (fun h => by first | rfl | (rw [h]; rfl))) rfl ?_
  refine aV 29 (by decide +kernel) rfl (e_mv (v := .bool _) (q0 rfl)) rfl ?_
  refine aVF 30 (by decide +kernel) rfl (eS Try.isAgg27 Try.sizeOf27 (q0 rfl)) rfl rfl rfl ?_
  refine rdy1 (i := 31) (by decide +kernel) (sub_drop 3) ?_
  refine aLG rfl (Gd_false rfl rfl) (by first | rfl | decide | simp) (f_callx (en Try.call31 (ha0)) (fun w hw => example_w w) rfl (fun _ => rfl) fun e2 => ?_)
  refine rdy1 (i := 32) (by decide +kernel) (sub_drop 5) ?_
  refine aLG rfl (Gd_false rfl rfl) (by first | rfl | decide | simp) (f_callx (en Try.call16 (ha2 (qk (v := .agg _) rfl (by first | rfl | decide | simp)) (q0 (v := .agg _) rfl))) (fun w hw => sameR1u_w y e2 w (part_at hw 6 7 rfl rfl) (ex_at hw 0 1 rfl rfl)) rfl (fun _ => rfl) fun u32 => ?_)
  refine aRL (sub_drop 5) ?_
  refine aVF 33 (by decide +kernel) rfl (e_not (q0 rfl)) rfl rfl rfl ?_
  refine aV 34 (by decide +kernel) rfl (e_or (q0 rfl) rfl (fun h => by first | rfl | (rw [h]; rfl))) rfl ?_
  refine aZ (by decide +kernel) (sub_drop 0) ?_
  refine thenJ_normal ?_
  refine H_cond rfl (fun h1 => ?_) (fun h1 => ?_)
  · exact absurd (show (!decide ((0 : Int) = 0) || !true || !decide ((0 : Int) = 0) || !decide ((1 : Int) = 1) || !true || !true || !true) = true from h1) (by decide)
  · refine H_skip ?_
    refine thenJ_normal ?_
    refine H_seq ?_
    refine R0 ?_
    refine xCX (en Try.call31 (ha0)) (fun w hw => example_w w) rfl (fun _ => rfl) fun e3 => ?_
    refine xC (en Try.call11 (ha1 (q0 rfl))) (fun _ w hw => chk1_w e3 w (ex_at hw 0 1 rfl rfl)) rfl rfl ?_
    refine xV (e_eq (q0 rfl) (q0 rfl)) rfl rfl ?_
    refine xV (e_mv (v := .bool _) (q0 rfl)) rfl rfl ?_
    refine xVT (EvG.any (e_build Try.underlying27 fl27 Try.zeroValue27 E.p0 rfl)) rfl rfl rfl rfl ?_
    refine xCT (en Try.call11 (ha1 (q1 (v := .agg _) rfl))) (fun _ w hw => chk0_w w) rfl rfl rfl rfl ?_
    refine xVT (e_eq (q1 rfl) (q0 rfl)) rfl rfl rfl rfl ?_
    refine xV (e_and (q0 rfl) rfl (fun h => by first | rfl | (rw [h]; rfl))) rfl rfl ?_
    refine xV (e_mv (v := .bool _) (q0 rfl)) rfl rfl ?_
    refine xVT (e_mv (v := .slice _ _ _) (q0 rfl)) rfl rfl rfl rfl ?_
    refine X_effG (Gd_true rfl rfl) (by first | rfl | decide | simp) (f_callx (en Try.call18 (ha2 (qk (v := .slice _ _ _) rfl (by first | rfl | decide | simp)) (q0 rfl))) (fun w hw => of1_w x1.1 x1.2.1 x1.2.2 w (one_at hw 12 13 rfl rfl)) rfl (fun _ => rfl) fun o1 => ?_)
    refine xVT (e_len Try.underlying32 (q0 rfl)) rfl rfl rfl rfl ?_
    refine xVT (e_eq (q1 rfl) (q0 rfl)) rfl rfl rfl rfl ?_
    refine xV (e_and (q0 rfl) rfl (fun h => by first | rfl | (rw [h]; rfl))) rfl rfl ?_
    refine xV (e_mv (v := .bool _) (q0 rfl)) rfl rfl ?_
    refine xVT (e_mv (v := .slice _ _ _) (q0 rfl)) rfl rfl rfl rfl ?_
    refine X_effG (Gd_true rfl rfl) (by first | rfl | decide | simp) (f_callx (en Try.call18 (ha2 (qk (v := .slice _ _ _) rfl (by first | rfl | decide | simp)) (q0 rfl))) (fun w hw => of0_w x1.1 x1.2.1 x1.2.2 w (one_at hw 14 15 rfl rfl)) rfl (fun _ => rfl) fun o2 => ?_)
    refine xVT (e_len Try.underlying32 (q0 rfl)) rfl rfl rfl rfl ?_
    refine xVT (e_eq (q1 rfl) (q0 rfl)) rfl rfl rfl rfl ?_
    refine xV (e_and (q0 rfl) rfl (fun h => by first | rfl | (rw [h]; rfl))) rfl rfl ?_
    refine xV (e_mv (v := .bool _) (q0 rfl)) rfl rfl ?_
    refine xVT (e_mv (v := .slice _ _ _) (q0 rfl)) rfl rfl rfl rfl ?_
    refine X_effG (Gd_true rfl rfl) (by first | rfl | decide | simp) (f_callx (en Try.call20 (ha2 (qk (v := .slice _ _ _) rfl (by first | rfl | decide | simp)) (q0 rfl))) (fun w hw => fin1_w x1.1 x1.2.1 x1.2.2 w (one_at hw 16 17 rfl rfl)) rfl (fun _ => rfl) fun o3 => ?_)
    refine xVT (e_len Try.underlying32 (q0 rfl)) rfl rfl rfl rfl ?_
    refine xVT (e_eq (q1 rfl) (q0 rfl)) rfl rfl rfl rfl ?_
    refine xV (e_and (q0 rfl) rfl (fun h => by first | rfl | (rw [h]; rfl))) rfl rfl ?_
    refine xV (e_mv (v := .bool _) (q0 rfl)) rfl rfl ?_
    refine xVT (e_mv (v := .slice _ _ _) (q0 rfl)) rfl rfl rfl rfl ?_
    refine X_effG (Gd_true rfl rfl) (by first | rfl | decide | simp) (f_callx (en Try.call20 (ha2 (qk (v := .slice _ _ _) rfl (by first | rfl | decide | simp)) (q0 rfl))) (fun w hw => fin0_w x1.1 x1.2.1 x1.2.2 w (one_at hw 18 19 rfl rfl)) rfl (fun _ => rfl) fun o4 => ?_)
    refine xVT (e_len Try.underlying32 (q0 rfl)) rfl rfl rfl rfl ?_
    refine xVT (e_eq (q1 rfl) (q0 rfl)) rfl rfl rfl rfl ?_
    refine xV (e_and (q0 rfl) rfl (fun h => by first | rfl | (rw [h]; rfl))) rfl rfl ?_
    refine xV (e_as (v := .bool _) (q0 rfl)) rfl rfl ?_
    refine XN ?_
    refine thenJ_normal ?_
    refine H_ret ?_
    exact ret1 (v := .bool _) rfl rfl rfl fun w' hw => ⟨ret_bool (by decide), hw.1⟩

end Go.Proofs.Rid

/-
  The walks of the laws: the order of the events does not matter.
-/
namespace Go.Proofs.Rid
open Go Go.RowKit Go.Proofs.E Go.Proofs.Cus Go.ChangeShapes Go.WideShapes Go.ChangeAt

/-- a list taken from its end -/
theorem backF {α β : Type} (g : α → List β) (xs : List α) : ∃ T : Nat → List β, T 0 = [] ∧ T xs.length = xs.reverse.flatMap g ∧ (∀ d x, d < xs.length → xs[xs.length - 1 - d]? = some x → T (d + 1) = T d ++ g x) ∧ ∀ d, T d = (xs.reverse.take d).flatMap g :=
  ⟨fun d => (xs.reverse.take d).flatMap g, by simp, by
    show (xs.reverse.take xs.length).flatMap g = _
    rw [List.take_of_length_le (by simp)], fun d x hd hx => by
    have h : xs.reverse[d]? = some x := by rw [List.getElem?_reverse hd]; exact hx
    show (xs.reverse.take (d + 1)).flatMap g = _
    rw [List.take_add_one, h]
    simp, fun _ => rfl⟩
theorem flatMap_len {α β : Type} {g : α → List β} {m : Nat} (hg : ∀ x, (g x).length = m) : ∀ l : List α, (l.flatMap g).length = m * l.length
  | [] => by simp
  | x :: l => by simp only [List.flatMap_cons, List.length_append, hg, flatMap_len hg l, List.length_cons]; rw [Nat.mul_add]; omega
theorem accOf_congr {f : Fl} {xs ys : List Ev} (h : setOf ys = setOf xs) : accOf f ys = accOf f xs := by unfold accOf; rw [h]
theorem setOf_congr {xs ys : List Ev} (h : ∀ e, e ∈ ys ↔ e ∈ xs) : setOf ys = setOf xs := ((set_isSet ys).congr h).unique (set_isSet xs)
theorem storyOf_congr {f : Fl} {xs ys : List Ev} (h : setOf ys = setOf xs) : storyOf f ys = storyOf f xs := by unfold storyOf; rw [accOf_congr h]
theorem allOf_congr {f : Fl} {xs ys : List Ev} (h : setOf ys = setOf xs) : allOf f ys = allOf f xs := by unfold allOf; rw [storyOf_congr h]
theorem story20 (f : Fl) {xs : List Ev} (h : xs.length ≤ 40) : (storyOf f xs).rides.length ≤ 20 := by
  by_cases hok : flErr f = 0
  · have h1 := story_len hok xs
    have h2 := accOf_len f xs
    omega
  · have : accOf f xs = [] := by unfold accOf; rw [if_neg hok]
    unfold storyOf
    rw [this]
    exact Nat.zero_le _
theorem short_of (f : Fl) {xs : List Ev} {N : Nat} (h : xs.length ≤ N) : ∀ r ∈ allOf f xs, r.legs.length ≤ N ∧ r.pauses.length ≤ N := fun r hr => by
  unfold allOf at hr
  split at hr
  · rename_i hok
    have h1 := ((joint_of hok xs).wf.legs r ((byId_perm _).mem_iff.1 hr))
    have h2 := accOf_len f xs
    omega
  · cases hr
def fewP (a : FA) (n : Nat) : Bool := decide ((n : Int) ≤ 40) && (decide ((a.dn : Int) ≤ 100) && decide ((a.tn : Int) ≤ 100))
theorem rfew_w (f : Fl) (a : FA) (w : World) : Calls Try.prog 40 #[.agg (f.cells a).toArray] w fun e w' => e = .returned (.bool (decide ((a.dn : Int) ≤ 100) && decide ((a.tn : Int) ≤ 100))) ∧ Bel w w' := by
  refine H_enter Try.func40 rfl Try.ntmps40 rfl ?_
  refine H_seq ?_
  refine R0 ?_
  refine X_box (v := .agg _) rfl rfl fun b1 => ?_
  refine xV (e_as (v := .bool _) (q0 rfl)) rfl rfl ?_
  refine XN ?_
  refine thenJ_normal ?_
  refine H_seq ?_
  refine R0 ?_
  refine xV (e_fld Try.underlying42 rfl Try.sizeOf40 rfl (q0 rfl)) rfl rfl ?_
  refine xV (eL Try.isAgg40 (q0 rfl)) rfl rfl ?_
  refine xV (e_len Try.underlying40 (q0 rfl)) rfl rfl ?_
  refine xV (e_le (q0 rfl) (q0 rfl)) rfl rfl ?_
  refine xV (e_mv (v := .bool _) (q0 rfl)) rfl rfl ?_
  refine xVT (e_fld Try.underlying42 rfl Try.sizeOf40 rfl (q0 rfl)) rfl rfl rfl rfl ?_
  refine xVT (eL Try.isAgg40 (q1 rfl)) rfl rfl rfl rfl ?_
  refine xVT (e_len Try.underlying40 (q1 rfl)) rfl rfl rfl rfl ?_
  refine xVT (e_le (q1 rfl) (q0 rfl)) rfl rfl rfl rfl ?_
  refine xV (e_and (q0 rfl) rfl (fun h => by first | rfl | (rw [h]; rfl))) rfl rfl ?_
  refine xV (e_as (v := .bool _) (q0 rfl)) rfl rfl ?_
  refine XN ?_
  refine thenJ_normal ?_
  refine H_ret ?_
  exact ret1 (v := .bool _) rfl rfl rfl fun w' hw => ⟨rfl, hw.1⟩
theorem few_w (f : Fl) (a : FA) (A : Option Addr) (n c : Nat) (w : World) : Calls Try.prog 22 #[.agg (f.cells a).toArray, .slice A n c] w fun e w' => e = .returned (.bool (fewP a n)) ∧ Bel w w' := by
  refine H_enter Try.func22 rfl Try.ntmps22 rfl ?_
  refine H_seq ?_
  refine R0 ?_
  refine X_box (v := .agg _) rfl rfl fun b2 => ?_
  refine xV (e_as (v := .bool _) (q0 rfl)) rfl rfl ?_
  refine XN ?_
  refine thenJ_normal ?_
  refine H_seq ?_
  refine R0 ?_
  refine xV (e_mv (v := .slice _ _ _) (q0 rfl)) rfl rfl ?_
  refine xV (e_len Try.underlying43 (q0 rfl)) rfl rfl ?_
  refine xV (e_le (q0 rfl) (q0 rfl)) rfl rfl ?_
  refine xV (e_mv (v := .bool _) (q0 rfl)) rfl rfl ?_
  refine xVT (eS Try.isAgg42 Try.sizeOf42 (q0 rfl)) rfl rfl rfl rfl ?_
  refine xCT (en Try.call40 (ha1 (q1 (v := .agg _) rfl))) (fun _ w _ => rfew_w f a w) rfl rfl rfl rfl ?_
  refine xV (e_and (q0 rfl) rfl (fun h => by first | rfl | (rw [h]; rfl))) rfl rfl ?_
  refine xV (e_as (v := .bool _) (q0 rfl)) rfl rfl ?_
  refine XN ?_
  refine thenJ_normal ?_
  refine H_ret ?_
  exact ret1 (v := .bool _) rfl rfl rfl fun w' hw => ⟨rfl, hw.1⟩
theorem few_n {a : FA} {n : Nat} (h : (!fewP a n) = false) : n ≤ 40 := by
  unfold fewP at h
  simp at h
  omega
theorem rds_out {w0 w : World} {L : List E.Item} {l : List Rd} (y : RdsOut l) (hw : Mem w0 L w) (j k : Nat) (hj : L[j]? = some (rdRow y.1.1 y.1.2.1 y.1.2.2)) (hk : L[k]? = some (rdBag y.1.2.2)) (hn : l.length ≤ 100000) (hl : ∀ r ∈ l, r.legs.length ≤ 100000 ∧ r.pauses.length ≤ 100000) : RdsAt w y.1.1 y.1.2.2.length y.1.2.2 := by
  obtain ⟨⟨A, c, xs⟩, hy⟩ := y
  simp only at hj hk
  have hyl : xs.length = l.length := by rw [← hy]; simp
  exact rds_items hw hj hk (by simp only; omega) fun x hx => hl x.r (by rw [← hy]; exact List.mem_map_of_mem hx)
section
variable {H : Type} {enc : TypeId × Value → H} {W : World} {sp : Nat → Bool} {held : Bool} {d : DataW H} {ps : List MemPlace}
set_option maxRecDepth 100000 in
theorem cap_evs {A : Option Addr} {n c : Nat} (h : DataW.Trod enc Try.prog W 0 sp held 43 (.slice A n c) d ps) : n ≤ c := by
  obtain ⟨_, hf⟩ := h
  obtain ⟨A, n, c', xs, e, hs, hc, _⟩ := rd_rows Try.underlying43 cellsEv (by decide) hf
  simp [Value.cells] at e
  obtain ⟨rfl, rfl, rfl⟩ := e
  exact hc
end

attribute [local irreducible] allOf flErr storyOf
set_option maxHeartbeats 1000000 in
set_option maxRecDepth 20000 in
theorem sortsLaw_w (f : Fl) (a : FA) (A : Option Addr) (n c : Nat) (xs : List Ev) (w : World) (hf : FlAt w f a) (hx : EvsAt w A n xs) (hcap : n ≤ c) (hpl : PlOk xs) :
    Calls Try.prog 6 #[.agg (f.cells a).toArray, .slice A n c] w fun r w' => r = .returned (.bool true) ∧ Bel w w' := by
  have hl := hx.1
  refine H_enter Try.func6 rfl Try.ntmps6 rfl ?_
  refine H_seq ?_
  refine R0 ?_
  refine X_box (v := .agg _) rfl rfl fun b2 => ?_
  refine xV (e_as (v := .bool _) (q0 rfl)) rfl rfl ?_
  refine XN ?_
  refine thenJ_normal ?_
  refine H_seq ?_
  refine H_seq ?_
  refine R0 ?_
  refine xV (eS Try.isAgg42 Try.sizeOf42 (q0 rfl)) rfl rfl ?_
  refine xV (e_mv (v := .slice _ _ _) (q0 rfl)) rfl rfl ?_
  refine xC (en Try.call22 (ha2 (q0 rfl) (q0 rfl))) (fun _ w _ => few_w f a A n c w) rfl rfl ?_
  refine xV (e_not (q0 rfl)) rfl rfl ?_
  refine XN ?_
  refine thenJ_normal ?_
  refine H_cond rfl (fun h0 => ?_) (fun h0 => ?_)
  · refine H_seq ?_
    refine R0 ?_
    refine xC (en Try.call10 (ha0)) (fun _ w _ => awake_w w) rfl rfl ?_
    refine xV (e_as (v := .bool _) (q0 rfl)) rfl rfl ?_
    refine XN ?_
    refine thenJ_normal ?_
    refine H_ret ?_
    refine thenJ_ret ?_
    exact ret1 (v := .bool _) rfl rfl rfl fun w' hw => ⟨rfl, hw.1⟩
  · have hn := few_n h0
    subst hl
    obtain ⟨T, hT0, hTn, hTs, hTt⟩ := backF (fun x : Ev => [x]) xs
    have hTl : ∀ d, d ≤ xs.length → (T d).length ≤ 40 := fun d hd => by
      rw [hTt, flatMap_len (m := 1) (fun _ => rfl), List.length_take, List.length_reverse]; omega
    have hTx : T xs.length = xs.reverse := by rw [hTn]; simp
    refine H_skip ?_
    refine thenJ_normal ?_
    refine H_seq ?_
    refine R0 ?_
    refine xV (e_as (v := .slice _ _ _) (q0 rfl)) rfl rfl ?_
    refine XN ?_
    refine thenJ_normal ?_
    refine H_seq ?_
    refine H_seq ?_
    refine R0 ?_
    refine xV (e_mv (v := .slice _ _ _) (q0 rfl)) rfl rfl ?_
    refine xV (e_len Try.underlying43 (q0 rfl)) rfl rfl ?_
    refine xV (e_sub (q0 rfl) (q0 rfl) (fun _ => ⟨rfl, by omega, by omega⟩)) rfl rfl ?_
    refine xV (e_as (v := .int _ _) (q0 rfl)) rfl rfl ?_
    refine XN ?_
    refine thenJ_normal ?_
    refine H_block ?_
    refine H_loop [5, 6, 19, 20, 21, 22, 23, 24, 25, 26, 27, 28, 29] (fun q : Nat × Option Addr × Nat => [(6, .int .i64 ((xs.length : Int) - 1 - q.1)), (5, .slice q.2.1 (T q.1).length q.2.2)]) (fun q => [evRow q.2.1 q.2.2 (T q.1), box b2 42 (f.cells a)]) (fun q => q.1 ≤ xs.length) (fun q => xs.length - q.1) (0, none, 0) ⟨by show Value.int .i64 ((xs.length : Int) - 1) = Value.int .i64 ((xs.length : Int) - 1 - 0); simp, by show _ = Value.slice none (T 0).length 0; rw [hT0]; rfl, trivial⟩ (fun w hw => by show Mem _ (evRow none 0 (T 0) :: _) w; rw [hT0]; exact hw.nilRow _ _ _ rfl) rfl (Nat.zero_le _) ?_
    rintro ⟨d, oA, oc⟩ g hd
    simp only at hd
    refine H_seq ?_
    refine H_seq ?_
    refine R0 ?_
    refine xV (e_mv (v := .int _ _) (q0 rfl)) rfl rfl ?_
    refine xV (e_ge (q0 rfl) (q0 rfl)) rfl rfl ?_
    refine XN ?_
    refine thenJ_normal ?_
    refine H_cond rfl (fun hlt => ?_) (fun hlt => ?_)
    · have hlt' : d < xs.length := by simp at hlt; omega
      obtain ⟨i, hi⟩ : ∃ i : Nat, i = xs.length - 1 - d := ⟨_, rfl⟩
      have hin : (xs.length : Int) - 1 - (d : Int) = (i : Int) := by omega
      obtain ⟨b, off, x, rfl, hbl, hxk, hrx⟩ := hx.at_ (i := i) (by omega)
      have hst := hTs d x hlt' (by rw [← hi]; exact hxk)
      have hll := hTl d (by omega)
      simp only [hin]
      refine H_skip ?_
      refine thenJ_normal ?_
      refine H_seq ?_
      refine H_block ?_
      refine R0 ?_
      refine xV (e_mv (v := .slice _ _ _) (q0 rfl)) rfl rfl ?_
      refine xV (e_mv (v := .slice _ _ _) (q0 rfl)) rfl rfl ?_
      refine xV (e_mv (v := .int _ _) (q0 rfl)) rfl rfl ?_
      refine xV (e_idx _ Try.underlying43 Try.sizeOf50 (q0 rfl) (q0 rfl) (fun _ => ⟨rfl, by omega⟩)) rfl rfl ?_
      refine xV (eS Try.isAgg50 Try.sizeOf50 (q0 rfl)) rfl rfl ?_
      refine X_push (k := 9) (i := Try.t50) 0 (x) Try.underlying43 (by kernel_rfl) rfl rfl rfl rfl Try.sizeOf50 Try.zeroValue50 rfl rfl rfl rfl rfl rfl ⟨by omega, by decide⟩ rfl rfl fun PB A1 c1 => ?_
      refine xV (e_as (v := .slice _ _ _) (q0 rfl)) rfl rfl ?_
      refine XN ?_
      refine blockJ_normal ?_
      refine thenJ_normal ?_
      refine R0 ?_
      refine xV (e_mv (v := .int _ _) (q0 rfl)) rfl rfl ?_
      refine xV (e_sub (q0 rfl) (q0 rfl) (fun _ => ⟨rfl, by omega, by omega⟩)) rfl rfl ?_
      refine xV (e_as (v := .int _ _) (q0 rfl)) rfl rfl ?_
      refine XN ?_
      exact loopJ_normal (d + 1, A1, c1) (by repeat (first | exact agree_self | exact agree_over | refine agree_upd rfl ?_ | refine agree_updL rfl ?_ | refine agree_over2 rfl ?_)) ⟨by show Value.int .i64 ((i : Int) - 1) = Value.int .i64 ((xs.length : Int) - 1 - ((d + 1 : Nat) : Int)); congr 1; omega, by show _ = Value.slice A1 (T (d + 1)).length c1; rw [hst]; rfl, trivial⟩ (fun w hw => by show Mem _ (evRow A1 c1 (T (d + 1)) :: _) w; rw [hst]; exact hw) rfl (by show d + 1 ≤ _; omega) (by show xs.length - (d + 1) < xs.length - d; omega)
    · have hend : d = xs.length := by simp at hlt; omega
      subst hend
      have hll := hTl xs.length (by omega)
      refine H_exit ?_
      refine thenJ_exit ?_
      refine loopJ_exit ?_
      refine blockJ_hit ?_
      refine thenJ_normal ?_
      refine H_seq ?_
      refine R0 ?_
      refine xV (e_mv (v := .slice _ _ _) (q0 rfl)) rfl rfl ?_
      refine xV (e_mv (v := .slice _ _ _) (q0 rfl)) rfl rfl ?_
      refine xV (e_mv (v := .slice _ _ _) (q0 rfl)) rfl rfl ?_
      refine xV (e_len Try.underlying43 (q0 rfl)) rfl rfl ?_
      refine xV (e_quo (q0 rfl) (q0 rfl) (fun _ => by omega)) rfl rfl ?_
      refine xV (e_slHi (xs.length / 2) Try.underlying43 Try.sizeOf50 (q0 rfl) (q0 rfl) (fun _ => ⟨by omega, by omega⟩)) rfl rfl ?_
      refine X_append (f_append (k := 9) (i := Try.t50) (enc := Ev.cells) 0 Try.underlying43 (by kernel_rfl) rfl rfl rfl rfl (fun _ => rfl) (fun _ => rfl) rfl rfl rfl (fun w hw => (hx.mem hw).take (i := xs.length / 2) (by omega)) ⟨by simp; omega, by decide⟩ rfl fun A1 c1 => ?_)
      obtain ⟨M, hM⟩ : ∃ M, M = T xs.length ++ xs.take (xs.length / 2) := ⟨_, rfl⟩
      have hMl : M.length ≤ 60 := by rw [hM, List.length_append, List.length_take]; omega
      have hMm : ∀ e, e ∈ M ↔ e ∈ xs := fun e => by
        rw [hM, hTx, List.mem_append, List.mem_reverse]
        exact ⟨fun h => h.elim id List.mem_of_mem_take, .inl⟩
      have hMp : PlOk M := fun e he => hpl e ((hMm e).1 he)
      have hset : setOf M = setOf xs := setOf_congr hMm
      have hr := story20 f hn
      have hl40 := all_len (f := f) xs
      have hsh : ∀ r ∈ allOf f xs, r.legs.length ≤ 100000 ∧ r.pauses.length ≤ 100000 := fun r hr => by have := short_of f hn r hr; omega
      have hr2 : (storyOf f M).rides.length ≤ 20 := by rw [storyOf_congr hset]; exact hr
      simp only [← hM]
      refine xV (e_as (v := .slice _ _ _) (q0 rfl)) rfl rfl ?_
      refine XN ?_
      refine thenJ_normal ?_
      refine H_seq ?_
      refine R0 ?_
      refine xV (eS Try.isAgg42 Try.sizeOf42 (q0 rfl)) rfl rfl ?_
      refine xV (e_mv (v := .slice _ _ _) (q0 rfl)) rfl rfl ?_
      refine xCX (en Try.call23 (ha2 (q0 rfl) (q0 rfl))) (fun w hw => all_w f a A _ c xs w (hf.mem hw) (hx.mem hw) (by omega) hpl hr) rfl (fun _ => rfl) fun x => ?_
      refine xV (e_mv (q0 rfl)) rfl rfl ?_
      refine xV (e_ext (q0 rfl) rfl) rfl rfl ?_
      refine xV (e_ext (q0 rfl) rfl) rfl rfl ?_
      refine xV (e_as (v := .slice _ _ _) (q0 rfl)) rfl rfl ?_
      refine xV (e_as (v := .int _ _) (q0 rfl)) rfl rfl ?_
      refine XN ?_
      refine thenJ_normal ?_
      refine H_seq ?_
      refine R0 ?_
      refine xV (eS Try.isAgg42 Try.sizeOf42 (q0 rfl)) rfl rfl ?_
      refine xV (e_mv (v := .slice _ _ _) (q0 rfl)) rfl rfl ?_
      refine xCX (en Try.call23 (ha2 (q0 rfl) (q0 rfl))) (fun w hw => all_w f a A1 _ c1 M w (hf.mem hw) (slAt_row hw (j := 2) rfl (fun _ => rfl) (by omega)) (by omega) hMp hr2) rfl (fun _ => rfl) fun y => ?_
      have hxy : x.1.2.2.map (·.r) = y.1.2.2.map (·.r) := by rw [x.2, y.2, allOf_congr hset]
      refine xV (e_mv (q0 rfl)) rfl rfl ?_
      refine xV (e_ext (q0 rfl) rfl) rfl rfl ?_
      refine xV (e_ext (q0 rfl) rfl) rfl rfl ?_
      refine xV (e_as (v := .slice _ _ _) (q0 rfl)) rfl rfl ?_
      refine xV (e_as (v := .int _ _) (q0 rfl)) rfl rfl ?_
      refine XN ?_
      refine thenJ_normal ?_
      refine H_seq ?_
      refine R0 ?_
      refine xV (e_mv (v := .int _ _) (q0 rfl)) rfl rfl ?_
      refine xV (e_mv (v := .int _ _) (q0 rfl)) rfl rfl ?_
      refine xV (e_eq (q0 rfl) (q0 rfl)) rfl rfl ?_
      refine xV (e_mv (v := .bool _) (q0 rfl)) rfl rfl ?_
      refine xVT (e_mv (v := .slice _ _ _) (q0 rfl)) rfl rfl rfl rfl ?_
      refine xVT (e_mv (v := .slice _ _ _) (q0 rfl)) rfl rfl rfl rfl ?_
      refine xCT (en Try.call17 (ha2 (q1 (v := .slice _ _ _) rfl) (q1 (v := .slice _ _ _) rfl))) (fun _ w hw => same_w x.1.1 y.1.1 _ _ x.1.2.1 y.1.2.1 x.1.2.2 y.1.2.2 w (rds_out x hw 2 3 rfl rfl (by omega) hsh) (rds_out y hw 0 1 rfl rfl (by rw [allOf_congr hset]; omega) (by rw [allOf_congr hset]; exact hsh))) rfl rfl rfl rfl ?_
      refine xV (e_and (q0 rfl) rfl (fun h => by first | rfl | (rw [h]; rfl))) rfl rfl ?_
      refine xV (e_mv (v := .bool _) (q0 rfl)) rfl rfl ?_
      refine xCT (en Try.call10 (ha0)) (fun _ w _ => awake_w w) rfl rfl rfl rfl ?_
      refine xV (e_and (q0 rfl) rfl (fun h => by first | rfl | (rw [h]; rfl))) rfl rfl ?_
      refine xV (e_as (v := .bool _) (q0 rfl)) rfl rfl ?_
      refine XN ?_
      refine thenJ_normal ?_
      refine H_ret ?_
      exact ret1 (v := .bool _) rfl rfl rfl fun w' hw => ⟨ret_bool (by simp [hxy]), hw.1⟩

end Go.Proofs.Rid

/-
  The readings of rides among the arguments; the reference's Find, Of, Final, Few.
-/
namespace Go.Proofs.Rid
open Go Go.RowKit Go.Proofs.E Go.Proofs.Cus Go.ChangeShapes Go.WideShapes Go.ChangeAt

theorem cellsBool : Try.prog.cellsOf 4 = 1 := by kernel_rfl
theorem cellsSpn : Try.prog.cellsOf 23 = 2 := by kernel_rfl
theorem cellsLg : Try.prog.cellsOf 52 = 5 := by kernel_rfl
theorem cellsPz : Try.prog.cellsOf 71 = 4 := by kernel_rfl
theorem cellsRd : Try.prog.cellsOf 27 = 13 := by kernel_rfl
theorem cellsLgs : Try.prog.cellsOf 24 = 1 := by kernel_rfl
theorem cellsPzs : Try.prog.cellsOf 25 = 1 := by kernel_rfl
section
variable {H : Type} {enc : TypeId × Value → H} {W : World} {sp : Nat → Bool} {held : Bool} {base : Nat} {v : Value} {d : DataW H} {ps : List MemPlace}
set_option maxRecDepth 100000 in
theorem rd_spn {fuel : Nat} {c0 c1 : Value} {x : DataW H × List MemPlace} (h : DataW.trod enc Try.prog W 0 sp held fuel 23 [c0, c1] = some x) : ∃ s : Spn, c0 = .int .i64 s.lo ∧ c1 = .int .i64 s.hi := by
  obtain ⟨_, _, h0⟩ := rd_field Try.underlying23 h 0 rfl cellsInt
  obtain ⟨_, _, h1⟩ := rd_field Try.underlying23 h 1 rfl cellsInt
  obtain ⟨m0, e0, _⟩ := rd_int Try.underlying3 h0
  obtain ⟨m1, e1, _⟩ := rd_int Try.underlying3 h1
  simp at e0 e1
  exact ⟨⟨m0, m1⟩, e0, e1⟩
set_option maxRecDepth 100000 in
theorem rd_lg {fuel : Nat} {cs : List Value} {x : DataW H × List MemPlace} (hl : cs.length = 5) (h : DataW.trod enc Try.prog W 0 sp held fuel 52 cs = some x) : ∃ g : Lg, g.cells = cs := by
  match cs, hl with
  | [c0, c1, c2, c3, c4], _ =>
    obtain ⟨_, _, h0⟩ := rd_field Try.underlying52 h 0 rfl cellsInt
    obtain ⟨_, _, h1⟩ := rd_field Try.underlying52 h 1 rfl cellsSpn
    obtain ⟨_, _, h2⟩ := rd_field Try.underlying52 h 2 rfl cellsSpn
    obtain ⟨m0, e0, _⟩ := rd_int Try.underlying3 h0
    obtain ⟨s1, e1, e2⟩ := rd_spn h1
    obtain ⟨s2, e3, e4⟩ := rd_spn h2
    simp at e0
    subst e0 e1 e2 e3 e4
    exact ⟨⟨m0, s1, s2⟩, rfl⟩
set_option maxRecDepth 100000 in
theorem rd_pz {fuel : Nat} {cs : List Value} {x : DataW H × List MemPlace} (hl : cs.length = 4) (h : DataW.trod enc Try.prog W 0 sp held fuel 71 cs = some x) : ∃ g : Pz, g.cells = cs := by
  match cs, hl with
  | [c1, c2, c3, c4], _ =>
    obtain ⟨_, _, h1⟩ := rd_field Try.underlying71 h 0 rfl cellsSpn
    obtain ⟨_, _, h2⟩ := rd_field Try.underlying71 h 1 rfl cellsSpn
    obtain ⟨s1, e1, e2⟩ := rd_spn h1
    obtain ⟨s2, e3, e4⟩ := rd_spn h2
    subst e1 e2 e3 e4
    exact ⟨⟨s1, s2⟩, rfl⟩
set_option maxRecDepth 100000 in
theorem rd_lgs {fuel : Nat} {cs : List Value} {x : DataW H × List MemPlace} (h : DataW.trod enc Try.prog W 0 sp held fuel 24 cs = some x) : ∃ A n c xs, cs = [.slice A n c] ∧ SlAt W 5 Lg.cells A n xs := by
  obtain ⟨A, n, c, xs, rfl, hs, _, _, hx⟩ := rd_rows Try.underlying24 cellsLg (by decide) h
  obtain ⟨ys, hy, _⟩ := hs.recode (enc := Lg.cells) (Q := fun _ => True) fun x hx' => by
    obtain ⟨hl, f, y, ht⟩ := hx x hx'
    obtain ⟨g, hg⟩ := rd_lg hl ht
    exact ⟨g, hg, trivial⟩
  exact ⟨A, n, c, ys, rfl, hy⟩
set_option maxRecDepth 100000 in
theorem rd_pzs {fuel : Nat} {cs : List Value} {x : DataW H × List MemPlace} (h : DataW.trod enc Try.prog W 0 sp held fuel 25 cs = some x) : ∃ A n c xs, cs = [.slice A n c] ∧ SlAt W 4 Pz.cells A n xs := by
  obtain ⟨A, n, c, xs, rfl, hs, _, _, hx⟩ := rd_rows Try.underlying25 cellsPz (by decide) h
  obtain ⟨ys, hy, _⟩ := hs.recode (enc := Pz.cells) (Q := fun _ => True) fun x hx' => by
    obtain ⟨hl, f, y, ht⟩ := hx x hx'
    obtain ⟨g, hg⟩ := rd_pz hl ht
    exact ⟨g, hg, trivial⟩
  exact ⟨A, n, c, ys, rfl, hy⟩
set_option maxRecDepth 100000 in
theorem rd_rd {fuel : Nat} {cs : List Value} {x : DataW H × List MemPlace} (hl : cs.length = 13) (h : DataW.trod enc Try.prog W 0 sp held fuel 27 cs = some x) : ∃ y : RX, y.cells = cs ∧ RdAt W y := by
  match cs, hl with
  | [c0, c1, c2, c3, c4, c5, c6, c7, c8, c9, c10, c11, c12], _ =>
    obtain ⟨_, _, h0⟩ := rd_field Try.underlying27 h 0 rfl cellsInt
    obtain ⟨_, _, h1⟩ := rd_field Try.underlying27 h 1 rfl cellsInt
    obtain ⟨_, _, h2⟩ := rd_field Try.underlying27 h 2 rfl cellsSpn
    obtain ⟨_, _, h3⟩ := rd_field Try.underlying27 h 3 rfl cellsSpn
    obtain ⟨_, _, h4⟩ := rd_field Try.underlying27 h 4 rfl cellsBool
    obtain ⟨_, _, h5⟩ := rd_field Try.underlying27 h 5 rfl cellsLgs
    obtain ⟨_, _, h6⟩ := rd_field Try.underlying27 h 6 rfl cellsPzs
    obtain ⟨_, _, h7⟩ := rd_field Try.underlying27 h 7 rfl cellsInt
    obtain ⟨_, _, h8⟩ := rd_field Try.underlying27 h 8 rfl cellsInt
    obtain ⟨_, _, h9⟩ := rd_field Try.underlying27 h 9 rfl cellsInt
    obtain ⟨_, _, h10⟩ := rd_field Try.underlying27 h 10 rfl cellsInt
    obtain ⟨m0, e0, _⟩ := rd_int Try.underlying3 h0
    obtain ⟨m1, e1, _⟩ := rd_int Try.underlying3 h1
    obtain ⟨s2, e2, e2'⟩ := rd_spn h2
    obtain ⟨s3, e3, e3'⟩ := rd_spn h3
    obtain ⟨m4, e4, _⟩ := DataW.trod_bool Try.underlying4 h4
    obtain ⟨lA, ln, lc, ll, e5, hlg⟩ := rd_lgs h5
    obtain ⟨pA, pn, pc, pl, e6, hpz⟩ := rd_pzs h6
    obtain ⟨m7, e7, _⟩ := rd_int Try.underlying3 h7
    obtain ⟨m8, e8, _⟩ := rd_int Try.underlying3 h8
    obtain ⟨m9, e9, _⟩ := rd_int Try.underlying3 h9
    obtain ⟨m10, e10, _⟩ := rd_int Try.underlying3 h10
    simp at e0 e1 e4 e5 e6 e7 e8 e9 e10
    have hln : ll.length = ln := hlg.1
    have hpn : pl.length = pn := hpz.1
    subst hln hpn
    subst e0 e1 e2 e2' e3 e3' e4 e5 e6 e7 e8 e9 e10
    exact ⟨⟨⟨m0, m1, s2, s3, m4, ll, pl, m7, m8, m9, m10⟩, ⟨lA, lc, pA, pc⟩⟩, rfl, hlg, hpz⟩
set_option maxRecDepth 100000 in
theorem open_rides (hv : Value.okWide Try.prog W .any base 32 v) (h : DataW.Trod enc Try.prog W 0 sp held 32 v d ps) : ∃ A n c xs, v = .slice A n c ∧ RdsAt W A n xs := by
  obtain ⟨a, l, c, rfl⟩ := okWide_slice Try.underlying32 hv
  obtain ⟨_, hf⟩ := h
  obtain ⟨A, n, c', xs, e, hs, _, _, hx⟩ := rd_rows Try.underlying32 cellsRd (by decide) hf
  obtain ⟨ys, hy, hq⟩ := hs.recode (enc := RX.cells) (Q := fun y => RdAt W y) fun x hx' => by
    obtain ⟨hl, f, y, ht⟩ := hx x hx'
    exact rd_rd hl ht
  simp [Value.cells] at e
  obtain ⟨rfl, rfl, rfl⟩ := e
  exact ⟨_, _, _, ys, rfl, hy, hq⟩
set_option maxRecDepth 100000 in
theorem open_ride (hv : Value.okWide Try.prog W .any base 27 v) (h : DataW.Trod enc Try.prog W 0 sp held 27 v d ps) : ∃ y : RX, v = .agg y.cells.toArray ∧ RdAt W y := by
  obtain ⟨cs, rfl, hsz⟩ := okWide_struct Try.underlying27 hv
  rw [cellsRd] at hsz
  obtain ⟨_, hf⟩ := h
  obtain ⟨l⟩ := cs
  obtain ⟨y, hy, hr⟩ := rd_rd (cs := l) (by simpa using hsz) (by simpa [Value.cells] using hf)
  exact ⟨y, by rw [hy], hr⟩
end

def fnd (id : Int) : List Rd → Nat → Int
  | [], _ => -1
  | r :: l, k => if r.id = id then (k : Int) else fnd id l (k + 1)
theorem fnd_nil (id : Int) (k : Nat) : fnd id [] k = -1 := rfl
theorem fnd_cons (id : Int) (r : Rd) (l : List Rd) (k : Nat) : fnd id (r :: l) k = if r.id = id then (k : Int) else fnd id l (k + 1) := rfl
theorem fnd_spec (id : Int) : ∀ (l : List Rd) (k : Nat), (fnd id l k = -1 ∧ findR l id = none) ∨ ∃ (i : Nat) (r : Rd), fnd id l k = ((k + i : Nat) : Int) ∧ l[i]? = some r ∧ findR l id = some r
  | [], k => .inl ⟨rfl, rfl⟩
  | r :: l, k => by
    unfold fnd findR
    by_cases h : r.id = id
    · rw [if_pos h]
      exact .inr ⟨0, r, rfl, rfl, List.find?_cons_of_pos (p := fun r : Rd => decide (r.id = id)) (by simpa using h)⟩
    · rw [if_neg h, List.find?_cons_of_neg (p := fun r : Rd => decide (r.id = id)) (by simpa using h)]
      rcases fnd_spec id l (k + 1) with ⟨h1, h2⟩ | ⟨i, q, h1, h2, h3⟩
      · exact .inl ⟨h1, h2⟩
      · exact .inr ⟨i + 1, q, by rw [h1]; congr 1; omega, by simpa using h2, h3⟩
theorem rfound_w (A : Option Addr) (n c : Nat) (xs : List RX) (id : Int) (w : World) (hx : RdsAt w A n xs) : Calls Try.prog 39 #[.slice A n c, .int .i64 id] w fun e w' => e = .returned (.int .i64 (fnd id (xs.map (·.r)) 0)) ∧ Bel w w' := by
  have hl := hx.1.1
  have hn := hx.1.2.1
  refine H_enter Try.func39 rfl Try.ntmps39 rfl ?_
  refine H_seq ?_
  refine R0 ?_
  refine xV (e_as (v := .int _ _) (q0 rfl)) rfl rfl ?_
  refine XN ?_
  refine thenJ_normal ?_
  refine H_seq ?_
  refine H_seq ?_
  refine R0 ?_
  refine xV (e_as (v := .int _ _) (q0 rfl)) rfl rfl ?_
  refine XN ?_
  refine thenJ_normal ?_
  refine H_block ?_
  refine H_loop [4, 5, 6, 7, 8, 9, 10, 11, 12, 13, 14, 15, 16, 17, 18, 19] (fun k : Nat => [(5, .int .i64 k)]) (fun _ => []) (fun k => k ≤ n ∧ fnd id (xs.map (·.r)) 0 = fnd id ((xs.map (·.r)).drop k) k) (fun k => n - k) 0 ⟨rfl, trivial⟩ (fun w hw => hw) rfl ⟨Nat.zero_le _, rfl⟩ ?_
  rintro k g ⟨hk, hall⟩
  refine H_seq ?_
  refine H_seq ?_
  refine R0 ?_
  refine xV (e_mv (v := .int _ _) (q0 rfl)) rfl rfl ?_
  refine xV (e_mv (v := .slice _ _ _) (q0 rfl)) rfl rfl ?_
  refine xV (e_len Try.underlying32 (q0 rfl)) rfl rfl ?_
  refine xV (e_lt (q0 rfl) (q0 rfl)) rfl rfl ?_
  refine XN ?_
  refine thenJ_normal ?_
  refine H_cond rfl (fun hlt => ?_) (fun hlt => ?_)
  · have hlt' : k < n := by simpa using hlt
    obtain ⟨b, off, y, rfl, hbl, hy, hry⟩ := hx.1.at_ hlt'
    rw [drop_of (l := xs.map (·.r)) (k := k) (x := y.r) (by simp [hy]), fnd_cons] at hall
    refine H_skip ?_
    refine thenJ_normal ?_
    refine H_seq ?_
    refine H_block ?_
    refine H_seq ?_
    refine R0 ?_
    refine xV (e_mv (v := .slice _ _ _) (q0 rfl)) rfl rfl ?_
    refine xV (e_mv (v := .int _ _) (q0 rfl)) rfl rfl ?_
    refine xV (e_idx _ Try.underlying32 Try.sizeOf27 (q0 rfl) (q0 rfl) (fun _ => ⟨rfl, by omega⟩)) rfl rfl ?_
    refine xV (e_fld Try.underlying27 rfl Try.sizeOf3 rfl (q0 rfl)) rfl rfl ?_
    refine xV (eL Try.isAgg3 (q0 rfl)) rfl rfl ?_
    refine xV (e_mv (v := .int _ _) (q0 rfl)) rfl rfl ?_
    refine xV (e_eq (q0 rfl) (q0 rfl)) rfl rfl ?_
    refine XN ?_
    refine thenJ_normal ?_
    refine H_cond rfl (fun hb => ?_) (fun hb => ?_)
    · have hb' : y.r.id = id := of_decide_eq_true hb
      rw [if_pos hb'] at hall
      refine H_seq ?_
      refine R0 ?_
      refine xV (e_mv (v := .int _ _) (q0 rfl)) rfl rfl ?_
      refine xV (e_as (v := .int _ _) (q0 rfl)) rfl rfl ?_
      refine XN ?_
      refine thenJ_normal ?_
      refine H_ret ?_
      refine blockJ_ret ?_
      refine thenJ_ret ?_
      refine loopJ_ret ?_
      refine blockJ_ret ?_
      refine thenJ_ret ?_
      exact ret1 (v := .int _ _) rfl rfl rfl fun w' hw => ⟨ret_int (by exact hall.symm), hw.1⟩
    · have hb' : ¬ y.r.id = id := of_decide_eq_false hb
      rw [if_neg hb'] at hall
      refine H_skip ?_
      refine blockJ_normal ?_
      refine thenJ_normal ?_
      refine R0 ?_
      refine xV (e_mv (v := .int _ _) (q0 rfl)) rfl rfl ?_
      refine xV (e_add (q0 rfl) (q0 rfl) (fun _ => ⟨rfl, by omega, by omega⟩)) rfl rfl ?_
      refine xV (e_as (v := .int _ _) (q0 rfl)) rfl rfl ?_
      refine XN ?_
      exact loopJ_normal (k + 1) (by repeat (first | exact agree_self | exact agree_over | refine agree_upd rfl ?_ | refine agree_updL rfl ?_ | refine agree_over2 rfl ?_)) ⟨rfl, trivial⟩ (fun w hw => hw) rfl ⟨by omega, hall⟩ (by show n - (k + 1) < n - k; omega)
  · have hend : k = n := by simp at hlt; omega
    rw [List.drop_of_length_le (by simp; omega), fnd_nil] at hall
    rw [hall]
    refine H_exit ?_
    refine thenJ_exit ?_
    refine loopJ_exit ?_
    refine blockJ_hit ?_
    refine thenJ_normal ?_
    refine H_seq ?_
    refine R0 ?_
    refine xV (e_as (v := .int _ _) (q0 rfl)) rfl rfl ?_
    refine XN ?_
    refine thenJ_normal ?_
    refine H_ret ?_
    exact ret1 (v := .int _ _) rfl rfl rfl fun w' hw => ⟨rfl, hw.1⟩
abbrev FndOut (w : World) (xs : List RX) (id : Int) : Type := { y : RX // y.r = (findR (xs.map (·.r)) id).getD zRd ∧ RdAt w y }
set_option maxRecDepth 20000 in
theorem rfind_w (A : Option Addr) (n c : Nat) (xs : List RX) (id : Int) {w0 : World} {L : List E.Item} (w : World) (hx0 : RdsAt w0 A n xs) (hm : Mem w0 L w) : Calls Try.prog 15 #[.slice A n c, .int .i64 id] w fun e w' => ∃ y : FndOut w0 xs id, e = .returned (.tuple #[.agg y.1.cells.toArray, .bool (findR (xs.map (·.r)) id).isSome]) ∧ Mem w [] w' := by
  have hx := hx0.mem hm
  have hl := hx.1.1
  have hn := hx.1.2.1
  refine H_enter Try.func15 rfl Try.ntmps15 rfl ?_
  refine H_seq ?_
  refine R0 ?_
  refine X_alloc Try.zeroValue27 rfl fun b4 => ?_
  refine xV (e_as (v := .bool _) (q0 rfl)) rfl rfl ?_
  refine XN ?_
  refine thenJ_normal ?_
  refine H_seq ?_
  refine R0 ?_
  refine xV (e_mv (v := .slice _ _ _) (q0 rfl)) rfl rfl ?_
  refine xV (e_mv (v := .int _ _) (q0 rfl)) rfl rfl ?_
  refine xC (en Try.call39 (ha2 (q0 rfl) (q0 rfl))) (fun _ w hw => rfound_w A n c xs id w (hx.mem hw)) rfl rfl ?_
  refine xV (e_as (v := .int _ _) (q0 rfl)) rfl rfl ?_
  refine XN ?_
  refine thenJ_normal ?_
  refine H_seq ?_
  refine H_seq ?_
  rcases fnd_spec id (xs.map (·.r)) 0 with ⟨h1, h2⟩ | ⟨i, r, h1, h2, h3⟩
  · have hv : Value.bool false = Value.bool (findR (xs.map (·.r)) id).isSome := by rw [h2]; rfl
    rw [h1]
    refine R0 ?_
    refine xV (e_mv (v := .int _ _) (q0 rfl)) rfl rfl ?_
    refine xV (e_lt (q0 rfl) (q0 rfl)) rfl rfl ?_
    refine XN ?_
    refine thenJ_normal ?_
    refine H_cond rfl (fun hb => ?_) (fun hb => ?_)
    · refine H_seq ?_
      refine R0 ?_
      refine xV (e_build Try.underlying27 fl27 Try.zeroValue27 E.p0 rfl) rfl rfl ?_
      refine X_st (v := .agg _) rfl rfl Try.sizeOf27 ?_
      refine xV (e_as (v := .bool _) (q0 rfl)) rfl rfl ?_
      refine XN ?_
      refine thenJ_normal ?_
      refine H_ret ?_
      refine thenJ_ret ?_
      exact ret_of rfl (resc2 0 rfl rfl rfl Try.isAgg27 Try.sizeOf27 rfl rfl) fun w' hw => ⟨⟨⟨zRd, zPl⟩, by rw [h2]; rfl, ⟨nil_at _, nil_at _⟩⟩, congrArg (fun u => Ending.returned (.tuple #[.agg (RX.cells ⟨zRd, zPl⟩).toArray, u])) hv, mem_nil.2 hw.1⟩
    · exact absurd hb (by decide)
  · have hv : Value.bool true = Value.bool (findR (xs.map (·.r)) id).isSome := by rw [h3]; rfl
    rw [h1]
    have hi : i < n := by
      have := (List.getElem?_eq_some_iff.1 h2).1
      simp at this
      omega
    obtain ⟨b, off, y, rfl, hbl, hy, hry⟩ := hx.1.at_ hi
    have hyr : y.r = r := by
      rw [List.getElem?_map, hy] at h2
      simpa using h2
    have hya := hx0.2 y (List.mem_of_getElem? hy)
    rw [Nat.zero_add]
    refine R0 ?_
    refine xV (e_mv (v := .int _ _) (q0 rfl)) rfl rfl ?_
    refine xV (e_lt (q0 rfl) (q0 rfl)) rfl rfl ?_
    refine XN ?_
    refine thenJ_normal ?_
    refine H_cond rfl (fun hb => ?_) (fun hb => ?_)
    · exfalso; simp at hb; omega
    · refine H_skip ?_
      refine thenJ_normal ?_
      refine H_seq ?_
      refine R0 ?_
      refine xV (e_mv (v := .slice _ _ _) (q0 rfl)) rfl rfl ?_
      refine xV (e_mv (v := .int _ _) (q0 rfl)) rfl rfl ?_
      refine xV (e_idx _ Try.underlying32 Try.sizeOf27 (q0 rfl) (q0 rfl) (fun _ => ⟨rfl, by omega⟩)) rfl rfl ?_
      refine xV (eS Try.isAgg27 Try.sizeOf27 (q0 rfl)) rfl rfl ?_
      refine X_st (v := .agg _) rfl rfl Try.sizeOf27 ?_
      refine xV (e_as (v := .bool _) (q0 rfl)) rfl rfl ?_
      refine XN ?_
      refine thenJ_normal ?_
      refine H_ret ?_
      exact ret_of rfl (resc2 0 rfl rfl rfl Try.isAgg27 Try.sizeOf27 rfl rfl) fun w' hw => ⟨⟨y, by rw [h3]; exact hyr, hya⟩, congrArg (fun u => Ending.returned (.tuple #[.agg (RX.cells y).toArray, u])) hv, mem_nil.2 hw.1⟩
theorem take_filt {p : Rd → Bool} {xs : List RX} {k : Nat} {y : RX} (h : xs[k]? = some y) : (xs.take (k + 1)).filter (fun x => p x.r) = (xs.take k).filter (fun x => p x.r) ++ if p y.r = true then [y] else [] := by
  rw [take_snoc _ _ _ h, List.filter_append, List.filter_cons, List.filter_nil]
theorem filt_map (p : Rd → Bool) (xs : List RX) : (xs.filter fun x => p x.r).map (·.r) = (xs.map (·.r)).filter p := by
  rw [List.filter_map]; rfl
set_option maxRecDepth 20000 in
theorem rof_w (A : Option Addr) (n c : Nat) (xs : List RX) (rider : Int) (w : World) (hx : RdsAt w A n xs) (hn1 : n ≤ 100000) : Calls Try.prog 19 #[.slice A n c, .int .i64 rider] w fun e w' => ∃ z : Option Addr × Nat, e = .returned (.slice z.1 (xs.filter fun x => decide (x.r.rider = rider)).length z.2) ∧ Mem w [rdRow z.1 z.2 (xs.filter fun x => decide (x.r.rider = rider))] w' := by
  have hl := hx.1.1
  have hn := hx.1.2.1
  obtain ⟨F, hF⟩ : ∃ F : Nat → List RX, ∀ k, F k = (xs.take k).filter fun x => decide (x.r.rider = rider) := ⟨_, fun _ => rfl⟩
  have hF0 : F 0 = [] := by rw [hF]; rfl
  have hFn : F n = xs.filter fun x => decide (x.r.rider = rider) := by rw [hF, List.take_of_length_le (by omega)]
  have hFs : ∀ k y, xs[k]? = some y → F (k + 1) = F k ++ if decide (y.r.rider = rider) = true then [y] else [] := fun k y h => by
    rw [hF, hF]; exact take_filt (p := fun r => decide (r.rider = rider)) h
  have hFl : ∀ k, (F k).length ≤ xs.length := fun k => by
    rw [hF]; exact Nat.le_trans (List.length_filter_le _ _) (List.length_take_le' _ _)
  rw [← hFn]
  refine H_enter Try.func19 rfl Try.ntmps19 rfl ?_
  refine H_seq ?_
  refine R0 ?_
  refine xV (e_as (v := .slice _ _ _) (q0 rfl)) rfl rfl ?_
  refine XN ?_
  refine thenJ_normal ?_
  refine H_seq ?_
  refine R0 ?_
  refine xV (e_as (v := .slice _ _ _) (q0 rfl)) rfl rfl ?_
  refine XN ?_
  refine thenJ_normal ?_
  refine H_seq ?_
  refine H_seq ?_
  refine R0 ?_
  refine xV (e_as (v := .int _ _) (q0 rfl)) rfl rfl ?_
  refine XN ?_
  refine thenJ_normal ?_
  refine H_block ?_
  refine H_loop [5, 6, 7, 8, 9, 10, 11, 12, 13, 14, 15, 16, 17, 18, 19, 20, 21, 22, 23, 24, 25, 26] (fun q : Nat × Option Addr × Nat => [(6, .int .i64 q.1), (5, .slice q.2.1 (F q.1).length q.2.2)]) (fun q => [rdRow q.2.1 q.2.2 (F q.1)]) (fun q => q.1 ≤ n) (fun q => n - q.1) (0, none, 0) ⟨rfl, by show _ = Value.slice none (F 0).length 0; rw [hF0]; rfl, trivial⟩ (fun w hw => by show Mem _ [rdRow none 0 (F 0)] w; rw [hF0]; exact (mem_nil.2 hw.1).nilRow _ _ _ rfl) rfl (Nat.zero_le _) ?_
  rintro ⟨k, oA, oc⟩ g hk
  simp only at hk
  refine H_seq ?_
  refine H_seq ?_
  refine R0 ?_
  refine xV (e_mv (v := .int _ _) (q0 rfl)) rfl rfl ?_
  refine xV (e_mv (v := .slice _ _ _) (q0 rfl)) rfl rfl ?_
  refine xV (e_len Try.underlying32 (q0 rfl)) rfl rfl ?_
  refine xV (e_lt (q0 rfl) (q0 rfl)) rfl rfl ?_
  refine XN ?_
  refine thenJ_normal ?_
  refine H_cond rfl (fun hlt => ?_) (fun hlt => ?_)
  · have hlt' : k < n := by simpa using hlt
    obtain ⟨b, off, y, rfl, hbl, hy, hry⟩ := hx.1.at_ hlt'
    have hst := hFs k y hy
    have hll := hFl k
    refine H_skip ?_
    refine thenJ_normal ?_
    refine H_seq ?_
    refine H_block ?_
    refine H_seq ?_
    refine R0 ?_
    refine xV (e_mv (v := .slice _ _ _) (q0 rfl)) rfl rfl ?_
    refine xV (e_mv (v := .int _ _) (q0 rfl)) rfl rfl ?_
    refine xV (e_idx _ Try.underlying32 Try.sizeOf27 (q0 rfl) (q0 rfl) (fun _ => ⟨rfl, by omega⟩)) rfl rfl ?_
    refine xV (e_fld Try.underlying27 rfl Try.sizeOf3 rfl (q0 rfl)) rfl rfl ?_
    refine xV (eL Try.isAgg3 (q0 rfl)) rfl rfl ?_
    refine xV (e_mv (v := .int _ _) (q0 rfl)) rfl rfl ?_
    refine xV (e_eq (q0 rfl) (q0 rfl)) rfl rfl ?_
    refine XN ?_
    refine thenJ_normal ?_
    refine H_cond rfl (fun hb => ?_) (fun hb => ?_)
    · rw [if_pos hb] at hst
      refine R0 ?_
      refine xV (e_mv (v := .slice _ _ _) (q0 rfl)) rfl rfl ?_
      refine xV (e_mv (v := .slice _ _ _) (q0 rfl)) rfl rfl ?_
      refine xV (e_mv (v := .int _ _) (q0 rfl)) rfl rfl ?_
      refine xV (e_idx _ Try.underlying32 Try.sizeOf27 (q0 rfl) (q0 rfl) (fun _ => ⟨rfl, by omega⟩)) rfl rfl ?_
      refine xV (eS Try.isAgg27 Try.sizeOf27 (q0 rfl)) rfl rfl ?_
      refine X_push (k := 13) (i := Try.t27) 0 (y) Try.underlying32 (by kernel_rfl) rfl rfl rfl rfl Try.sizeOf27 Try.zeroValue27 rfl rfl rfl rfl rfl rfl ⟨by simp only; omega, by decide⟩ rfl rfl fun PB A1 c1 => ?_
      refine xV (e_as (v := .slice _ _ _) (q0 rfl)) rfl rfl ?_
      refine XN ?_
      refine blockJ_normal ?_
      refine thenJ_normal ?_
      refine R0 ?_
      refine xV (e_mv (v := .int _ _) (q0 rfl)) rfl rfl ?_
      refine xV (e_add (q0 rfl) (q0 rfl) (fun _ => ⟨rfl, by omega, by omega⟩)) rfl rfl ?_
      refine xV (e_as (v := .int _ _) (q0 rfl)) rfl rfl ?_
      refine XN ?_
      exact loopJ_normal (k + 1, A1, c1) (by repeat (first | exact agree_self | exact agree_over | refine agree_upd rfl ?_ | refine agree_updL rfl ?_ | refine agree_over2 rfl ?_)) ⟨rfl, by show _ = Value.slice A1 (F (k + 1)).length c1; rw [hst]; rfl, trivial⟩ (fun w hw => by show Mem _ [rdRow A1 c1 (F (k + 1))] w; rw [hst]; exact hw) rfl (by show k + 1 ≤ _; omega) (by show n - (k + 1) < n - k; omega)
    · rw [if_neg (by rw [show decide (y.r.rider = rider) = false from hb]; decide), List.append_nil] at hst
      refine H_skip ?_
      refine blockJ_normal ?_
      refine thenJ_normal ?_
      refine R0 ?_
      refine xV (e_mv (v := .int _ _) (q0 rfl)) rfl rfl ?_
      refine xV (e_add (q0 rfl) (q0 rfl) (fun _ => ⟨rfl, by omega, by omega⟩)) rfl rfl ?_
      refine xV (e_as (v := .int _ _) (q0 rfl)) rfl rfl ?_
      refine XN ?_
      exact loopJ_normal (k + 1, oA, oc) (by repeat (first | exact agree_self | exact agree_over | refine agree_upd rfl ?_ | refine agree_updL rfl ?_ | refine agree_over2 rfl ?_)) ⟨rfl, by show _ = Value.slice oA (F (k + 1)).length oc; rw [hst]; rfl, trivial⟩ (fun w hw => by show Mem _ [rdRow oA oc (F (k + 1))] w; rw [hst]; exact hw) rfl (by show k + 1 ≤ _; omega) (by show n - (k + 1) < n - k; omega)
  · have hend : k = n := by simp at hlt; omega
    subst hend
    refine H_exit ?_
    refine thenJ_exit ?_
    refine loopJ_exit ?_
    refine blockJ_hit ?_
    refine thenJ_normal ?_
    refine H_seq ?_
    refine R0 ?_
    refine xV (e_mv (v := .slice _ _ _) (q0 rfl)) rfl rfl ?_
    refine xV (e_as (v := .slice _ _ _) (q0 rfl)) rfl rfl ?_
    refine XN ?_
    refine thenJ_normal ?_
    refine H_ret ?_
    exact ret1 (v := .slice _ _ _) rfl rfl rfl fun w' hw => ⟨(oA, oc), rfl, hw⟩
set_option maxRecDepth 20000 in
theorem rfinal_w (A : Option Addr) (n c : Nat) (xs : List RX) (h : Int) (w : World) (hx : RdsAt w A n xs) (hn1 : n ≤ 100000) : Calls Try.prog 21 #[.slice A n c, .int .i64 h] w fun e w' => ∃ z : Option Addr × Nat, e = .returned (.slice z.1 (xs.filter fun x => finalP h x.r).length z.2) ∧ Mem w [rdRow z.1 z.2 (xs.filter fun x => finalP h x.r)] w' := by
  have hl := hx.1.1
  have hn := hx.1.2.1
  obtain ⟨F, hF⟩ : ∃ F : Nat → List RX, ∀ k, F k = (xs.take k).filter fun x => finalP h x.r := ⟨_, fun _ => rfl⟩
  have hF0 : F 0 = [] := by rw [hF]; rfl
  have hFn : F n = xs.filter fun x => finalP h x.r := by rw [hF, List.take_of_length_le (by omega)]
  have hFs : ∀ k y, xs[k]? = some y → F (k + 1) = F k ++ if finalP h y.r = true then [y] else [] := fun k y h => by
    rw [hF, hF]; exact take_filt h
  have hFl : ∀ k, (F k).length ≤ xs.length := fun k => by
    rw [hF]; exact Nat.le_trans (List.length_filter_le _ _) (List.length_take_le' _ _)
  rw [← hFn]
  refine H_enter Try.func21 rfl Try.ntmps21 rfl ?_
  refine H_seq ?_
  refine R0 ?_
  refine xV (e_as (v := .slice _ _ _) (q0 rfl)) rfl rfl ?_
  refine XN ?_
  refine thenJ_normal ?_
  refine H_seq ?_
  refine R0 ?_
  refine xV (e_as (v := .slice _ _ _) (q0 rfl)) rfl rfl ?_
  refine XN ?_
  refine thenJ_normal ?_
  refine H_seq ?_
  refine H_seq ?_
  refine R0 ?_
  refine xV (e_as (v := .int _ _) (q0 rfl)) rfl rfl ?_
  refine XN ?_
  refine thenJ_normal ?_
  refine H_block ?_
  refine H_loop [5, 6, 7, 8, 9, 10, 11, 12, 13, 14, 15, 16, 17, 18, 19, 20, 21, 22, 23, 24, 25, 26, 27, 28, 29, 30, 31, 32, 33, 34, 35] (fun q : Nat × Option Addr × Nat => [(6, .int .i64 q.1), (5, .slice q.2.1 (F q.1).length q.2.2)]) (fun q => [rdRow q.2.1 q.2.2 (F q.1)]) (fun q => q.1 ≤ n) (fun q => n - q.1) (0, none, 0) ⟨rfl, by show _ = Value.slice none (F 0).length 0; rw [hF0]; rfl, trivial⟩ (fun w hw => by show Mem _ [rdRow none 0 (F 0)] w; rw [hF0]; exact (mem_nil.2 hw.1).nilRow _ _ _ rfl) rfl (Nat.zero_le _) ?_
  rintro ⟨k, oA, oc⟩ g hk
  simp only at hk
  refine H_seq ?_
  refine H_seq ?_
  refine R0 ?_
  refine xV (e_mv (v := .int _ _) (q0 rfl)) rfl rfl ?_
  refine xV (e_mv (v := .slice _ _ _) (q0 rfl)) rfl rfl ?_
  refine xV (e_len Try.underlying32 (q0 rfl)) rfl rfl ?_
  refine xV (e_lt (q0 rfl) (q0 rfl)) rfl rfl ?_
  refine XN ?_
  refine thenJ_normal ?_
  refine H_cond rfl (fun hlt => ?_) (fun hlt => ?_)
  · have hlt' : k < n := by simpa using hlt
    obtain ⟨b, off, y, rfl, hbl, hy, hry⟩ := hx.1.at_ hlt'
    have hst := hFs k y hy
    have hll := hFl k
    refine H_skip ?_
    refine thenJ_normal ?_
    refine H_seq ?_
    refine H_block ?_
    refine H_seq ?_
    refine R0 ?_
    refine xV (e_mv (v := .slice _ _ _) (q0 rfl)) rfl rfl ?_
    refine xV (e_mv (v := .int _ _) (q0 rfl)) rfl rfl ?_
    refine xV (e_idx _ Try.underlying32 Try.sizeOf27 (q0 rfl) (q0 rfl) (fun _ => ⟨rfl, by omega⟩)) rfl rfl ?_
    refine xV (e_fld Try.underlying27 rfl Try.sizeOf4 rfl (q0 rfl)) rfl rfl ?_
    refine xV (eL Try.isAgg4 (q0 rfl)) rfl rfl ?_
    refine xV (e_not (q0 rfl)) rfl rfl ?_
    refine xV (e_mv (v := .bool _) (q0 rfl)) rfl rfl ?_
    refine xVT (e_mv (v := .slice _ _ _) (q0 rfl)) rfl rfl rfl rfl ?_
    refine xVT (e_mv (v := .int _ _) (q0 rfl)) rfl rfl rfl rfl ?_
    refine xVT (e_idx _ Try.underlying32 Try.sizeOf27 (q1 rfl) (q1 rfl) (fun _ => ⟨rfl, by omega⟩)) rfl rfl rfl rfl ?_
    refine xVT (e_fld Try.underlying27 rfl Try.sizeOf23 rfl (q1 rfl)) rfl rfl rfl rfl ?_
    refine xVT (e_fld Try.underlying23 rfl Try.sizeOf3 rfl (q1 rfl)) rfl rfl rfl rfl ?_
    refine xVT (e_ld (v := .int .i64 y.r.end_.lo) Try.isAgg3 (q1 rfl) (by exact rc (j := 4) hry hbl rfl)) rfl rfl rfl rfl ?_
    refine xVT (e_mv (v := .int _ _) (q0 rfl)) rfl rfl rfl rfl ?_
    refine xVT (e_lt (q1 rfl) (q1 rfl)) rfl rfl rfl rfl ?_
    refine xV (e_and (q0 rfl) rfl (fun h => by first | rfl | (rw [h]; rfl))) rfl rfl ?_
    refine XN ?_
    refine thenJ_normal ?_
    refine H_cond rfl (fun hb => ?_) (fun hb => ?_)
    · rw [if_pos (show finalP h y.r = true from hb)] at hst
      refine R0 ?_
      refine xV (e_mv (v := .slice _ _ _) (q0 rfl)) rfl rfl ?_
      refine xV (e_mv (v := .slice _ _ _) (q0 rfl)) rfl rfl ?_
      refine xV (e_mv (v := .int _ _) (q0 rfl)) rfl rfl ?_
      refine xV (e_idx _ Try.underlying32 Try.sizeOf27 (q0 rfl) (q0 rfl) (fun _ => ⟨rfl, by omega⟩)) rfl rfl ?_
      refine xV (eS Try.isAgg27 Try.sizeOf27 (q0 rfl)) rfl rfl ?_
      refine X_push (k := 13) (i := Try.t27) 0 (y) Try.underlying32 (by kernel_rfl) rfl rfl rfl rfl Try.sizeOf27 Try.zeroValue27 rfl rfl rfl rfl rfl rfl ⟨by simp only; omega, by decide⟩ rfl rfl fun PB A1 c1 => ?_
      refine xV (e_as (v := .slice _ _ _) (q0 rfl)) rfl rfl ?_
      refine XN ?_
      refine blockJ_normal ?_
      refine thenJ_normal ?_
      refine R0 ?_
      refine xV (e_mv (v := .int _ _) (q0 rfl)) rfl rfl ?_
      refine xV (e_add (q0 rfl) (q0 rfl) (fun _ => ⟨rfl, by omega, by omega⟩)) rfl rfl ?_
      refine xV (e_as (v := .int _ _) (q0 rfl)) rfl rfl ?_
      refine XN ?_
      exact loopJ_normal (k + 1, A1, c1) (by repeat (first | exact agree_self | exact agree_over | refine agree_upd rfl ?_ | refine agree_updL rfl ?_ | refine agree_over2 rfl ?_)) ⟨rfl, by show _ = Value.slice A1 (F (k + 1)).length c1; rw [hst]; rfl, trivial⟩ (fun w hw => by show Mem _ [rdRow A1 c1 (F (k + 1))] w; rw [hst]; exact hw) rfl (by show k + 1 ≤ _; omega) (by show n - (k + 1) < n - k; omega)
    · rw [if_neg (by rw [show finalP h y.r = false from hb]; decide), List.append_nil] at hst
      refine H_skip ?_
      refine blockJ_normal ?_
      refine thenJ_normal ?_
      refine R0 ?_
      refine xV (e_mv (v := .int _ _) (q0 rfl)) rfl rfl ?_
      refine xV (e_add (q0 rfl) (q0 rfl) (fun _ => ⟨rfl, by omega, by omega⟩)) rfl rfl ?_
      refine xV (e_as (v := .int _ _) (q0 rfl)) rfl rfl ?_
      refine XN ?_
      exact loopJ_normal (k + 1, oA, oc) (by repeat (first | exact agree_self | exact agree_over | refine agree_upd rfl ?_ | refine agree_updL rfl ?_ | refine agree_over2 rfl ?_)) ⟨rfl, by show _ = Value.slice oA (F (k + 1)).length oc; rw [hst]; rfl, trivial⟩ (fun w hw => by show Mem _ [rdRow oA oc (F (k + 1))] w; rw [hst]; exact hw) rfl (by show k + 1 ≤ _; omega) (by show n - (k + 1) < n - k; omega)
  · have hend : k = n := by simp at hlt; omega
    subst hend
    refine H_exit ?_
    refine thenJ_exit ?_
    refine loopJ_exit ?_
    refine blockJ_hit ?_
    refine thenJ_normal ?_
    refine H_seq ?_
    refine R0 ?_
    refine xV (e_mv (v := .slice _ _ _) (q0 rfl)) rfl rfl ?_
    refine xV (e_as (v := .slice _ _ _) (q0 rfl)) rfl rfl ?_
    refine XN ?_
    refine thenJ_normal ?_
    refine H_ret ?_
    exact ret1 (v := .slice _ _ _) rfl rfl rfl fun w' hw => ⟨(oA, oc), rfl, hw⟩
def longP (r : Rd) : Bool := decide ((40 : Int) < r.legs.length) || decide ((40 : Int) < r.pauses.length)
def rdFew (l : List Rd) (most : Int) : Bool := !l.any longP && decide ((l.length : Int) ≤ most)
theorem rdsFew_w (A : Option Addr) (n c : Nat) (xs : List RX) (most : Int) (w : World) (hx : RdsAt w A n xs) : Calls Try.prog 13 #[.slice A n c, .int .i64 most] w fun e w' => e = .returned (.bool (rdFew (xs.map (·.r)) most)) ∧ Bel w w' := by
  have hl := hx.1.1
  have hn := hx.1.2.1
  refine H_enter Try.func13 rfl Try.ntmps13 rfl ?_
  refine H_seq ?_
  refine R0 ?_
  refine xV (e_as (v := .bool _) (q0 rfl)) rfl rfl ?_
  refine XN ?_
  refine thenJ_normal ?_
  refine H_seq ?_
  refine H_seq ?_
  refine R0 ?_
  refine xV (e_as (v := .int _ _) (q0 rfl)) rfl rfl ?_
  refine XN ?_
  refine thenJ_normal ?_
  refine H_block ?_
  refine H_loop [4, 5, 6, 7, 8, 9, 10, 11, 12, 13, 14, 15, 16, 17, 18, 19, 20, 21, 22, 23, 24, 25, 26, 27] (fun k : Nat => [(5, .int .i64 k)]) (fun _ => []) (fun k => k ≤ n ∧ (xs.map (·.r)).any longP = ((xs.map (·.r)).drop k).any longP) (fun k => n - k) 0 ⟨rfl, trivial⟩ (fun w hw => hw) rfl ⟨Nat.zero_le _, rfl⟩ ?_
  rintro k g ⟨hk, hall⟩
  refine H_seq ?_
  refine H_seq ?_
  refine R0 ?_
  refine xV (e_mv (v := .int _ _) (q0 rfl)) rfl rfl ?_
  refine xV (e_mv (v := .slice _ _ _) (q0 rfl)) rfl rfl ?_
  refine xV (e_len Try.underlying32 (q0 rfl)) rfl rfl ?_
  refine xV (e_lt (q0 rfl) (q0 rfl)) rfl rfl ?_
  refine XN ?_
  refine thenJ_normal ?_
  refine H_cond rfl (fun hlt => ?_) (fun hlt => ?_)
  · have hlt' : k < n := by simpa using hlt
    obtain ⟨b, off, y, rfl, hbl, hy, hry⟩ := hx.1.at_ hlt'
    rw [drop_of (l := xs.map (·.r)) (k := k) (x := y.r) (by simp [hy]), List.any_cons] at hall
    refine H_skip ?_
    refine thenJ_normal ?_
    refine H_seq ?_
    refine H_block ?_
    refine H_seq ?_
    refine R0 ?_
    refine xV (e_mv (v := .slice _ _ _) (q0 rfl)) rfl rfl ?_
    refine xV (e_mv (v := .int _ _) (q0 rfl)) rfl rfl ?_
    refine xV (e_idx _ Try.underlying32 Try.sizeOf27 (q0 rfl) (q0 rfl) (fun _ => ⟨rfl, by omega⟩)) rfl rfl ?_
    refine xV (e_fld Try.underlying27 rfl Try.sizeOf24 rfl (q0 rfl)) rfl rfl ?_
    refine xV (eL Try.isAgg24 (q0 rfl)) rfl rfl ?_
    refine xV (e_len Try.underlying24 (q0 rfl)) rfl rfl ?_
    refine xV (e_gt (q0 rfl) (q0 rfl)) rfl rfl ?_
    refine xV (e_mv (v := .bool _) (q0 rfl)) rfl rfl ?_
    refine xVF (e_mv (v := .slice _ _ _) (q0 rfl)) rfl rfl rfl rfl ?_
    refine xVF (e_mv (v := .int _ _) (q0 rfl)) rfl rfl rfl rfl ?_
    refine xVF (e_idx _ Try.underlying32 Try.sizeOf27 (q1 rfl) (q1 rfl) (fun _ => ⟨rfl, by omega⟩)) rfl rfl rfl rfl ?_
    refine xVF (e_fld Try.underlying27 rfl Try.sizeOf25 rfl (q1 rfl)) rfl rfl rfl rfl ?_
    refine xVF (eL Try.isAgg25 (q1 rfl)) rfl rfl rfl rfl ?_
    refine xVF (e_len Try.underlying25 (q1 rfl)) rfl rfl rfl rfl ?_
    refine xVF (e_gt (q1 rfl) (q0 rfl)) rfl rfl rfl rfl ?_
    refine xV (e_or (q0 rfl) rfl (fun h => by first | rfl | (rw [h]; rfl))) rfl rfl ?_
    refine XN ?_
    refine thenJ_normal ?_
    refine H_cond rfl (fun hb => ?_) (fun hb => ?_)
    · rw [show longP y.r = true from hb, Bool.true_or] at hall
      refine H_seq ?_
      refine R0 ?_
      refine xV (e_as (v := .bool _) (q0 rfl)) rfl rfl ?_
      refine XN ?_
      refine thenJ_normal ?_
      refine H_ret ?_
      refine blockJ_ret ?_
      refine thenJ_ret ?_
      refine loopJ_ret ?_
      refine blockJ_ret ?_
      refine thenJ_ret ?_
      exact ret1 (v := .bool _) rfl rfl rfl fun w' hw => ⟨ret_bool (by unfold rdFew; rw [hall]; rfl), hw.1⟩
    · rw [show longP y.r = false from hb, Bool.false_or] at hall
      refine H_skip ?_
      refine blockJ_normal ?_
      refine thenJ_normal ?_
      refine R0 ?_
      refine xV (e_mv (v := .int _ _) (q0 rfl)) rfl rfl ?_
      refine xV (e_add (q0 rfl) (q0 rfl) (fun _ => ⟨rfl, by omega, by omega⟩)) rfl rfl ?_
      refine xV (e_as (v := .int _ _) (q0 rfl)) rfl rfl ?_
      refine XN ?_
      exact loopJ_normal (k + 1) (by repeat (first | exact agree_self | exact agree_over | refine agree_upd rfl ?_ | refine agree_updL rfl ?_ | refine agree_over2 rfl ?_)) ⟨rfl, trivial⟩ (fun w hw => hw) rfl ⟨by omega, hall⟩ (by show n - (k + 1) < n - k; omega)
  · have hend : k = n := by simp at hlt; omega
    rw [List.drop_of_length_le (by simp; omega), List.any_nil] at hall
    refine H_exit ?_
    refine thenJ_exit ?_
    refine loopJ_exit ?_
    refine blockJ_hit ?_
    refine thenJ_normal ?_
    refine H_seq ?_
    refine R0 ?_
    refine xV (e_mv (v := .slice _ _ _) (q0 rfl)) rfl rfl ?_
    refine xV (e_len Try.underlying32 (q0 rfl)) rfl rfl ?_
    refine xV (e_mv (v := .int _ _) (q0 rfl)) rfl rfl ?_
    refine xV (e_le (q0 rfl) (q0 rfl)) rfl rfl ?_
    refine xV (e_as (v := .bool _) (q0 rfl)) rfl rfl ?_
    refine XN ?_
    refine thenJ_normal ?_
    refine H_ret ?_
    exact ret1 (v := .bool _) rfl rfl rfl fun w' hw => ⟨ret_bool (by unfold rdFew; rw [hall, List.length_map, hl]; rfl), hw.1⟩

end Go.Proofs.Rid
