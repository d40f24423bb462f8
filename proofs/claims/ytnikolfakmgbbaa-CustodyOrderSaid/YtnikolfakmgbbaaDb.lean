/-
  The walks: the chapter's examples.
-/
import Derived.Test.YtnikolfakmgbbaaDa
namespace Go.Proofs.Cus
open Go Go.RowKit Go.Proofs.E

def cityF : Fl := ⟨2, 1, 1, [2], [1]⟩
def dayL : List Ev := [⟨0, 1, 100, 100, 1, 0, 0, 0, 0⟩, ⟨0, 2, 200, 200, 1, 1, 0, 0, 0⟩, ⟨0, 3, 300, 300, 3, 0, 0, 0, 7⟩, ⟨0, 4, 900, 900, 1, 0, 1, 0, 0⟩, ⟨0, 5, 1000, 1000, 7, 0, 0, 0, 0⟩, ⟨0, 6, 1000, 1000, 7, 1, 0, 0, 0⟩]
theorem fl24 {fs : Array Field} (h : Try.prog.underlying 24 = some (.struct fs) := by exact Try.underlying24) : FieldsLie Try.prog fs [(0, 1), (1, 1), (2, 1), (3, 1), (4, 1)] := by
  rw [Try.underlying24] at h
  cases h
  intro w
  kernel_rfl
theorem fl67 {fs : Array Field} (h : Try.prog.underlying 67 = some (.struct fs) := by exact Try.underlying67) : FieldsLie Try.prog fs [(0, 1), (1, 1), (2, 1), (3, 1), (4, 1), (5, 1), (6, 1), (7, 1), (8, 1)] := by
  rw [Try.underlying67] at h
  cases h
  intro w
  kernel_rfl
def cityA (x : Nat × Nat) : FA := ⟨some ⟨x.1, 0, none⟩, 1, 1, some ⟨x.2, 0, none⟩, 1, 1⟩
theorem city_w (w : World) : Calls Try.prog 35 #[] w fun e w' => ∃ x : Nat × Nat, e = .returned (.agg (cityF.cells (cityA x)).toArray) ∧ Mem w [box x.2 3 [.int .i64 1], box x.1 3 [.int .i64 2]] w' := by
  refine H_enter Try.func35 rfl Try.ntmps35 rfl ?_
  refine H_seq ?_
  refine R0 ?_
  refine X_alloc Try.zeroValue24 rfl fun b0 => ?_
  refine XN ?_
  refine thenJ_normal ?_
  refine H_seq ?_
  refine R0 ?_
  refine X_slit [(.int .i64 0)] Try.underlying22 Try.sizeOf3 Try.zeroValue3 rfl (by kernel_rfl) (pt (v := .int _ _) rfl E.p0) rfl rfl fun b1 => ?_
  refine X_slit [(.int .i64 0)] Try.underlying22 Try.sizeOf3 Try.zeroValue3 rfl (by kernel_rfl) (pt (v := .int _ _) rfl E.p0) rfl rfl fun b2 => ?_
  refine xV (e_build Try.underlying24 fl24 Try.zeroValue24 (pt (v := .int _ _) rfl (pt (v := .int _ _) rfl (pt (v := .int _ _) rfl (pt (v := .slice _ _ _) rfl (pt (v := .slice _ _ _) rfl E.p0))))) rfl) rfl rfl ?_
  (first | refine X_store 0 (v := .agg _) rfl rfl Try.sizeOf24 rfl rfl rfl rfl ?_ | refine X_store 1 (v := .agg _) rfl rfl Try.sizeOf24 rfl rfl rfl rfl ?_ | refine X_store 2 (v := .agg _) rfl rfl Try.sizeOf24 rfl rfl rfl rfl ?_ | refine X_store 3 (v := .agg _) rfl rfl Try.sizeOf24 rfl rfl rfl rfl ?_ | refine X_store 4 (v := .agg _) rfl rfl Try.sizeOf24 rfl rfl rfl rfl ?_ | refine X_store 5 (v := .agg _) rfl rfl Try.sizeOf24 rfl rfl rfl rfl ?_ | refine X_store 6 (v := .agg _) rfl rfl Try.sizeOf24 rfl rfl rfl rfl ?_ | refine X_store 7 (v := .agg _) rfl rfl Try.sizeOf24 rfl rfl rfl rfl ?_ | refine X_store 8 (v := .agg _) rfl rfl Try.sizeOf24 rfl rfl rfl rfl ?_)
  refine XN ?_
  refine thenJ_normal ?_
  refine H_ret ?_
  exact ret_of rfl (resc1 2 rfl rfl Try.isAgg24 Try.sizeOf24 rfl rfl) fun w' hw => ⟨(b1, b2), rfl, hw.pick [0, 1] (by decide)⟩
theorem day_w (w : World) : Calls Try.prog 36 #[] w fun e w' => ∃ b : Nat, e = .returned (.slice (some ⟨b, 0, none⟩) 6 6) ∧ Mem w [box b 67 (dayL.flatMap Ev.cells)] w' := by
  refine H_enter Try.func36 rfl Try.ntmps36 rfl ?_
  refine H_seq ?_
  refine R0 ?_
  refine xV (e_as (v := .slice _ _ _) (q0 rfl)) rfl rfl ?_
  refine XN ?_
  refine thenJ_normal ?_
  refine H_seq ?_
  refine R0 ?_
  refine xV (e_build Try.underlying67 fl67 Try.zeroValue67 (pt (v := .int _ _) rfl (pt (v := .int _ _) rfl (pt (v := .int _ _) rfl (pt (v := .int _ _) rfl E.p0)))) rfl) rfl rfl ?_
  refine xV (e_build Try.underlying67 fl67 Try.zeroValue67 (pt (v := .int _ _) rfl (pt (v := .int _ _) rfl (pt (v := .int _ _) rfl (pt (v := .int _ _) rfl (pt (v := .int _ _) rfl E.p0))))) rfl) rfl rfl ?_
  refine xV (e_build Try.underlying67 fl67 Try.zeroValue67 (pt (v := .int _ _) rfl (pt (v := .int _ _) rfl (pt (v := .int _ _) rfl (pt (v := .int _ _) rfl (pt (v := .int _ _) rfl E.p0))))) rfl) rfl rfl ?_
  refine xV (e_build Try.underlying67 fl67 Try.zeroValue67 (pt (v := .int _ _) rfl (pt (v := .int _ _) rfl (pt (v := .int _ _) rfl (pt (v := .int _ _) rfl (pt (v := .int _ _) rfl E.p0))))) rfl) rfl rfl ?_
  refine xV (e_build Try.underlying67 fl67 Try.zeroValue67 (pt (v := .int _ _) rfl (pt (v := .int _ _) rfl (pt (v := .int _ _) rfl (pt (v := .int _ _) rfl E.p0)))) rfl) rfl rfl ?_
  refine xV (e_build Try.underlying67 fl67 Try.zeroValue67 (pt (v := .int _ _) rfl (pt (v := .int _ _) rfl (pt (v := .int _ _) rfl (pt (v := .int _ _) rfl (pt (v := .int _ _) rfl E.p0))))) rfl) rfl rfl ?_
  refine X_slit [(.int .i64 0), (.int .i64 0), (.int .i64 0), (.int .i64 0), (.int .i64 0), (.int .i64 0), (.int .i64 0), (.int .i64 0), (.int .i64 0), (.int .i64 0), (.int .i64 0), (.int .i64 0), (.int .i64 0), (.int .i64 0), (.int .i64 0), (.int .i64 0), (.int .i64 0), (.int .i64 0), (.int .i64 0), (.int .i64 0), (.int .i64 0), (.int .i64 0), (.int .i64 0), (.int .i64 0), (.int .i64 0), (.int .i64 0), (.int .i64 0), (.int .i64 0), (.int .i64 0), (.int .i64 0), (.int .i64 0), (.int .i64 0), (.int .i64 0), (.int .i64 0), (.int .i64 0), (.int .i64 0), (.int .i64 0), (.int .i64 0), (.int .i64 0), (.int .i64 0), (.int .i64 0), (.int .i64 0), (.int .i64 0), (.int .i64 0), (.int .i64 0), (.int .i64 0), (.int .i64 0), (.int .i64 0), (.int .i64 0), (.int .i64 0), (.int .i64 0), (.int .i64 0), (.int .i64 0), (.int .i64 0)] Try.underlying25 Try.sizeOf67 Try.zeroValue67 rfl (by kernel_rfl) (pt (v := .agg _) rfl (pt (v := .agg _) rfl (pt (v := .agg _) rfl (pt (v := .agg _) rfl (pt (v := .agg _) rfl (pt (v := .agg _) rfl E.p0)))))) rfl rfl fun b7 => ?_
  refine xV (e_as (v := .slice _ _ _) (q0 rfl)) rfl rfl ?_
  refine XN ?_
  refine thenJ_normal ?_
  refine H_ret ?_
  exact ret1 (v := .slice _ _ _) rfl rfl rfl fun w' hw => ⟨b7, rfl, hw⟩
theorem city_at {w0 w : World} {L : List E.Item} {x : Nat × Nat} (hw : Mem w0 L w) (i j : Nat) (hi : L[i]? = some (box x.2 3 [.int .i64 1])) (hj : L[j]? = some (box x.1 3 [.int .i64 2])) : FlAt w cityF (cityA x) :=
  ⟨slAt_box (enc := encInt) (xs := [2]) hw hj (fun _ => rfl) (by decide), slAt_box (enc := encInt) (xs := [1]) hw hi (fun _ => rfl) (by decide)⟩
theorem day_at {w0 w : World} {L : List E.Item} {b : Nat} (hw : Mem w0 L w) (i : Nat) (hi : L[i]? = some (box b 67 (dayL.flatMap Ev.cells))) : EvsAt w (some ⟨b, 0, none⟩) 6 dayL := slAt_box (xs := dayL) hw hi (fun _ => rfl) (by decide)
theorem aw_fl : flErr cityF = 0 := by decide +kernel
theorem aw_acc : (accOf cityF dayL).length = 4 := by unfold accOf; simp only [← refSet_eq]; decide +kernel
theorem aw_rej : rejOf cityF dayL = [⟨0, 2, 22⟩, ⟨0, 6, 24⟩] := by unfold rejOf; simp only [← refSet_eq]; decide +kernel
theorem aw_sty : staysOf cityF dayL 0 = [⟨0, 5, 0, 0, 0, 100⟩, ⟨0, 1, 0, 0, 100, 300⟩, ⟨0, 3, 0, 7, 300, 900⟩, ⟨0, 1, 1, 0, 900, 1000⟩, ⟨0, 4, 0, 0, 1000, 4294944000⟩] := by unfold staysOf; simp only [← refSet_eq]; decide +kernel
theorem aw_at1 : atOf cityF dayL 0 300 = ⟨3, 0, 7, false⟩ := by unfold atOf spotsOf untilP; simp only [← refSet_eq]; decide +kernel
theorem aw_at2 : atOf cityF dayL 0 299 = ⟨1, 0, 0, false⟩ := by unfold atOf spotsOf untilP; simp only [← refSet_eq]; decide +kernel
theorem aw_lv : loadsOf cityF dayL 0 = [⟨0, 0⟩, ⟨1000, 1⟩] := by unfold loadsOf; simp only [← refSet_eq]; decide +kernel
theorem aw_e1 : atErr cityF 0 300 = 0 := by decide +kernel
theorem aw_e2 : atErr cityF 0 299 = 0 := by decide +kernel
theorem aw_e3 : stayErr cityF 0 = 0 := by decide +kernel
theorem aw_e4 : loadErr cityF 0 = 0 := by decide +kernel
theorem aw_pl : PlOk dayL := by intro e he; simp [dayL] at he; rcases he with rfl | rfl | rfl | rfl | rfl | rfl <;> decide

attribute [local irreducible] accOf rejOf staysOf atOf loadsOf flErr
set_option maxRecDepth 20000 in
theorem awake_w (w : World) : Calls Try.prog 13 #[] w fun e w' => e = .returned (.bool true) ∧ Bel w w' := by
  refine H_enter Try.func13 rfl Try.ntmps13 rfl ?_
  refine H_seq ?_
  refine R0 ?_
  refine xV (e_as (v := .bool _) (q0 rfl)) rfl rfl ?_
  refine XN ?_
  refine thenJ_normal ?_
  refine H_seq ?_
  refine R0 ?_
  refine xCX (en Try.call35 (ha0)) (fun w hw => city_w w) rfl (fun _ => rfl) fun c1 => ?_
  refine xCX (en Try.call36 (ha0)) (fun w hw => day_w w) rfl (fun _ => rfl) fun d1 => ?_
  refine xCX (en Try.call14 (ha2 (q0 rfl) (q0 rfl))) (fun w hw => accepted_w cityF (cityA c1) _ 6 6 dayL w (city_at hw 1 2 rfl rfl) (day_at hw 0 rfl) (by decide) aw_pl) rfl (fun _ => rfl) fun r1 => ?_
  refine xV (e_mv (q0 rfl)) rfl rfl ?_
  refine xV (e_ext (q0 rfl) rfl) rfl rfl ?_
  refine xV (e_ext (q0 rfl) rfl) rfl rfl ?_
  refine xV (e_as (v := .slice _ _ _) (q0 rfl)) rfl rfl ?_
  refine xV (e_as (v := .int _ _) (q0 rfl)) rfl rfl ?_
  refine XN ?_
  refine thenJ_normal ?_
  refine H_seq ?_
  refine H_mem (L' := []) (fun w hw => mem_nil.2 hw.1) rfl ?_
  refine R0 ?_
  refine xCX (en Try.call35 (ha0)) (fun w hw => city_w w) rfl (fun _ => rfl) fun c2 => ?_
  refine xCX (en Try.call36 (ha0)) (fun w hw => day_w w) rfl (fun _ => rfl) fun d2 => ?_
  refine xCX (en Try.call16 (ha2 (q0 rfl) (q0 rfl))) (fun w hw => rejected_w cityF (cityA c2) _ 6 6 dayL w (city_at hw 1 2 rfl rfl) (day_at hw 0 rfl) (by decide) aw_pl) rfl (fun _ => rfl) fun r2 => ?_
  refine xV (e_mv (q0 rfl)) rfl rfl ?_
  refine xV (e_ext (q0 rfl) rfl) rfl rfl ?_
  refine xV (e_ext (q0 rfl) rfl) rfl rfl ?_
  refine xV (e_as (v := .slice _ _ _) (q0 rfl)) rfl rfl ?_
  refine xV (e_as (v := .int _ _) (q0 rfl)) rfl rfl ?_
  refine XN ?_
  refine thenJ_normal ?_
  refine H_seq ?_
  refine H_mem (L' := [rjRow r2.1 r2.2 (rejOf cityF dayL)]) (fun w hw => hw.pick [0] (by decide)) rfl ?_
  refine R0 ?_
  refine xCX (en Try.call35 (ha0)) (fun w hw => city_w w) rfl (fun _ => rfl) fun c3 => ?_
  refine xCX (en Try.call36 (ha0)) (fun w hw => day_w w) rfl (fun _ => rfl) fun d3 => ?_
  refine xCX (en Try.call25 (ha3 (q0 rfl) (q0 rfl) (q0 rfl))) (fun w hw => stays_w cityF (cityA c3) _ 6 6 dayL 0 w (city_at hw 1 2 rfl rfl) (day_at hw 0 rfl) (by decide) aw_pl) rfl (fun _ => rfl) fun r3 => ?_
  refine xV (e_mv (q0 rfl)) rfl rfl ?_
  refine xV (e_ext (q0 rfl) rfl) rfl rfl ?_
  refine xV (e_ext (q0 rfl) rfl) rfl rfl ?_
  refine xV (e_as (v := .slice _ _ _) (q0 rfl)) rfl rfl ?_
  refine xV (e_as (v := .int _ _) (q0 rfl)) rfl rfl ?_
  refine XN ?_
  refine thenJ_normal ?_
  refine H_seq ?_
  refine H_mem (L' := [styRow r3.1 r3.2 (staysOf cityF dayL 0), rjRow r2.1 r2.2 (rejOf cityF dayL)]) (fun w hw => hw.pick [0, 4] (by decide)) rfl ?_
  refine R0 ?_
  refine xCX (en Try.call35 (ha0)) (fun w hw => city_w w) rfl (fun _ => rfl) fun c4 => ?_
  refine xCX (en Try.call36 (ha0)) (fun w hw => day_w w) rfl (fun _ => rfl) fun d4 => ?_
  refine xC (en Try.call22 (ha4 (q0 rfl) (q0 rfl) (q0 rfl) (q0 rfl))) (fun _ w hw => at_w cityF (cityA c4) _ 6 6 dayL 0 300 w (city_at hw 1 2 rfl rfl) (day_at hw 0 rfl) (by decide) aw_pl) rfl rfl ?_
  refine xV (e_mv (q0 rfl)) rfl rfl ?_
  refine xV (e_ext (q0 rfl) rfl) rfl rfl ?_
  refine xV (e_ext (q0 rfl) rfl) rfl rfl ?_
  refine X_alloc Try.zeroValue41 rfl fun b7 => ?_
  (first | refine X_store 0 (v := .agg _) rfl rfl Try.sizeOf41 rfl rfl rfl rfl ?_ | refine X_store 1 (v := .agg _) rfl rfl Try.sizeOf41 rfl rfl rfl rfl ?_ | refine X_store 2 (v := .agg _) rfl rfl Try.sizeOf41 rfl rfl rfl rfl ?_ | refine X_store 3 (v := .agg _) rfl rfl Try.sizeOf41 rfl rfl rfl rfl ?_ | refine X_store 4 (v := .agg _) rfl rfl Try.sizeOf41 rfl rfl rfl rfl ?_ | refine X_store 5 (v := .agg _) rfl rfl Try.sizeOf41 rfl rfl rfl rfl ?_ | refine X_store 6 (v := .agg _) rfl rfl Try.sizeOf41 rfl rfl rfl rfl ?_ | refine X_store 7 (v := .agg _) rfl rfl Try.sizeOf41 rfl rfl rfl rfl ?_ | refine X_store 8 (v := .agg _) rfl rfl Try.sizeOf41 rfl rfl rfl rfl ?_)
  refine xV (e_as (v := .int _ _) (q0 rfl)) rfl rfl ?_
  refine XN ?_
  refine thenJ_normal ?_
  refine H_seq ?_
  refine H_mem (L' := [box b7 41 (atOf cityF dayL 0 300).cells, styRow r3.1 r3.2 (staysOf cityF dayL 0), rjRow r2.1 r2.2 (rejOf cityF dayL)]) (fun w hw => hw.pick [0, 4, 5] (by decide)) rfl ?_
  refine R0 ?_
  refine xCX (en Try.call35 (ha0)) (fun w hw => city_w w) rfl (fun _ => rfl) fun c5 => ?_
  refine xCX (en Try.call36 (ha0)) (fun w hw => day_w w) rfl (fun _ => rfl) fun d5 => ?_
  refine xC (en Try.call22 (ha4 (q0 rfl) (q0 rfl) (q0 rfl) (q0 rfl))) (fun _ w hw => at_w cityF (cityA c5) _ 6 6 dayL 0 299 w (city_at hw 1 2 rfl rfl) (day_at hw 0 rfl) (by decide) aw_pl) rfl rfl ?_
  refine xV (e_mv (q0 rfl)) rfl rfl ?_
  refine xV (e_ext (q0 rfl) rfl) rfl rfl ?_
  refine xV (e_ext (q0 rfl) rfl) rfl rfl ?_
  refine X_alloc Try.zeroValue41 rfl fun b9 => ?_
  (first | refine X_store 0 (v := .agg _) rfl rfl Try.sizeOf41 rfl rfl rfl rfl ?_ | refine X_store 1 (v := .agg _) rfl rfl Try.sizeOf41 rfl rfl rfl rfl ?_ | refine X_store 2 (v := .agg _) rfl rfl Try.sizeOf41 rfl rfl rfl rfl ?_ | refine X_store 3 (v := .agg _) rfl rfl Try.sizeOf41 rfl rfl rfl rfl ?_ | refine X_store 4 (v := .agg _) rfl rfl Try.sizeOf41 rfl rfl rfl rfl ?_ | refine X_store 5 (v := .agg _) rfl rfl Try.sizeOf41 rfl rfl rfl rfl ?_ | refine X_store 6 (v := .agg _) rfl rfl Try.sizeOf41 rfl rfl rfl rfl ?_ | refine X_store 7 (v := .agg _) rfl rfl Try.sizeOf41 rfl rfl rfl rfl ?_ | refine X_store 8 (v := .agg _) rfl rfl Try.sizeOf41 rfl rfl rfl rfl ?_)
  refine xV (e_as (v := .int _ _) (q0 rfl)) rfl rfl ?_
  refine XN ?_
  refine thenJ_normal ?_
  refine H_seq ?_
  refine H_mem (L' := [box b9 41 (atOf cityF dayL 0 299).cells, box b7 41 (atOf cityF dayL 0 300).cells, styRow r3.1 r3.2 (staysOf cityF dayL 0), rjRow r2.1 r2.2 (rejOf cityF dayL)]) (fun w hw => hw.pick [0, 4, 5, 6] (by decide)) rfl ?_
  refine R0 ?_
  refine xCX (en Try.call35 (ha0)) (fun w hw => city_w w) rfl (fun _ => rfl) fun c6 => ?_
  refine xCX (en Try.call36 (ha0)) (fun w hw => day_w w) rfl (fun _ => rfl) fun d6 => ?_
  refine xCX (en Try.call27 (ha3 (q0 rfl) (q0 rfl) (q0 rfl))) (fun w hw => loads_w cityF (cityA c6) _ 6 6 dayL 0 w (city_at hw 1 2 rfl rfl) (day_at hw 0 rfl) (by decide) aw_pl) rfl (fun _ => rfl) fun r6 => ?_
  refine xV (e_mv (q0 rfl)) rfl rfl ?_
  refine xV (e_ext (q0 rfl) rfl) rfl rfl ?_
  refine xV (e_ext (q0 rfl) rfl) rfl rfl ?_
  refine xV (e_as (v := .slice _ _ _) (q0 rfl)) rfl rfl ?_
  refine xV (e_as (v := .int _ _) (q0 rfl)) rfl rfl ?_
  refine XN ?_
  refine thenJ_normal ?_
  refine H_seq ?_
  refine H_seq ?_
  refine H_mem (L' := [lvRow r6.1 r6.2 (loadsOf cityF dayL 0), box b9 41 (atOf cityF dayL 0 299).cells, box b7 41 (atOf cityF dayL 0 300).cells, styRow r3.1 r3.2 (staysOf cityF dayL 0), rjRow r2.1 r2.2 (rejOf cityF dayL)]) (fun w hw => hw.pick [0, 4, 5, 6, 7] (by decide)) rfl ?_
  rw [aw_lv, aw_at1, aw_at2, aw_sty, aw_rej, aw_acc, aw_fl, aw_e1, aw_e2, aw_e3, aw_e4]
  refine H_know (fun w hw => rowT_at (j := 3) hw rfl (by decide)) fun ⟨q3, hq3⟩ => ?_
  obtain ⟨r31, r32⟩ := r3
  simp only at hq3
  subst hq3
  refine R0 ?_
  refine xV (e_mv (v := .int _ _) (q0 rfl)) rfl rfl ?_
  refine xV (e_ne (q0 rfl) (q0 rfl)) rfl rfl ?_
  refine xV (e_mv (v := .bool _) (q0 rfl)) rfl rfl ?_
  refine xVF (e_mv (v := .int _ _) (q0 rfl)) rfl rfl rfl rfl ?_
  refine xVF (e_ne (q1 rfl) (q0 rfl)) rfl rfl rfl rfl ?_
  refine xV (e_or (q0 rfl) rfl (fun h => by first | rfl | (rw [h]; rfl))) rfl rfl ?_
  refine xV (e_mv (v := .bool _) (q0 rfl)) rfl rfl ?_
  refine xVF (e_mv (v := .int _ _) (q0 rfl)) rfl rfl rfl rfl ?_
  refine xVF (e_ne (q1 rfl) (q0 rfl)) rfl rfl rfl rfl ?_
  refine xV (e_or (q0 rfl) rfl (fun h => by first | rfl | (rw [h]; rfl))) rfl rfl ?_
  refine xV (e_mv (v := .bool _) (q0 rfl)) rfl rfl ?_
  refine xVF (e_mv (v := .int _ _) (q0 rfl)) rfl rfl rfl rfl ?_
  refine xVF (e_ne (q1 rfl) (q0 rfl)) rfl rfl rfl rfl ?_
  refine xV (e_or (q0 rfl) rfl (fun h => by first | rfl | (rw [h]; rfl))) rfl rfl ?_
  refine xV (e_mv (v := .bool _) (q0 rfl)) rfl rfl ?_
  refine xVF (e_mv (v := .int _ _) (q0 rfl)) rfl rfl rfl rfl ?_
  refine xVF (e_ne (q1 rfl) (q0 rfl)) rfl rfl rfl rfl ?_
  refine xV (e_or (q0 rfl) rfl (fun h => by first | rfl | (rw [h]; rfl))) rfl rfl ?_
  refine xV (e_mv (v := .bool _) (q0 rfl)) rfl rfl ?_
  refine xVF (e_mv (v := .int _ _) (q0 rfl)) rfl rfl rfl rfl ?_
  refine xVF (e_ne (q1 rfl) (q0 rfl)) rfl rfl rfl rfl ?_
  refine xV (e_or (q0 rfl) rfl (fun h => by first | rfl | (rw [h]; rfl))) rfl rfl ?_
  refine xV (e_mv (v := .bool _) (q0 rfl)) rfl rfl ?_
  refine xVF (e_mv (v := .slice _ _ _) (q0 rfl)) rfl rfl rfl rfl ?_
  refine xVF (e_len Try.underlying25 (q1 rfl)) rfl rfl rfl rfl ?_
  refine xVF (e_ne (q1 rfl) (q0 rfl)) rfl rfl rfl rfl ?_
  refine xV (e_or (q0 rfl) rfl (fun h => by first | rfl | (rw [h]; rfl))) rfl rfl ?_
  refine xV (e_mv (v := .bool _) (q0 rfl)) rfl rfl ?_
  refine xVF (e_mv (v := .slice _ _ _) (q0 rfl)) rfl rfl rfl rfl ?_
  refine xVF (e_len Try.underlying46 (q1 rfl)) rfl rfl rfl rfl ?_
  refine xVF (e_ne (q1 rfl) (q0 rfl)) rfl rfl rfl rfl ?_
  refine xV (e_or (q0 rfl) rfl (fun h => by first | rfl | (rw [h]; rfl))) rfl rfl ?_
  refine XN ?_
  refine thenJ_normal ?_
  refine H_cond rfl (fun h1 => ?_) (fun h1 => ?_)
  · exact absurd h1 (by decide)
  · refine H_skip ?_
    refine thenJ_normal ?_
    refine H_seq ?_
    refine H_seq ?_
    refine R0 ?_
    refine xV (e_mv (v := .slice _ _ _) (q0 rfl)) rfl rfl ?_
    refine xV (e_build Try.underlying69 fl69 Try.zeroValue69 (pt (v := .int _ _) rfl (pt (v := .int _ _) rfl E.p0)) rfl) rfl rfl ?_
    refine xV (e_build Try.underlying69 fl69 Try.zeroValue69 (pt (v := .int _ _) rfl (pt (v := .int _ _) rfl E.p0)) rfl) rfl rfl ?_
    refine X_slit [(.int .i64 0), (.int .i64 0), (.int .i64 0), (.int .i64 0), (.int .i64 0), (.int .i64 0)] Try.underlying31 Try.sizeOf69 Try.zeroValue69 rfl (by kernel_rfl) (pt (v := .agg _) rfl (pt (v := .agg _) rfl E.p0)) rfl rfl fun b84 => ?_
    refine xC (en Try.call19 (ha2 (q0 rfl) (q0 rfl))) (fun _ w hw => sameRj_w r2.1 (some ⟨b84, 0, none⟩) 2 2 r2.2 2 [⟨0, 2, 22⟩, ⟨0, 6, 24⟩] [⟨0, 2, 22⟩, ⟨0, 6, 24⟩] w (slAt_row hw (j := 5) rfl (fun _ => rfl) (by decide)) (slAt_box (enc := Rj.cells) (xs := [⟨0, 2, 22⟩, ⟨0, 6, 24⟩]) hw (j := 0) rfl (fun _ => rfl) (by decide))) rfl rfl ?_
    refine xV (e_not (q0 rfl)) rfl rfl ?_
    refine XN ?_
    refine thenJ_normal ?_
    refine H_cond rfl (fun h2 => ?_) (fun h2 => ?_)
    · exact absurd h2 (by decide)
    · have _ht : True := trivial
      refine H_skip ?_
      refine thenJ_normal ?_
      refine H_seq ?_
      refine H_seq ?_
      refine R0 ?_
      refine xV (e_mv (v := .slice _ _ _) (q0 rfl)) rfl rfl ?_
      refine xV (e_idx 2 Try.underlying46 Try.sizeOf57 (q0 rfl) (q0 rfl) (fun _ => ⟨rfl, by decide⟩)) rfl rfl ?_
      refine xV (e_lds Try.isAgg57 Try.sizeOf57 (q0 rfl) (rrs 4 rfl (x := ⟨0, 3, 0, 7, 300, 900⟩) rfl) rfl) rfl rfl ?_
      refine xV (e_build Try.underlying55 fl55 Try.zeroValue55 (pt (v := .int _ _) rfl (pt (v := .int _ _) rfl E.p0)) rfl) rfl rfl ?_
      refine xV (e_build Try.underlying57 fl57 Try.zeroValue57 (pt (v := .int _ _) rfl (pt (v := .int _ _) rfl (pt (v := .agg _) rfl E.p0))) rfl) rfl rfl ?_
      refine xV (e_neS (fun w => sameSty_w_eq ⟨0, 3, 0, 7, 300, 900⟩ ⟨0, 3, 0, 7, 300, 900⟩ w) (by kernel_rfl) (q0 rfl) (q0 rfl)) rfl rfl ?_
      refine xV (e_mv (v := .bool _) (q0 rfl)) rfl rfl ?_
      refine xVF (e_mv (v := .slice _ _ _) (q0 rfl)) rfl rfl rfl rfl ?_
      refine xVF (e_idx 4 Try.underlying46 Try.sizeOf57 (q1 rfl) (q0 rfl) (fun _ => ⟨rfl, by decide⟩)) rfl rfl rfl rfl ?_
      refine xVF (e_fld Try.underlying57 rfl Try.sizeOf55 rfl (q1 rfl)) rfl rfl rfl rfl ?_
      refine xVF (e_fld Try.underlying55 rfl Try.sizeOf3 rfl (q1 rfl)) rfl rfl rfl rfl ?_
      refine xVF (e_ld (v := .int .i64 4294944000) Try.isAgg3 (q1 rfl) (rr 4 (r := 5) rfl (x := ⟨0, 4, 0, 0, 1000, 4294944000⟩) rfl rfl)) rfl rfl rfl rfl ?_
      refine xVF (e_ne (q1 rfl) (q0 rfl)) rfl rfl rfl rfl ?_
      refine xV (e_or (q0 rfl) rfl (fun h => by first | rfl | (rw [h]; rfl))) rfl rfl ?_
      refine XN ?_
      refine thenJ_normal ?_
      refine H_cond rfl (fun h3 => ?_) (fun h3 => ?_)
      · exact absurd h3 (by decide)
      · have _ht : True := trivial
        refine H_skip ?_
        refine thenJ_normal ?_
        refine H_seq ?_
        refine R0 ?_
        refine xV (e_lds Try.isAgg41 Try.sizeOf41 (q0 rfl) (by first | exact bxs 0 rfl | exact bxs 1 rfl | exact bxs 2 rfl | exact bxs 3 rfl | exact bxs 4 rfl | exact bxs 5 rfl | exact bxs 6 rfl | exact bxs 7 rfl | exact bxs 8 rfl | exact bxs 9 rfl | exact rcs ‹_› ‹_› | exact rrs 0 rfl ‹_› | exact rrs 1 rfl ‹_› | exact rrs 2 rfl ‹_› | exact rrs 3 rfl ‹_› | exact rrs 4 rfl ‹_› | exact rrs 5 rfl ‹_› | exact rrs 6 rfl ‹_› | exact rrs 7 rfl ‹_›) rfl) rfl rfl ?_
        refine xV (e_build Try.underlying41 fl41 Try.zeroValue41 (pt (v := .int _ _) rfl (pt (v := .int _ _) rfl E.p0)) rfl) rfl rfl ?_
        refine xV (e_eqS (fun w => sameSp_w_eq ⟨3, 0, 7, false⟩ ⟨3, 0, 7, false⟩ w) (by kernel_rfl) (q0 rfl) (q0 rfl)) rfl rfl ?_
        refine xV (e_mv (v := .bool _) (q0 rfl)) rfl rfl ?_
        refine xVT (e_lds Try.isAgg41 Try.sizeOf41 (q0 rfl) (by first | exact bxs 0 rfl | exact bxs 1 rfl | exact bxs 2 rfl | exact bxs 3 rfl | exact bxs 4 rfl | exact bxs 5 rfl | exact bxs 6 rfl | exact bxs 7 rfl | exact bxs 8 rfl | exact bxs 9 rfl | exact rcs ‹_› ‹_› | exact rrs 0 rfl ‹_› | exact rrs 1 rfl ‹_› | exact rrs 2 rfl ‹_› | exact rrs 3 rfl ‹_› | exact rrs 4 rfl ‹_› | exact rrs 5 rfl ‹_› | exact rrs 6 rfl ‹_› | exact rrs 7 rfl ‹_›) rfl) rfl rfl rfl rfl ?_
        refine xVT (EvG.any (e_build Try.underlying41 fl41 Try.zeroValue41 (pt (v := .int _ _) rfl E.p0) rfl)) rfl rfl rfl rfl ?_
        refine xVT (e_eqS (fun w => sameSp_w_eq ⟨1, 0, 0, false⟩ ⟨1, 0, 0, false⟩ w) (by kernel_rfl) (q1 rfl) (q1 rfl)) rfl rfl rfl rfl ?_
        refine xV (e_and (q0 rfl) rfl (fun h => by first | rfl | (rw [h]; rfl))) rfl rfl ?_
        refine xV (e_mv (v := .bool _) (q0 rfl)) rfl rfl ?_
        refine xVk (gdT (by decide) rfl rfl) (e_mv (v := .slice _ _ _) (q0 rfl)) rfl rfl ?_
        refine xVk (gdT (by decide) rfl rfl) (e_build Try.underlying63 fl63 Try.zeroValue63 E.p0 rfl) rfl rfl ?_
        refine xVk (gdT (by decide) rfl rfl) (e_build Try.underlying63 fl63 Try.zeroValue63 (pt (v := .int _ _) rfl (pt (v := .int _ _) rfl E.p0)) rfl) rfl rfl ?_
        refine X_slitG (gdT (by decide) rfl rfl) [.int .i64 0, .int .i64 0, .int .i64 0, .int .i64 0] Try.underlying49 Try.sizeOf63 Try.zeroValue63 rfl (by kernel_rfl) (pt (v := .agg _) rfl (pt (v := .agg _) rfl E.p0)) rfl rfl fun b113 => ?_
        refine xCk (gdT (by decide) rfl rfl) (en Try.call30 (ha2 (q0 rfl) (q0 rfl))) (fun _ w hw => sameLv_w r6.1 (some ⟨b113, 0, none⟩) 2 2 r6.2 2 [⟨0, 0⟩, ⟨1000, 1⟩] [⟨0, 0⟩, ⟨1000, 1⟩] w (slAt_row hw (j := 2) rfl (fun _ => rfl) (by decide)) (slAt_box (enc := Lv.cells) (xs := [⟨0, 0⟩, ⟨1000, 1⟩]) hw (j := 0) rfl (fun _ => rfl) (by decide))) rfl rfl ?_
        refine xV (e_and (g2 := true) (q0 rfl) gv_true.symm (fun _ => by decide)) rfl rfl ?_
        refine xV (e_as (v := .bool _) (q0 rfl)) rfl rfl ?_
        refine XN ?_
        refine thenJ_normal ?_
        refine H_ret ?_
        exact ret1 (v := .bool _) rfl rfl rfl fun w' hw => ⟨ret_bool (by decide), hw.1⟩

end Go.Proofs.Cus
