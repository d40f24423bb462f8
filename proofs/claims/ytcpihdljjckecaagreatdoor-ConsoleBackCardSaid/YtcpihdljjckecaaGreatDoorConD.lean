import Derived.Test.YtcpihdljjckecaaGreatDoorConM
set_option linter.unusedVariables false
set_option linter.unusedSimpArgs false
/-
  The law ConsoleBack.
-/
namespace Go.Proofs.Con
open Go Go.RowKit Go.Proofs.E

set_option maxRecDepth 20000 in
set_option maxHeartbeats 1000000 in
theorem backLaw_w (a : List Int) (ha : a.length = 20) (line : ByteArray) (w : World) (hl : Lw w) : Calls Tryz.prog 5 #[.agg (a.map I64).toArray, .string line] w fun e w' => e = .returned (.bool true) ∧ Blw w w' := by
  have hal : (a.map I64).length = 20 := by rw [List.length_map, ha]
  refine H_enterP0 Tryz.func5 rfl Tryz.ntmps5 rfl ?_
  refine H_seq ?_
  refine R0 ?_
  refine X_box (v := .agg _) rfl rfl fun b2 => ?_
  refine xV (e_as (v := .bool _) (q0 rfl)) rfl rfl ?_
  refine XN ?_
  refine thenJ_normal ?_
  refine H_seq ?_
  refine H_seq ?_
  refine R0 ?_
  refine xV (e_mv (v := .string _) (q0 rfl)) rfl rfl ?_
  refine xV (e_lenStr Tryz.underlying9 (q0 rfl)) rfl rfl ?_
  refine xV (e_gt (q0 rfl) (q0 rfl)) rfl rfl ?_
  refine XN ?_
  refine thenJ_normal ?_
  refine H_cond rfl (fun hg => ?_) (fun hg => ?_)
  · refine H_seq ?_
    refine R0 ?_
    refine xC0 rfl (en Tryz.call6 (ha0)) (fun w hw => O.awake_w w (hl.und.mem hw)) rfl rfl ?_
    refine xV (e_as (v := .bool _) (q0 rfl)) rfl rfl ?_
    refine XN ?_
    refine thenJ_normal ?_
    refine H_ret ?_
    refine thenJ_ret ?_
    exact retP_of rfl (res1 (v := .bool _) rfl rfl) fun w' hw => ⟨rfl, blw_of hw⟩
  · have hsz : line.size ≤ 400 := by simp at hg; omega
    refine H_skip ?_
    refine thenJ_normal ?_
    refine H_seq ?_
    refine H_seq ?_
    refine R0 ?_
    refine xV (eS Tryz.isAgg30 Tryz.sizeOf30 (q0 rfl) (hl := hal)) rfl rfl ?_
    refine xC0 rfl (en Tryz.call9 (ha1 (q0 rfl))) (fun w hw => printS_w a ha w (hl.und.mem hw)) rfl rfl ?_
    refine xV (e_mv (q0 rfl)) rfl rfl ?_
    refine xV (e_ext (q0 rfl) rfl) rfl rfl ?_
    refine xV (e_ext (q0 rfl) rfl) rfl rfl ?_
    refine xV (e_as (v := .string _) (q0 rfl)) rfl rfl ?_
    refine xV (e_as (v := .int _ _) (q0 rfl)) rfl rfl ?_
    refine XN ?_
    refine thenJ_normal ?_
    refine H_seq ?_
    refine R0 ?_
    refine xV (e_mv (v := .int _ _) (q0 rfl)) rfl rfl ?_
    refine xV (e_eq (q0 rfl) (q0 rfl)) rfl rfl ?_
    refine XN ?_
    refine thenJ_normal ?_
    refine H_cut [4, 7, 8, 24, 25, 26, 27, 28, 29, 30, 31, 32, 33, 34, 35] (fun _ : Unit => []) (fun _ => [box b2 30 (a.map I64)]) (fun _ => True) ?_ ?_
    · refine H_cond rfl (fun hp => ?_) (fun hp => ?_)
      · have hp0 : printL a = ((printL a).1, 0) := by
          have : (printL a).2 = 0 := by simpa using hp
          rw [← this]
        have hb1 := back1 ha hp0
        refine H_seq ?_
        refine R0 ?_
        refine xV (e_mv (v := .string _) (q0 rfl)) rfl rfl ?_
        refine xC0 rfl (en Tryz.call7 (ha1 (q0 rfl))) (fun w hw => parseS_w _ w (hl.und.mem hw) (print_size ha hp0)) rfl rfl ?_
        rw [hb1]
        refine xV (e_mv (q0 rfl)) rfl rfl ?_
        refine xV (e_ext (q0 rfl) rfl) rfl rfl ?_
        refine xV (e_ext (q0 rfl) rfl) rfl rfl ?_
        refine X_alloc Tryz.zeroValue30 rfl fun b7 => ?_
        refine X_store (v := .agg (a.map I64).toArray) 0 rfl rfl Tryz.sizeOf30 (by simp [Value.cells, ha]) (one_map _) rfl (by rw [cells_map, hal]; rfl) ?_
        refine xV (e_as (v := .int _ _) (q0 rfl)) rfl rfl ?_
        refine XN ?_
        refine thenJ_normal ?_
        refine H_seq ?_
        refine H_all 0 rfl (len0 a ha) ?_
        refine R0 ?_
        refine xV (eS Tryz.isAgg30 Tryz.sizeOf30 (q0 rfl) (bxs 0 rfl) (hl := hal)) rfl rfl ?_
        refine xV (eS Tryz.isAgg30 Tryz.sizeOf30 (q0 rfl) (bxs 1 rfl) (hl := hal)) rfl rfl ?_
        refine xV (e_neS (act_eq a a ha ha) act_gd (q0 rfl) (q0 rfl)) rfl rfl ?_
        refine xV (e_mv (v := .bool _) (q0 rfl)) rfl rfl ?_
        refine xVF (e_mv (v := .int _ _) (q0 rfl)) rfl rfl rfl rfl ?_
        refine xVF (e_ne (q1 rfl) (q0 rfl)) rfl rfl rfl rfl ?_
        refine xV (e_or (q0 rfl) rfl (fun h => by first | rfl | (rw [h]; rfl))) rfl rfl ?_
        refine XN ?_
        refine thenJ_normal ?_
        refine H_cond rfl (fun hq => ?_) (fun hq => ?_)
        · exfalso
          simp at hq
        · refine H_skip ?_
          exact cutJ_normal () (by repeat (first | exact agree_self | exact agree_over | refine agree_upd rfl ?_ | refine agree_updL rfl ?_ | refine agree_over2 rfl ?_)) trivial (fun w hw => hw.tail) rfl trivial
      · refine H_skip ?_
        exact cutJ_normal () (by repeat (first | exact agree_self | exact agree_over | refine agree_upd rfl ?_ | refine agree_updL rfl ?_ | refine agree_over2 rfl ?_)) trivial (fun w hw => hw) rfl trivial
    · intro _ g _
      refine thenJ_normal ?_
      refine H_seq ?_
      refine H_seq ?_
      have hpl := parse_len line
      generalize hP : parseS line = P at hpl
      obtain ⟨b, e⟩ := P
      have hpl : b.length = 20 := hpl
      have hbl : (b.map I64).length = 20 := by rw [List.length_map, hpl]
      refine R0 ?_
      refine xV (e_mv (v := .string _) (q0 rfl)) rfl rfl ?_
      refine xC0 rfl (en Tryz.call7 (ha1 (q0 rfl))) (fun w hw => parseS_w line w (hl.und.mem hw) (by omega)) rfl rfl ?_
      rw [hP]
      refine xV (e_mv (q0 rfl)) rfl rfl ?_
      refine xV (e_ext (q0 rfl) rfl) rfl rfl ?_
      refine xV (e_ext (q0 rfl) rfl) rfl rfl ?_
      refine X_alloc Tryz.zeroValue30 rfl fun b9 => ?_
      refine X_store (v := .agg (b.map I64).toArray) 0 rfl rfl Tryz.sizeOf30 (by simp [Value.cells, hpl]) (one_map _) rfl (by rw [cells_map, hbl]; rfl) ?_
      refine xV (e_as (v := .int _ _) (q0 rfl)) rfl rfl ?_
      refine XN ?_
      refine thenJ_normal ?_
      refine H_seq ?_
      refine H_all 0 rfl (len0 b hpl) ?_
      refine R0 ?_
      refine xV (e_mv (v := .int _ _) (q0 rfl)) rfl rfl ?_
      refine xV (e_eq (q0 rfl) (q0 rfl)) rfl rfl ?_
      refine XN ?_
      refine thenJ_normal ?_
      refine H_cond rfl (fun hq => ?_) (fun hq => ?_)
      · have he : e = 0 := by simpa using hq
        subst he
        have hb2 := (back2 hP).1
        refine H_seq ?_
        refine R0 ?_
        refine xV (eS Tryz.isAgg30 Tryz.sizeOf30 (q0 rfl) (bxs 0 rfl) (hl := hbl)) rfl rfl ?_
        refine xC0 rfl (en Tryz.call9 (ha1 (q0 rfl))) (fun w hw => printS_w b hpl w (hl.und.mem hw)) rfl rfl ?_
        rw [hb2]
        refine xV (e_mv (q0 rfl)) rfl rfl ?_
        refine xV (e_ext (q0 rfl) rfl) rfl rfl ?_
        refine xV (e_ext (q0 rfl) rfl) rfl rfl ?_
        refine xV (e_as (v := .string _) (q0 rfl)) rfl rfl ?_
        refine xV (e_as (v := .int _ _) (q0 rfl)) rfl rfl ?_
        refine XN ?_
        refine thenJ_normal ?_
        refine H_seq ?_
        refine R0 ?_
        refine xV (e_mv (v := .string _) (q0 rfl)) rfl rfl ?_
        refine xV (e_mv (v := .string _) (q0 rfl)) rfl rfl ?_
        refine xV (e_neStr (q0 rfl) (q0 rfl)) rfl rfl ?_
        refine xV (e_mv (v := .bool _) (q0 rfl)) rfl rfl ?_
        refine xVF (e_mv (v := .int _ _) (q0 rfl)) rfl rfl rfl rfl ?_
        refine xVF (e_ne (q1 rfl) (q0 rfl)) rfl rfl rfl rfl ?_
        refine xV (e_or (q0 rfl) rfl (fun h => by first | rfl | (rw [h]; rfl))) rfl rfl ?_
        refine XN ?_
        refine thenJ_normal ?_
        refine H_cond rfl (fun hr => ?_) (fun hr => ?_)
        · exfalso
          simp at hr
        · refine H_skip ?_
          refine thenJ_normal ?_
          refine H_seq ?_
          refine R0 ?_
          refine xC0 rfl (en Tryz.call6 (ha0)) (fun w hw => O.awake_w w (hl.und.mem hw)) rfl rfl ?_
          refine xV (e_as (v := .bool _) (q0 rfl)) rfl rfl ?_
          refine XN ?_
          refine thenJ_normal ?_
          refine H_ret ?_
          exact retP_of rfl (res1 (v := .bool _) rfl rfl) fun w' hw => ⟨rfl, blw_of hw⟩
      · refine H_skip ?_
        refine thenJ_normal ?_
        refine H_seq ?_
        refine R0 ?_
        refine xC0 rfl (en Tryz.call6 (ha0)) (fun w hw => O.awake_w w (hl.und.mem hw)) rfl rfl ?_
        refine xV (e_as (v := .bool _) (q0 rfl)) rfl rfl ?_
        refine XN ?_
        refine thenJ_normal ?_
        refine H_ret ?_
        exact retP_of rfl (res1 (v := .bool _) rfl rfl) fun w' hw => ⟨rfl, blw_of hw⟩
end Go.Proofs.Con
