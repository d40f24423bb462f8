import Derived.Test.YtcpihdljjckecaaGreatDoorConR
set_option linter.unusedVariables false
set_option linter.unusedSimpArgs false
/-
  The law ConsolePrints.
-/
namespace Go.Proofs.Con
open Go Go.RowKit Go.Proofs.E

/-- an act's word and numbers -/
def wl (a : List Int) : ByteArray × List Int := match cos.find? (fun c => decide (c.kind = a.headD 0)) with
  | some c => (wd c, c.offs.map fun o => a.getD o 0)
  | none => (⟨#[]⟩, [])
theorem wl_small (a : List Int) : (wl a).1.size ≤ 10 ∧ (wl a).2.length ≤ 9 := by
  unfold wl
  split
  · rename_i c hc
    obtain ⟨k, hk, rfl⟩ := List.mem_iff_getElem.1 (List.mem_of_find?_eq_some hc)
    exact ⟨word_small (List.getElem?_eq_getElem hk), by rw [List.length_map]; exact (offs_ok (List.getElem?_eq_getElem hk)).1⟩
  · exact ⟨by decide, by decide⟩
theorem parseS_nil {s : ByteArray} (h : s.data.toList = []) : parseS s = (zs, 36) := by
  unfold parseS
  rw [words_spl, h]
  exact pl_empty (by decide)
theorem ref_bad {a : List Int} (ha : a.length = 20) {v : Int} (hv : v ∈ (wl a).2) (hno : okN v = false) : printL a = (⟨#[]⟩, 36) := by
  unfold wl at hv
  cases hf : cos.find? (fun c => decide (c.kind = a.headD 0)) with
  | none => rw [hf] at hv; simp at hv
  | some c =>
    rw [hf] at hv
    simp only at hv
    refine print_no (List.mem_of_find?_eq_some hf) ha (of_decide_eq_true (List.find?_some (p := fun c : Co => decide (c.kind = a.headD 0)) hf)) fun h => ?_
    obtain ⟨o, ho, rfl⟩ := List.mem_map.1 hv
    rw [h.1 o ho] at hno
    cases hno
theorem ref_print {a : List Int} (ha : a.length = 20) {ln : ByteArray} (h : ln.data.toList = (wl a).1.data.toList ++ flat (wl a).2) (hok : ∀ v ∈ (wl a).2, okN v = true) : ((parseS ln).2 ≠ 0 ∨ (parseS ln).1 ≠ a → printL a = (⟨#[]⟩, 36)) ∧ ((parseS ln).2 = 0 → (parseS ln).1 = a → printL a = (ln, 0)) := by
  unfold wl at h hok
  cases hf : cos.find? (fun c => decide (c.kind = a.headD 0)) with
  | none =>
    rw [hf] at h
    rw [parseS_nil (s := ln) (by rw [h]; rfl)]
    exact ⟨fun _ => print_none hf, fun h => by simp at h⟩
  | some c =>
    rw [hf] at h hok
    simp only at h hok
    have hc := List.mem_of_find?_eq_some hf
    have hk : c.kind = a.headD 0 := of_decide_eq_true (List.find?_some (p := fun c : Co => decide (c.kind = a.headD 0)) hf)
    have h' : ln.data.toList = c.word ++ flat (c.offs.map fun o => a.getD o 0) := by rw [h]; rfl
    rw [parse_words hc (by simp) hok h']
    refine ⟨fun hh => print_no hc ha hk fun h2 => ?_, fun _ h2 => print_yes hc (fun o ho => hok _ (List.mem_map_of_mem ho)) h2 h'⟩
    rcases hh with hh | hh
    · exact hh rfl
    · exact hh h2.2
theorem flat_app (l : List Int) (v : Int) : flat (l ++ [v]) = flat l ++ 32 :: Go.Lib.itoa v := by
  induction l with
  | nil => simp [flat]
  | cons x l ih => rw [List.cons_append, flat, flat, ih]; simp
set_option maxRecDepth 20000 in
set_option maxHeartbeats 1000000 in
theorem rwords_w (a : List Int) (ha : a.length = 20) (w : World) : Calls Tryz.prog 25 #[.agg (a.map I64).toArray] w fun e w' => ∃ x : Option Addr × Nat, e = .returned (.tuple #[.string (wl a).1, .slice x.1 (wl a).2.length x.2]) ∧ Mem w [rowT 3 1 intC x.1 x.2 (wl a).2] w' := by
  match a, ha with
  | [a0, a1, a2, a3, a4, a5, a6, a7, a8, a9, a10, a11, a12, a13, a14, a15, a16, a17, a18, a19], _ =>
  refine H_enter Tryz.func25 rfl Tryz.ntmps25 rfl ?_
  refine H_seq ?_
  refine R0 ?_
  refine X_box (v := .agg _) rfl rfl fun b1 => ?_
  refine xV (e_as (v := .string _) (q0 rfl)) rfl rfl ?_
  refine xV (e_as (v := .slice _ _ _) (q0 rfl)) rfl rfl ?_
  refine XN ?_
  refine thenJ_normal ?_
  refine H_seq ?_
  refine H_seq ?_
  refine R0 ?_
  refine xV (e_fld Tryz.underlying30 rfl Tryz.sizeOf3 rfl (q0 rfl)) rfl rfl ?_
  refine xV (eL Tryz.isAgg3 (q0 rfl)) rfl rfl ?_
  refine XN ?_
  refine thenJ_normal ?_
  refine H_block ?_
  refine H_seq ?_
  refine R0 ?_
  refine xV (e_eq (q0 rfl) (q0 rfl)) rfl rfl ?_
  refine xV (e_as (v := .bool _) (q0 rfl)) rfl rfl ?_
  refine XN ?_
  refine thenJ_normal ?_
  refine H_cond rfl (fun h0 => ?_) (fun h0 => ?_)
  · have e : a0 = 1 := of_decide_eq_true h0
    subst e
    refine H_seq ?_
    refine R0 ?_
    refine xV (e_fld Tryz.underlying30 rfl Tryz.sizeOf24 rfl (q0 rfl)) rfl rfl ?_
    refine xV (eP Tryz.isAgg24 Tryz.sizeOf24 (q0 rfl)) rfl rfl ?_
    refine X_alloc Tryz.zeroValue24 rfl fun b4 => ?_
    refine X_st (v := .agg _) rfl rfl Tryz.sizeOf24 ?_
    refine XN ?_
    refine thenJ_normal ?_
    refine H_seq ?_
    refine RA rfl (by decide +kernel) ?_
    refine aV 0 (by decide +kernel) rfl (e_fld Tryz.underlying24 rfl Tryz.sizeOf3 rfl (q0 rfl)) rfl ?_
    refine aV 1 (by decide +kernel) rfl (eL Tryz.isAgg3 (q0 rfl)) rfl ?_
    refine aV 2 (by decide +kernel) rfl (e_fld Tryz.underlying24 rfl Tryz.sizeOf3 rfl (q0 rfl)) rfl ?_
    refine aV 3 (by decide +kernel) rfl (eL Tryz.isAgg3 (q0 rfl)) rfl ?_
    refine aV 4 (by decide +kernel) rfl (e_fld Tryz.underlying24 rfl Tryz.sizeOf3 rfl (q0 rfl)) rfl ?_
    refine aV 5 (by decide +kernel) rfl (eL Tryz.isAgg3 (q0 rfl)) rfl ?_
    refine aV 6 (by decide +kernel) rfl (e_fld Tryz.underlying24 rfl Tryz.sizeOf3 rfl (q0 rfl)) rfl ?_
    refine aV 7 (by decide +kernel) rfl (eL Tryz.isAgg3 (q0 rfl)) rfl ?_
    refine aV 8 (by decide +kernel) rfl (e_fld Tryz.underlying24 rfl Tryz.sizeOf3 rfl (q0 rfl)) rfl ?_
    refine aV 9 (by decide +kernel) rfl (eL Tryz.isAgg3 (q0 rfl)) rfl ?_
    refine aV 10 (by decide +kernel) rfl (e_fld Tryz.underlying24 rfl Tryz.sizeOf3 rfl (q0 rfl)) rfl ?_
    refine aV 11 (by decide +kernel) rfl (eL Tryz.isAgg3 (q0 rfl)) rfl ?_
    refine aV 12 (by decide +kernel) rfl (e_fld Tryz.underlying24 rfl Tryz.sizeOf3 rfl (q0 rfl)) rfl ?_
    refine aV 13 (by decide +kernel) rfl (eL Tryz.isAgg3 (q0 rfl)) rfl ?_
    refine aV 14 (by decide +kernel) rfl (e_fld Tryz.underlying24 rfl Tryz.sizeOf3 rfl (q0 rfl)) rfl ?_
    refine aV 15 (by decide +kernel) rfl (eL Tryz.isAgg3 (q0 rfl)) rfl ?_
    refine aV 16 (by decide +kernel) rfl (e_fld Tryz.underlying24 rfl Tryz.sizeOf3 rfl (q0 rfl)) rfl ?_
    refine aV 17 (by decide +kernel) rfl (eL Tryz.isAgg3 (q0 rfl)) rfl ?_
    refine aV 19 (by decide +kernel) rfl (e_as (v := .string _) (q0 rfl)) rfl ?_
    refine rdy1 (i := 18) (by decide +kernel) (sub_drop 0) ?_
    refine aL rfl (f_slit [(.int .i64 0), (.int .i64 0), (.int .i64 0), (.int .i64 0), (.int .i64 0), (.int .i64 0), (.int .i64 0), (.int .i64 0), (.int .i64 0)] Tryz.underlying42 Tryz.sizeOf3 Tryz.zeroValue3 rfl (by kernel_rfl) (pt (v := .int _ _) rfl (pt (v := .int _ _) rfl (pt (v := .int _ _) rfl (pt (v := .int _ _) rfl (pt (v := .int _ _) rfl (pt (v := .int _ _) rfl (pt (v := .int _ _) rfl (pt (v := .int _ _) rfl (pt (v := .int _ _) rfl E.p0))))))))) rfl rfl fun b29 => ?_)
    refine aRL (sub_drop 1) ?_
    refine aV 20 (by decide +kernel) rfl (e_as (v := .slice _ _ _) (q0 rfl)) rfl ?_
    refine aZ (by decide +kernel) (sub_drop 0) ?_
    refine thenJ_normal ?_
    refine H_ret ?_
    refine blockJ_ret ?_
    refine thenJ_ret ?_
    exact ret2 (v := .string _) (x := .slice _ _ _) rfl rfl rfl rfl fun w' hw => ⟨(some ⟨b29, 0, none⟩, 9), rfl, Mem.boxRow (j := 0) (b := b29) (xs := [a3, a4, a5, a6, a7, a8, a9, a10, a11]) (enc := intC) (hw.pick [0] (by decide)) rfl (fun _ => rfl) (by simp)⟩
  · have e1 : a0 ≠ 1 := of_decide_eq_false h0
    refine H_seq ?_
    refine R0 ?_
    refine xV (e_eq (q0 rfl) (q0 rfl)) rfl rfl ?_
    refine xV (e_as (v := .bool _) (q0 rfl)) rfl rfl ?_
    refine XN ?_
    refine thenJ_normal ?_
    refine H_cond rfl (fun h1 => ?_) (fun h1 => ?_)
    · have e : a0 = 2 := of_decide_eq_true h1
      subst e
      refine H_seq ?_
      refine RA rfl (by decide +kernel) ?_
      refine aV 0 (by decide +kernel) rfl (e_fld Tryz.underlying30 rfl Tryz.sizeOf26 rfl (q0 rfl)) rfl ?_
      refine aV 1 (by decide +kernel) rfl (e_fld Tryz.underlying26 rfl Tryz.sizeOf3 rfl (q0 rfl)) rfl ?_
      refine aV 2 (by decide +kernel) rfl (eL Tryz.isAgg3 (q0 rfl)) rfl ?_
      refine aV 3 (by decide +kernel) rfl (e_fld Tryz.underlying30 rfl Tryz.sizeOf26 rfl (q0 rfl)) rfl ?_
      refine aV 4 (by decide +kernel) rfl (e_fld Tryz.underlying26 rfl Tryz.sizeOf3 rfl (q0 rfl)) rfl ?_
      refine aV 5 (by decide +kernel) rfl (eL Tryz.isAgg3 (q0 rfl)) rfl ?_
      refine aV 6 (by decide +kernel) rfl (e_fld Tryz.underlying30 rfl Tryz.sizeOf26 rfl (q0 rfl)) rfl ?_
      refine aV 7 (by decide +kernel) rfl (e_fld Tryz.underlying26 rfl Tryz.sizeOf3 rfl (q0 rfl)) rfl ?_
      refine aV 8 (by decide +kernel) rfl (eL Tryz.isAgg3 (q0 rfl)) rfl ?_
      refine aV 9 (by decide +kernel) rfl (e_fld Tryz.underlying30 rfl Tryz.sizeOf26 rfl (q0 rfl)) rfl ?_
      refine aV 10 (by decide +kernel) rfl (e_fld Tryz.underlying26 rfl Tryz.sizeOf3 rfl (q0 rfl)) rfl ?_
      refine aV 11 (by decide +kernel) rfl (eL Tryz.isAgg3 (q0 rfl)) rfl ?_
      refine aV 13 (by decide +kernel) rfl (e_as (v := .string _) (q0 rfl)) rfl ?_
      refine rdy1 (i := 12) (by decide +kernel) (sub_drop 0) ?_
      refine aL rfl (f_slit [(.int .i64 0), (.int .i64 0), (.int .i64 0), (.int .i64 0)] Tryz.underlying42 Tryz.sizeOf3 Tryz.zeroValue3 rfl (by kernel_rfl) (pt (v := .int _ _) rfl (pt (v := .int _ _) rfl (pt (v := .int _ _) rfl (pt (v := .int _ _) rfl E.p0)))) rfl rfl fun b44 => ?_)
      refine aRL (sub_drop 1) ?_
      refine aV 14 (by decide +kernel) rfl (e_as (v := .slice _ _ _) (q0 rfl)) rfl ?_
      refine aZ (by decide +kernel) (sub_drop 0) ?_
      refine thenJ_normal ?_
      refine H_ret ?_
      refine blockJ_ret ?_
      refine thenJ_ret ?_
      exact ret2 (v := .string _) (x := .slice _ _ _) rfl rfl rfl rfl fun w' hw => ⟨(some ⟨b44, 0, none⟩, 4), rfl, Mem.boxRow (j := 0) (b := b44) (xs := [a12, a13, a14, a15]) (enc := intC) (hw.pick [0] (by decide)) rfl (fun _ => rfl) (by simp)⟩
    · have e2 : a0 ≠ 2 := of_decide_eq_false h1
      refine H_seq ?_
      refine R0 ?_
      refine xV (e_eq (q0 rfl) (q0 rfl)) rfl rfl ?_
      refine xV (e_as (v := .bool _) (q0 rfl)) rfl rfl ?_
      refine XN ?_
      refine thenJ_normal ?_
      refine H_cond rfl (fun h2 => ?_) (fun h2 => ?_)
      · have e : a0 = 3 := of_decide_eq_true h2
        subst e
        refine H_seq ?_
        refine RA rfl (by decide +kernel) ?_
        refine aV 0 (by decide +kernel) rfl (e_fld Tryz.underlying30 rfl Tryz.sizeOf28 rfl (q0 rfl)) rfl ?_
        refine aV 1 (by decide +kernel) rfl (e_fld Tryz.underlying28 rfl Tryz.sizeOf3 rfl (q0 rfl)) rfl ?_
        refine aV 2 (by decide +kernel) rfl (eL Tryz.isAgg3 (q0 rfl)) rfl ?_
        refine aV 3 (by decide +kernel) rfl (e_fld Tryz.underlying30 rfl Tryz.sizeOf28 rfl (q0 rfl)) rfl ?_
        refine aV 4 (by decide +kernel) rfl (e_fld Tryz.underlying28 rfl Tryz.sizeOf3 rfl (q0 rfl)) rfl ?_
        refine aV 5 (by decide +kernel) rfl (eL Tryz.isAgg3 (q0 rfl)) rfl ?_
        refine aV 6 (by decide +kernel) rfl (e_fld Tryz.underlying30 rfl Tryz.sizeOf28 rfl (q0 rfl)) rfl ?_
        refine aV 7 (by decide +kernel) rfl (e_fld Tryz.underlying28 rfl Tryz.sizeOf3 rfl (q0 rfl)) rfl ?_
        refine aV 8 (by decide +kernel) rfl (eL Tryz.isAgg3 (q0 rfl)) rfl ?_
        refine aV 9 (by decide +kernel) rfl (e_fld Tryz.underlying30 rfl Tryz.sizeOf28 rfl (q0 rfl)) rfl ?_
        refine aV 10 (by decide +kernel) rfl (e_fld Tryz.underlying28 rfl Tryz.sizeOf3 rfl (q0 rfl)) rfl ?_
        refine aV 11 (by decide +kernel) rfl (eL Tryz.isAgg3 (q0 rfl)) rfl ?_
        refine aV 13 (by decide +kernel) rfl (e_as (v := .string _) (q0 rfl)) rfl ?_
        refine rdy1 (i := 12) (by decide +kernel) (sub_drop 0) ?_
        refine aL rfl (f_slit [(.int .i64 0), (.int .i64 0), (.int .i64 0), (.int .i64 0)] Tryz.underlying42 Tryz.sizeOf3 Tryz.zeroValue3 rfl (by kernel_rfl) (pt (v := .int _ _) rfl (pt (v := .int _ _) rfl (pt (v := .int _ _) rfl (pt (v := .int _ _) rfl E.p0)))) rfl rfl fun b59 => ?_)
        refine aRL (sub_drop 1) ?_
        refine aV 14 (by decide +kernel) rfl (e_as (v := .slice _ _ _) (q0 rfl)) rfl ?_
        refine aZ (by decide +kernel) (sub_drop 0) ?_
        refine thenJ_normal ?_
        refine H_ret ?_
        refine blockJ_ret ?_
        refine thenJ_ret ?_
        exact ret2 (v := .string _) (x := .slice _ _ _) rfl rfl rfl rfl fun w' hw => ⟨(some ⟨b59, 0, none⟩, 4), rfl, Mem.boxRow (j := 0) (b := b59) (xs := [a16, a17, a18, a19]) (enc := intC) (hw.pick [0] (by decide)) rfl (fun _ => rfl) (by simp)⟩
      · have e3 : a0 ≠ 3 := of_decide_eq_false h2
        refine H_seq ?_
        refine R0 ?_
        refine xV (e_eq (q0 rfl) (q0 rfl)) rfl rfl ?_
        refine xV (e_as (v := .bool _) (q0 rfl)) rfl rfl ?_
        refine XN ?_
        refine thenJ_normal ?_
        refine H_cond rfl (fun h3 => ?_) (fun h3 => ?_)
        · have e : a0 = 4 := of_decide_eq_true h3
          subst e
          refine H_seq ?_
          refine R0 ?_
          refine xV (e_as (v := .string _) (q0 rfl)) rfl rfl ?_
          refine xV (e_as (v := .slice _ _ _) (q0 rfl)) rfl rfl ?_
          refine XN ?_
          refine thenJ_normal ?_
          refine H_ret ?_
          refine blockJ_ret ?_
          refine thenJ_ret ?_
          exact ret2 (v := .string _) (x := .slice _ _ _) rfl rfl rfl rfl fun w' hw => ⟨(none, 0), rfl, (mem_nil.2 hw.1).nilRow _ _ _ rfl⟩
        · have e4 : a0 ≠ 4 := of_decide_eq_false h3
          refine H_seq ?_
          refine R0 ?_
          refine xV (e_eq (q0 rfl) (q0 rfl)) rfl rfl ?_
          refine xV (e_as (v := .bool _) (q0 rfl)) rfl rfl ?_
          refine XN ?_
          refine thenJ_normal ?_
          refine H_cond rfl (fun h4 => ?_) (fun h4 => ?_)
          · have e : a0 = 5 := of_decide_eq_true h4
            subst e
            refine H_seq ?_
            refine RA rfl (by decide +kernel) ?_
            refine aV 0 (by decide +kernel) rfl (e_fld Tryz.underlying30 rfl Tryz.sizeOf3 rfl (q0 rfl)) rfl ?_
            refine aV 1 (by decide +kernel) rfl (eL Tryz.isAgg3 (q0 rfl)) rfl ?_
            refine aV 2 (by decide +kernel) rfl (e_fld Tryz.underlying30 rfl Tryz.sizeOf3 rfl (q0 rfl)) rfl ?_
            refine aV 3 (by decide +kernel) rfl (eL Tryz.isAgg3 (q0 rfl)) rfl ?_
            refine aV 5 (by decide +kernel) rfl (e_as (v := .string _) (q0 rfl)) rfl ?_
            refine rdy1 (i := 4) (by decide +kernel) (sub_drop 0) ?_
            refine aL rfl (f_slit [(.int .i64 0), (.int .i64 0)] Tryz.underlying42 Tryz.sizeOf3 Tryz.zeroValue3 rfl (by kernel_rfl) (pt (v := .int _ _) rfl (pt (v := .int _ _) rfl E.p0)) rfl rfl fun b68 => ?_)
            refine aRL (sub_drop 1) ?_
            refine aV 6 (by decide +kernel) rfl (e_as (v := .slice _ _ _) (q0 rfl)) rfl ?_
            refine aZ (by decide +kernel) (sub_drop 0) ?_
            refine thenJ_normal ?_
            refine H_ret ?_
            refine blockJ_ret ?_
            refine thenJ_ret ?_
            exact ret2 (v := .string _) (x := .slice _ _ _) rfl rfl rfl rfl fun w' hw => ⟨(some ⟨b68, 0, none⟩, 2), rfl, Mem.boxRow (j := 0) (b := b68) (xs := [a1, a2]) (enc := intC) (hw.pick [0] (by decide)) rfl (fun _ => rfl) (by simp)⟩
          · have e5 : a0 ≠ 5 := of_decide_eq_false h4
            refine H_seq ?_
            refine R0 ?_
            refine xV (e_eq (q0 rfl) (q0 rfl)) rfl rfl ?_
            refine xV (e_as (v := .bool _) (q0 rfl)) rfl rfl ?_
            refine XN ?_
            refine thenJ_normal ?_
            refine H_cond rfl (fun h5 => ?_) (fun h5 => ?_)
            · have e : a0 = 6 := of_decide_eq_true h5
              subst e
              refine H_seq ?_
              refine R0 ?_
              refine xV (e_as (v := .string _) (q0 rfl)) rfl rfl ?_
              refine xV (e_as (v := .slice _ _ _) (q0 rfl)) rfl rfl ?_
              refine XN ?_
              refine thenJ_normal ?_
              refine H_ret ?_
              refine blockJ_ret ?_
              refine thenJ_ret ?_
              exact ret2 (v := .string _) (x := .slice _ _ _) rfl rfl rfl rfl fun w' hw => ⟨(none, 0), rfl, (mem_nil.2 hw.1).nilRow _ _ _ rfl⟩
            · have e6 : a0 ≠ 6 := of_decide_eq_false h5
              have hwl : wl [a0, a1, a2, a3, a4, a5, a6, a7, a8, a9, a10, a11, a12, a13, a14, a15, a16, a17, a18, a19] = (⟨#[]⟩, []) := by
                unfold wl
                rw [List.find?_eq_none.2 fun c hc => ?_]
                simp only [cos, List.mem_cons, List.not_mem_nil, or_false] at hc
                rcases hc with rfl | rfl | rfl | rfl | rfl | rfl
                · exact fun h => e1 (of_decide_eq_true h).symm
                · exact fun h => e2 (of_decide_eq_true h).symm
                · exact fun h => e3 (of_decide_eq_true h).symm
                · exact fun h => e4 (of_decide_eq_true h).symm
                · exact fun h => e5 (of_decide_eq_true h).symm
                · exact fun h => e6 (of_decide_eq_true h).symm
              rw [hwl]
              refine H_skip ?_
              refine blockJ_normal ?_
              refine thenJ_normal ?_
              refine H_seq ?_
              refine R0 ?_
              refine xV (e_as (v := .string _) (q0 rfl)) rfl rfl ?_
              refine xV (e_as (v := .slice _ _ _) (q0 rfl)) rfl rfl ?_
              refine XN ?_
              refine thenJ_normal ?_
              refine H_ret ?_
              exact ret2 (v := .string _) (x := .slice _ _ _) rfl rfl rfl rfl fun w' hw => ⟨(none, 0), rfl, (mem_nil.2 hw.1).nilRow _ _ _ rfl⟩
set_option maxRecDepth 20000 in
set_option maxHeartbeats 1000000 in
theorem rprint_w (a : List Int) (ha : a.length = 20) (w : World) : Calls Tryz.prog 10 #[.agg (a.map I64).toArray] w fun e w' => e = .returned (.tuple #[.string (printL a).1, .int .i64 (printL a).2]) ∧ Bel w w' := by
  have hal : (a.map I64).length = 20 := by rw [List.length_map, ha]
  have hsm := wl_small a
  have hbad : ∀ v ∈ (wl a).2, okN v = false → printL a = (⟨#[]⟩, 36) := fun v => ref_bad ha
  have hend : ∀ ln : ByteArray, ln.data.toList = (wl a).1.data.toList ++ flat (wl a).2 → (∀ v ∈ (wl a).2, okN v = true) → ((parseS ln).2 ≠ 0 ∨ (parseS ln).1 ≠ a → printL a = (⟨#[]⟩, 36)) ∧ ((parseS ln).2 = 0 → (parseS ln).1 = a → printL a = (ln, 0)) := fun ln => ref_print ha
  have hwd : ∀ w, Calls Tryz.prog 25 #[.agg (a.map I64).toArray] w fun e w' => ∃ x : Option Addr × Nat, e = .returned (.tuple #[.string (wl a).1, .slice x.1 (wl a).2.length x.2]) ∧ Mem w [rowT 3 1 intC x.1 x.2 (wl a).2] w' := fun w => rwords_w a ha w
  generalize hwl : wl a = p at *
  obtain ⟨wo, vs⟩ := p
  have hsm1 : wo.size ≤ 10 := hsm.1
  have hsm2 : vs.length ≤ 9 := hsm.2
  refine H_enter Tryz.func10 rfl Tryz.ntmps10 rfl ?_
  refine H_seq ?_
  refine R0 ?_
  refine X_box (v := .agg _) rfl rfl fun b1 => ?_
  refine xV (e_as (v := .string _) (q0 rfl)) rfl rfl ?_
  refine xV (e_as (v := .int _ _) (q0 rfl)) rfl rfl ?_
  refine XN ?_
  refine thenJ_normal ?_
  refine H_seq ?_
  refine R0 ?_
  refine xV (eS Tryz.isAgg30 Tryz.sizeOf30 (q0 rfl) (hl := hal)) rfl rfl ?_
  refine xCX (en Tryz.call25 (ha1 (q0 rfl))) (fun w _ => hwd w) rfl (fun _ => rfl) fun x => ?_
  obtain ⟨A, cp⟩ := x
  refine xV (e_mv (q0 rfl)) rfl rfl ?_
  refine xV (e_ext (q0 rfl) rfl) rfl rfl ?_
  refine xV (e_ext (q0 rfl) rfl) rfl rfl ?_
  refine xV (e_as (v := .string _) (q0 rfl)) rfl rfl ?_
  refine xV (e_as (v := .slice _ _ _) (q0 rfl)) rfl rfl ?_
  refine XN ?_
  refine thenJ_normal ?_
  refine H_seq ?_
  refine H_seq ?_
  refine R0 ?_
  refine xV (e_as (v := .int _ _) (q0 rfl)) rfl rfl ?_
  refine XN ?_
  refine thenJ_normal ?_
  refine H_block ?_
  refine H_loop [2, 3, 4, 6, 7, 8, 16, 17, 18, 19, 20, 21, 22, 23, 24, 25, 26, 27, 28, 29, 30, 31, 32, 33, 34, 35] (fun t : Nat × ByteArray => [(6, .int .i64 t.1), (4, .string t.2)]) (fun _ => [rowT 3 1 intC A cp vs, box b1 30 (a.map I64)]) (fun t => t.1 ≤ vs.length ∧ t.2.data.toList = wo.data.toList ++ flat (vs.take t.1) ∧ (∀ v ∈ vs.take t.1, okN v = true) ∧ t.2.size ≤ 10 + 20 * t.1) (fun t => vs.length - t.1) (0, wo) ⟨rfl, rfl, trivial⟩ (fun w hw => hw) rfl ⟨Nat.zero_le _, by simp [flat], by simp, by simpa using hsm1⟩ ?_
  rintro ⟨i, ln⟩ g ⟨hin, hd, hok, hz⟩
  have hin : i ≤ vs.length := hin
  have hd : ln.data.toList = wo.data.toList ++ flat (vs.take i) := hd
  have hok : ∀ v ∈ vs.take i, okN v = true := hok
  have hz : ln.size ≤ 10 + 20 * i := hz
  refine H_seq ?_
  refine H_seq ?_
  refine R0 ?_
  refine xV (e_mv (v := .int _ _) (q0 rfl)) rfl rfl ?_
  refine xV (e_mv (v := .slice _ _ _) (q0 rfl)) rfl rfl ?_
  refine xV (e_len Tryz.underlying42 (q0 rfl)) rfl rfl ?_
  refine xV (e_lt (q0 rfl) (q0 rfl)) rfl rfl ?_
  refine XN ?_
  refine thenJ_normal ?_
  refine H_cond rfl (fun hlt => ?_) (fun hlt => ?_)
  · have hlt' : i < vs.length := by simp only [decide_eq_true_eq] at hlt; omega
    obtain ⟨v, hv⟩ : ∃ v, vs[i]? = some v := ⟨_, List.getElem?_eq_getElem hlt'⟩
    have hs1 := snoc vs i v hv
    refine H_know (fun w hw => rowT_at (j := 0) hw rfl (by omega)) fun ⟨pb, hpb⟩ => ?_
    subst hpb
    refine H_skip ?_
    refine thenJ_normal ?_
    refine H_seq ?_
    refine H_block ?_
    refine H_seq ?_
    refine R0 ?_
    refine xV (e_mv (v := .slice _ _ _) (q0 rfl)) rfl rfl ?_
    refine xV (e_mv (v := .int _ _) (q0 rfl)) rfl rfl ?_
    refine xV (e_idx _ Tryz.underlying42 Tryz.sizeOf3 (q0 rfl) (q0 rfl) (fun _ => ⟨rfl, by omega⟩)) rfl rfl ?_
    refine xV (eL Tryz.isAgg3 (q0 rfl) (rr0 0 rfl hv rfl)) rfl rfl ?_
    by_cases hv1 : okN v = true
    · have _ht : True := trivial
      obtain ⟨hv2, hv3⟩ := of_decide_eq_true hv1
      have htz := txt_size hv2 hv3
      refine xC (en Tryz.call26 (ha2 (q0 rfl) (q0 rfl))) (fun _ w _ => rfmtOk_w v w hv1) rfl rfl ?_
      refine xV (e_mv (q0 rfl)) rfl rfl ?_
      refine xV (e_ext (q0 rfl) rfl) rfl rfl ?_
      refine xV (e_ext (q0 rfl) rfl) rfl rfl ?_
      refine xV (e_as (v := .string _) (q0 rfl)) rfl rfl ?_
      refine xV (e_as (v := .int _ _) (q0 rfl)) rfl rfl ?_
      refine XN ?_
      refine thenJ_normal ?_
      refine H_seq ?_
      refine H_seq ?_
      refine R0 ?_
      refine xV (e_mv (v := .int _ _) (q0 rfl)) rfl rfl ?_
      refine xV (e_ne (q0 rfl) (q0 rfl)) rfl rfl ?_
      refine XN ?_
      refine thenJ_normal ?_
      refine H_cond rfl (fun hq => ?_) (fun hq => ?_)
      · exfalso
        simp at hq
      · have _ht : True := trivial
        have hz2 : (ln ++ (⟨#[32]⟩ : ByteArray)).size = ln.size + 1 := by rw [ByteArray.size_append]; rfl
        refine H_skip ?_
        refine thenJ_normal ?_
        refine R0 ?_
        refine xV (e_mv (v := .string _) (q0 rfl)) rfl rfl ?_
        refine xV (e_cat (q0 rfl) (q0 rfl) (fun _ => by have : (⟨#[32]⟩ : ByteArray).size = 1 := rfl; omega)) rfl rfl ?_
        refine xV (e_mv (v := .string _) (q0 rfl)) rfl rfl ?_
        refine xV (e_cat (q0 rfl) (q0 rfl) (fun _ => by have h5 : (ln ++ (⟨#[32]⟩ : ByteArray)).size + (txt v).size ≤ 9223372036854775807 := (by omega); exact h5)) rfl rfl ?_
        refine xV (e_as (v := .string _) (q0 rfl)) rfl rfl ?_
        refine XN ?_
        refine blockJ_normal ?_
        refine thenJ_normal ?_
        refine R0 ?_
        refine xV (e_mv (v := .int _ _) (q0 rfl)) rfl rfl ?_
        refine xV (e_add (q0 rfl) (q0 rfl) (fun _ => ⟨rfl, by omega, by omega⟩)) rfl rfl ?_
        refine xV (e_as (v := .int _ _) (q0 rfl)) rfl rfl ?_
        refine XN ?_
        exact loopJ_normal (i + 1, ln ++ (⟨#[32]⟩ : ByteArray) ++ txt v) (by repeat (first | exact agree_self | exact agree_over | refine agree_upd rfl ?_ | refine agree_updL rfl ?_ | refine agree_over2 rfl ?_)) ⟨rfl, rfl, trivial⟩ (fun w hw => hw) rfl ⟨by show i + 1 ≤ vs.length; omega, by
          show (ln ++ (⟨#[32]⟩ : ByteArray) ++ txt v).data.toList = wo.data.toList ++ flat (vs.take (i + 1))
          rw [hs1, flat_app, cat_data, cat_data, hd, txt_data]
          simp, by
          show ∀ v ∈ vs.take (i + 1), okN v = true
          rw [hs1]
          intro x hx
          rcases List.mem_append.1 hx with hx | hx
          · exact hok x hx
          · rw [List.mem_singleton.1 hx]; exact hv1, by
          show (ln ++ (⟨#[32]⟩ : ByteArray) ++ txt v).size ≤ 10 + 20 * (i + 1)
          rw [ByteArray.size_append, hz2]; omega⟩ (by show vs.length - (i + 1) < vs.length - i; omega)
    · have hv1 : okN v = false := by simpa using hv1
      refine xC (en Tryz.call26 (ha2 (q0 rfl) (q0 rfl))) (fun _ w _ => rfmtBad_w v w hv1) rfl rfl ?_
      refine xV (e_mv (q0 rfl)) rfl rfl ?_
      refine xV (e_ext (q0 rfl) rfl) rfl rfl ?_
      refine xV (e_ext (q0 rfl) rfl) rfl rfl ?_
      refine xV (e_as (v := .string _) (q0 rfl)) rfl rfl ?_
      refine xV (e_as (v := .int _ _) (q0 rfl)) rfl rfl ?_
      refine XN ?_
      refine thenJ_normal ?_
      refine H_seq ?_
      refine H_seq ?_
      refine R0 ?_
      refine xV (e_mv (v := .int _ _) (q0 rfl)) rfl rfl ?_
      refine xV (e_ne (q0 rfl) (q0 rfl)) rfl rfl ?_
      refine XN ?_
      refine thenJ_normal ?_
      refine H_cond rfl (fun hq => ?_) (fun hq => ?_)
      · rw [hbad v (List.mem_of_getElem? hv) hv1]
        refine H_seq ?_
        refine R0 ?_
        refine xV (e_as (v := .string _) (q0 rfl)) rfl rfl ?_
        refine xV (e_as (v := .int _ _) (q0 rfl)) rfl rfl ?_
        refine XN ?_
        refine thenJ_normal ?_
        refine H_ret ?_
        refine thenJ_ret ?_
        refine blockJ_ret ?_
        refine thenJ_ret ?_
        refine loopJ_ret ?_
        refine blockJ_ret ?_
        refine thenJ_ret ?_
        exact ret2 (v := .string _) (x := .int _ _) rfl rfl rfl rfl fun w' hw => ⟨rfl, hw.1⟩
      · exfalso
        simp at hq
  · have hie : i = vs.length := by simp only [decide_eq_false_iff_not] at hlt; omega
    subst hie
    rw [List.take_length] at hd hok
    have hfin := hend ln hd hok
    have hrp : ∀ w, Calls Tryz.prog 8 #[.string ln] w fun e w' => e = .returned (.tuple #[.agg ((parseS ln).1.map I64).toArray, .int .i64 (parseS ln).2]) ∧ Bel w w' := fun w => rparse_w ln w (by omega)
    have hpl := parse_len ln
    generalize hP : parseS ln = P at *
    obtain ⟨b, e⟩ := P
    have hpl : b.length = 20 := hpl
    have hbl : (b.map I64).length = 20 := by rw [List.length_map, hpl]
    refine H_exit ?_
    refine thenJ_exit ?_
    refine loopJ_exit ?_
    refine blockJ_hit ?_
    refine thenJ_normal ?_
    refine H_seq ?_
    refine H_seq ?_
    refine R0 ?_
    refine xV (e_mv (v := .string _) (q0 rfl)) rfl rfl ?_
    refine xC (en Tryz.call8 (ha1 (q0 rfl))) (fun _ w _ => hrp w) rfl rfl ?_
    refine xV (e_mv (q0 rfl)) rfl rfl ?_
    refine xV (e_ext (q0 rfl) rfl) rfl rfl ?_
    refine xV (e_ext (q0 rfl) rfl) rfl rfl ?_
    refine X_alloc Tryz.zeroValue30 rfl fun b9 => ?_
    refine X_store (v := .agg (b.map I64).toArray) 0 rfl rfl Tryz.sizeOf30 (by simp [Value.cells, hpl]) (one_map _) rfl (by rw [cells_map, hbl]; rfl) ?_; refine XL_all hpl 0 rfl ?_
    refine xV (e_as (v := .int _ _) (q0 rfl)) rfl rfl ?_
    refine XN ?_
    refine thenJ_normal ?_
    refine H_seq ?_
    refine R0 ?_
    refine xV (e_mv (v := .int _ _) (q0 rfl)) rfl rfl ?_
    refine xV (e_ne (q0 rfl) (q0 rfl)) rfl rfl ?_
    refine xV (e_mv (v := .bool _) (q0 rfl)) rfl rfl ?_
    refine xVF (eS Tryz.isAgg30 Tryz.sizeOf30 (q0 rfl) (bxs 0 rfl) (hl := hbl)) rfl rfl rfl rfl ?_
    refine xVF (eS Tryz.isAgg30 Tryz.sizeOf30 (q0 rfl) (bxs 2 rfl) (hl := hal)) rfl rfl rfl rfl ?_
    refine xVF (e_neS (act_eq b a hpl ha) act_gd (q1 rfl) (q1 rfl)) rfl rfl rfl rfl ?_
    refine xV (e_or (q0 rfl) rfl (fun h => by first | rfl | (rw [h]; rfl))) rfl rfl ?_
    refine XN ?_
    refine thenJ_normal ?_
    refine H_cond rfl (fun hq => ?_) (fun hq => ?_)
    · have hq : (!decide (e = 0) || !(b == a)) = true := hq
      rw [hfin.1 (by
        rw [Bool.or_eq_true] at hq
        rcases hq with h | h
        · exact .inl (by simpa using h)
        · exact .inr (by simpa using h))]
      refine H_seq ?_
      refine R0 ?_
      refine xV (e_as (v := .string _) (q0 rfl)) rfl rfl ?_
      refine xV (e_as (v := .int _ _) (q0 rfl)) rfl rfl ?_
      refine XN ?_
      refine thenJ_normal ?_
      refine H_ret ?_
      refine thenJ_ret ?_
      exact ret2 (v := .string _) (x := .int _ _) rfl rfl rfl rfl fun w' hw => ⟨rfl, hw.1⟩
    · have hq : (!decide (e = 0) || !(b == a)) = false := hq
      rw [Bool.or_eq_false_iff] at hq
      rw [hfin.2 (by simpa using hq.1) (by simpa using hq.2)]
      refine H_skip ?_
      refine thenJ_normal ?_
      refine H_seq ?_
      refine R0 ?_
      refine xV (e_mv (v := .string _) (q0 rfl)) rfl rfl ?_
      refine xV (e_as (v := .string _) (q0 rfl)) rfl rfl ?_
      refine xV (e_as (v := .int _ _) (q0 rfl)) rfl rfl ?_
      refine XN ?_
      refine thenJ_normal ?_
      refine H_ret ?_
      exact ret2 (v := .string _) (x := .int _ _) rfl rfl rfl rfl fun w' hw => ⟨rfl, hw.1⟩
set_option maxRecDepth 20000 in
set_option maxHeartbeats 1000000 in
theorem printsLaw_w (a : List Int) (ha : a.length = 20) (w : World) (hl : Lw w) : Calls Tryz.prog 4 #[.agg (a.map I64).toArray] w fun e w' => e = .returned (.bool true) ∧ Blw w w' := by
  have hal : (a.map I64).length = 20 := by rw [List.length_map, ha]
  refine H_enterP0 Tryz.func4 rfl Tryz.ntmps4 rfl ?_
  refine H_seq ?_
  refine R0 ?_
  refine X_box (v := .agg _) rfl rfl fun b1 => ?_
  refine xV (e_as (v := .bool _) (q0 rfl)) rfl rfl ?_
  refine XN ?_
  refine thenJ_normal ?_
  refine H_seq ?_
  refine R0 ?_
  refine xV (eS Tryz.isAgg30 Tryz.sizeOf30 (q0 rfl) (hl := hal)) rfl rfl ?_
  refine xC0 rfl (en Tryz.call9 (ha1 (q0 rfl))) (fun w hw => printS_w a ha w (hl.und.mem hw)) rfl rfl ?_
  refine xV (e_mv (q0 rfl)) rfl rfl ?_
  refine xV (e_ext (q0 rfl) rfl) rfl rfl ?_
  refine xV (e_ext (q0 rfl) rfl) rfl rfl ?_
  refine xV (e_as (v := .string _) (q0 rfl)) rfl rfl ?_
  refine xV (e_as (v := .int _ _) (q0 rfl)) rfl rfl ?_
  refine XN ?_
  refine thenJ_normal ?_
  refine H_seq ?_
  refine R0 ?_
  refine xV (eS Tryz.isAgg30 Tryz.sizeOf30 (q0 rfl) (hl := hal)) rfl rfl ?_
  refine xC (en Tryz.call10 (ha1 (q0 rfl))) (fun _ w _ => rprint_w a ha w) rfl rfl ?_
  refine xV (e_mv (q0 rfl)) rfl rfl ?_
  refine xV (e_ext (q0 rfl) rfl) rfl rfl ?_
  refine xV (e_ext (q0 rfl) rfl) rfl rfl ?_
  refine xV (e_as (v := .string _) (q0 rfl)) rfl rfl ?_
  refine xV (e_as (v := .int _ _) (q0 rfl)) rfl rfl ?_
  refine XN ?_
  refine thenJ_normal ?_
  refine H_seq ?_
  refine R0 ?_
  refine xV (e_mv (v := .string _) (q0 rfl)) rfl rfl ?_
  refine xV (e_mv (v := .string _) (q0 rfl)) rfl rfl ?_
  refine xV (e_eqStr (q0 rfl) (q0 rfl)) rfl rfl ?_
  refine xV (e_mv (v := .bool _) (q0 rfl)) rfl rfl ?_
  refine xVT (e_mv (v := .int _ _) (q0 rfl)) rfl rfl rfl rfl ?_
  refine xVT (e_mv (v := .int _ _) (q0 rfl)) rfl rfl rfl rfl ?_
  refine xVT (e_eq (q1 rfl) (q1 rfl)) rfl rfl rfl rfl ?_
  refine xV (e_and (q0 rfl) rfl (fun h => by first | rfl | (rw [h]; rfl))) rfl rfl ?_
  refine xV (e_mv (v := .bool _) (q0 rfl)) rfl rfl ?_
  refine xCT0 rfl (en Tryz.call6 ha0) (fun _ w hw => O.awake_w w (hl.und.mem hw)) rfl rfl rfl rfl ?_
  refine xV (e_and (q0 rfl) rfl (fun h => by first | rfl | (rw [h]; rfl))) rfl rfl ?_
  refine xV (e_as (v := .bool _) (q0 rfl)) rfl rfl ?_
  refine XN ?_
  refine thenJ_normal ?_
  refine H_ret ?_
  exact retP_of rfl (res1 (v := .bool _) rfl rfl) fun w' hw => ⟨by simp, blw_of hw⟩
end Go.Proofs.Con
