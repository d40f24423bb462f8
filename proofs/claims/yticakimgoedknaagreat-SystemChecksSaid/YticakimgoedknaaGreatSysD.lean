import Derived.Test.YticakimgoedknaaGreatSysB
import Derived.Test.YticakimgoedknaaGreatSysC
import Derived.Test.YticakimgoedknaaGreatSysEb
import Derived.Test.YticakimgoedknaaGreatSysL
import Derived.Test.YticakimgoedknaaGreatSysEa
import Derived.OpenShut
set_option linter.unusedVariables false
set_option linter.unusedSimpArgs false
/-
  Lists cloned, a setup copied, a system made.
-/
namespace Go.Proofs.Sys
open Go Go.RowKit Go.Proofs.E Go.Proofs.Cus Go.Proofs.Far


theorem cloneI_w (A : Option Addr) (n c : Nat) (xs : List Int) (w : World) (hx : SlAt w 1 encInt A n xs) (hn : n ≤ 100000) : Calls Tryz.prog 67 #[.slice A n c] w fun e w' => ∃ s : Sl, e = .returned s.v ∧ Mem w [] w' := by
  have hl := hx.1
  refine H_enter Tryz.func67 rfl Tryz.ntmps67 rfl ?_
  refine H_seq ?_
  refine R0 ?_
  refine xV (e_as (v := .slice _ _ _) (q0 rfl)) rfl rfl ?_
  refine XN ?_
  refine thenJ_normal ?_
  refine H_seq ?_
  refine H_seq ?_
  refine R0 ?_
  refine xV (e_mv (v := .slice _ _ _) (q0 rfl)) rfl rfl ?_
  refine xV (e_eqNilS Tryz.underlying22 (q0 rfl)) rfl rfl ?_
  refine XN ?_
  refine thenJ_normal ?_
  refine H_cond rfl (fun h1 => ?_) (fun h1 => ?_)
  · refine H_seq ?_
    refine R0 ?_
    refine xV (e_as (v := .slice _ _ _) (q0 rfl)) rfl rfl ?_
    refine XN ?_
    refine thenJ_normal ?_
    refine H_ret ?_
    refine thenJ_ret ?_
    exact ret1 (v := .slice _ _ _) rfl rfl rfl fun w' hw => ⟨⟨none, 0, 0⟩, rfl, mem_nil.2 hw.1⟩
  · refine H_skip ?_
    refine thenJ_normal ?_
    refine H_seq ?_
    refine R0 ?_
    refine X_eff (f_slit0 encInt Tryz.underlying22 Tryz.sizeOf3 rfl fun A1 c1 => ?_)
    refine xV (e_mv (v := .slice _ _ _) (q0 rfl)) rfl rfl ?_
    refine X_append (f_append (k := 1) (i := Tryz.t3) (enc := encInt) 0 Tryz.underlying22 (by kernel_rfl) rfl rfl rfl rfl (fun _ => rfl) (fun _ => rfl) rfl rfl rfl (fun w hw => hx.mem hw) ⟨by simp; omega, by decide⟩ rfl fun A2 c2 => ?_)
    refine xV (e_as (v := .slice _ _ _) (q0 rfl)) rfl rfl ?_
    refine XN ?_
    refine thenJ_normal ?_
    refine H_ret ?_
    exact ret1 (v := .slice _ _ _) rfl rfl rfl fun w' hw => ⟨⟨A2, ([] ++ xs).length, c2⟩, rfl, mem_nil.2 hw.1⟩
theorem cloneT_w (A : Option Addr) (n c : Nat) (xs : List Tf) (w : World) (hx : SlAt w 6 Tf.cells A n xs) (hn : n ≤ 100000) : Calls Tryz.prog 68 #[.slice A n c] w fun e w' => ∃ s : Sl, e = .returned s.v ∧ Mem w [] w' := by
  have hl := hx.1
  refine H_enter Tryz.func68 rfl Tryz.ntmps68 rfl ?_
  refine H_seq ?_
  refine R0 ?_
  refine xV (e_as (v := .slice _ _ _) (q0 rfl)) rfl rfl ?_
  refine XN ?_
  refine thenJ_normal ?_
  refine H_seq ?_
  refine H_seq ?_
  refine R0 ?_
  refine xV (e_mv (v := .slice _ _ _) (q0 rfl)) rfl rfl ?_
  refine xV (e_eqNilS Tryz.underlying25 (q0 rfl)) rfl rfl ?_
  refine XN ?_
  refine thenJ_normal ?_
  refine H_cond rfl (fun h1 => ?_) (fun h1 => ?_)
  · refine H_seq ?_
    refine R0 ?_
    refine xV (e_as (v := .slice _ _ _) (q0 rfl)) rfl rfl ?_
    refine XN ?_
    refine thenJ_normal ?_
    refine H_ret ?_
    refine thenJ_ret ?_
    exact ret1 (v := .slice _ _ _) rfl rfl rfl fun w' hw => ⟨⟨none, 0, 0⟩, rfl, mem_nil.2 hw.1⟩
  · refine H_skip ?_
    refine thenJ_normal ?_
    refine H_seq ?_
    refine R0 ?_
    refine X_eff (f_slit0 Tf.cells Tryz.underlying25 Tryz.sizeOf140 rfl fun A1 c1 => ?_)
    refine xV (e_mv (v := .slice _ _ _) (q0 rfl)) rfl rfl ?_
    refine X_append (f_append (k := 6) (i := Tryz.t140) (enc := Tf.cells) 0 Tryz.underlying25 (by kernel_rfl) rfl rfl rfl rfl (fun _ => rfl) (fun _ => rfl) rfl rfl rfl (fun w hw => hx.mem hw) ⟨by simp; omega, by decide⟩ rfl fun A2 c2 => ?_)
    refine xV (e_as (v := .slice _ _ _) (q0 rfl)) rfl rfl ?_
    refine XN ?_
    refine thenJ_normal ?_
    refine H_ret ?_
    exact ret1 (v := .slice _ _ _) rfl rfl rfl fun w' hw => ⟨⟨A2, ([] ++ xs).length, c2⟩, rfl, mem_nil.2 hw.1⟩
theorem cloneP_w (A : Option Addr) (n c : Nat) (xs : List Pas) (w : World) (hx : SlAt w 6 Pas.cells A n xs) (hn : n ≤ 100000) : Calls Tryz.prog 69 #[.slice A n c] w fun e w' => ∃ s : Sl, e = .returned s.v ∧ Mem w [] w' := by
  have hl := hx.1
  refine H_enter Tryz.func69 rfl Tryz.ntmps69 rfl ?_
  refine H_seq ?_
  refine R0 ?_
  refine xV (e_as (v := .slice _ _ _) (q0 rfl)) rfl rfl ?_
  refine XN ?_
  refine thenJ_normal ?_
  refine H_seq ?_
  refine H_seq ?_
  refine R0 ?_
  refine xV (e_mv (v := .slice _ _ _) (q0 rfl)) rfl rfl ?_
  refine xV (e_eqNilS Tryz.underlying26 (q0 rfl)) rfl rfl ?_
  refine XN ?_
  refine thenJ_normal ?_
  refine H_cond rfl (fun h1 => ?_) (fun h1 => ?_)
  · refine H_seq ?_
    refine R0 ?_
    refine xV (e_as (v := .slice _ _ _) (q0 rfl)) rfl rfl ?_
    refine XN ?_
    refine thenJ_normal ?_
    refine H_ret ?_
    refine thenJ_ret ?_
    exact ret1 (v := .slice _ _ _) rfl rfl rfl fun w' hw => ⟨⟨none, 0, 0⟩, rfl, mem_nil.2 hw.1⟩
  · refine H_skip ?_
    refine thenJ_normal ?_
    refine H_seq ?_
    refine R0 ?_
    refine X_eff (f_slit0 Pas.cells Tryz.underlying26 Tryz.sizeOf162 rfl fun A1 c1 => ?_)
    refine xV (e_mv (v := .slice _ _ _) (q0 rfl)) rfl rfl ?_
    refine X_append (f_append (k := 6) (i := Tryz.t162) (enc := Pas.cells) 0 Tryz.underlying26 (by kernel_rfl) rfl rfl rfl rfl (fun _ => rfl) (fun _ => rfl) rfl rfl rfl (fun w hw => hx.mem hw) ⟨by simp; omega, by decide⟩ rfl fun A2 c2 => ?_)
    refine xV (e_as (v := .slice _ _ _) (q0 rfl)) rfl rfl ?_
    refine XN ?_
    refine thenJ_normal ?_
    refine H_ret ?_
    exact ret1 (v := .slice _ _ _) rfl rfl rfl fun w' hw => ⟨⟨A2, ([] ++ xs).length, c2⟩, rfl, mem_nil.2 hw.1⟩
theorem cloneE_w (A : Option Addr) (n c : Nat) (xs : List Eg) (w : World) (hx : SlAt w 3 Eg.cells A n xs) (hn : n ≤ 100000) : Calls Tryz.prog 70 #[.slice A n c] w fun e w' => ∃ s : Sl, e = .returned s.v ∧ Mem w [] w' := by
  have hl := hx.1
  refine H_enter Tryz.func70 rfl Tryz.ntmps70 rfl ?_
  refine H_seq ?_
  refine R0 ?_
  refine xV (e_as (v := .slice _ _ _) (q0 rfl)) rfl rfl ?_
  refine XN ?_
  refine thenJ_normal ?_
  refine H_seq ?_
  refine H_seq ?_
  refine R0 ?_
  refine xV (e_mv (v := .slice _ _ _) (q0 rfl)) rfl rfl ?_
  refine xV (e_eqNilS Tryz.underlying29 (q0 rfl)) rfl rfl ?_
  refine XN ?_
  refine thenJ_normal ?_
  refine H_cond rfl (fun h1 => ?_) (fun h1 => ?_)
  · refine H_seq ?_
    refine R0 ?_
    refine xV (e_as (v := .slice _ _ _) (q0 rfl)) rfl rfl ?_
    refine XN ?_
    refine thenJ_normal ?_
    refine H_ret ?_
    refine thenJ_ret ?_
    exact ret1 (v := .slice _ _ _) rfl rfl rfl fun w' hw => ⟨⟨none, 0, 0⟩, rfl, mem_nil.2 hw.1⟩
  · refine H_skip ?_
    refine thenJ_normal ?_
    refine H_seq ?_
    refine R0 ?_
    refine X_eff (f_slit0 Eg.cells Tryz.underlying29 Tryz.sizeOf165 rfl fun A1 c1 => ?_)
    refine xV (e_mv (v := .slice _ _ _) (q0 rfl)) rfl rfl ?_
    refine X_append (f_append (k := 3) (i := Tryz.t165) (enc := Eg.cells) 0 Tryz.underlying29 (by kernel_rfl) rfl rfl rfl rfl (fun _ => rfl) (fun _ => rfl) rfl rfl rfl (fun w hw => hx.mem hw) ⟨by simp; omega, by decide⟩ rfl fun A2 c2 => ?_)
    refine xV (e_as (v := .slice _ _ _) (q0 rfl)) rfl rfl ?_
    refine XN ?_
    refine thenJ_normal ?_
    refine H_ret ?_
    exact ret1 (v := .slice _ _ _) rfl rfl rfl fun w' hw => ⟨⟨A2, ([] ++ xs).length, c2⟩, rfl, mem_nil.2 hw.1⟩
theorem cloneK_w (A : Option Addr) (n c : Nat) (xs : List Tk) (w : World) (hx : SlAt w 4 Tk.cells A n xs) (hn : n ≤ 100000) : Calls Tryz.prog 71 #[.slice A n c] w fun e w' => ∃ s : Sl, e = .returned s.v ∧ Mem w [] w' := by
  have hl := hx.1
  refine H_enter Tryz.func71 rfl Tryz.ntmps71 rfl ?_
  refine H_seq ?_
  refine R0 ?_
  refine xV (e_as (v := .slice _ _ _) (q0 rfl)) rfl rfl ?_
  refine XN ?_
  refine thenJ_normal ?_
  refine H_seq ?_
  refine H_seq ?_
  refine R0 ?_
  refine xV (e_mv (v := .slice _ _ _) (q0 rfl)) rfl rfl ?_
  refine xV (e_eqNilS Tryz.underlying32 (q0 rfl)) rfl rfl ?_
  refine XN ?_
  refine thenJ_normal ?_
  refine H_cond rfl (fun h1 => ?_) (fun h1 => ?_)
  · refine H_seq ?_
    refine R0 ?_
    refine xV (e_as (v := .slice _ _ _) (q0 rfl)) rfl rfl ?_
    refine XN ?_
    refine thenJ_normal ?_
    refine H_ret ?_
    refine thenJ_ret ?_
    exact ret1 (v := .slice _ _ _) rfl rfl rfl fun w' hw => ⟨⟨none, 0, 0⟩, rfl, mem_nil.2 hw.1⟩
  · refine H_skip ?_
    refine thenJ_normal ?_
    refine H_seq ?_
    refine R0 ?_
    refine X_eff (f_slit0 Tk.cells Tryz.underlying32 Tryz.sizeOf150 rfl fun A1 c1 => ?_)
    refine xV (e_mv (v := .slice _ _ _) (q0 rfl)) rfl rfl ?_
    refine X_append (f_append (k := 4) (i := Tryz.t150) (enc := Tk.cells) 0 Tryz.underlying32 (by kernel_rfl) rfl rfl rfl rfl (fun _ => rfl) (fun _ => rfl) rfl rfl rfl (fun w hw => hx.mem hw) ⟨by simp; omega, by decide⟩ rfl fun A2 c2 => ?_)
    refine xV (e_as (v := .slice _ _ _) (q0 rfl)) rfl rfl ?_
    refine XN ?_
    refine thenJ_normal ?_
    refine H_ret ?_
    exact ret1 (v := .slice _ _ _) rfl rfl rfl fun w' hw => ⟨⟨A2, ([] ++ xs).length, c2⟩, rfl, mem_nil.2 hw.1⟩
theorem cloneN_w (A : Option Addr) (n c : Nat) (xs : List Nd) (w : World) (hx : SlAt w 2 Nd.cells A n xs) (hn : n ≤ 100000) : Calls Tryz.prog 72 #[.slice A n c] w fun e w' => ∃ s : Sl, e = .returned s.v ∧ Mem w [] w' := by
  have hl := hx.1
  refine H_enter Tryz.func72 rfl Tryz.ntmps72 rfl ?_
  refine H_seq ?_
  refine R0 ?_
  refine xV (e_as (v := .slice _ _ _) (q0 rfl)) rfl rfl ?_
  refine XN ?_
  refine thenJ_normal ?_
  refine H_seq ?_
  refine H_seq ?_
  refine R0 ?_
  refine xV (e_mv (v := .slice _ _ _) (q0 rfl)) rfl rfl ?_
  refine xV (e_eqNilS Tryz.underlying33 (q0 rfl)) rfl rfl ?_
  refine XN ?_
  refine thenJ_normal ?_
  refine H_cond rfl (fun h1 => ?_) (fun h1 => ?_)
  · refine H_seq ?_
    refine R0 ?_
    refine xV (e_as (v := .slice _ _ _) (q0 rfl)) rfl rfl ?_
    refine XN ?_
    refine thenJ_normal ?_
    refine H_ret ?_
    refine thenJ_ret ?_
    exact ret1 (v := .slice _ _ _) rfl rfl rfl fun w' hw => ⟨⟨none, 0, 0⟩, rfl, mem_nil.2 hw.1⟩
  · refine H_skip ?_
    refine thenJ_normal ?_
    refine H_seq ?_
    refine R0 ?_
    refine X_eff (f_slit0 Nd.cells Tryz.underlying33 Tryz.sizeOf153 rfl fun A1 c1 => ?_)
    refine xV (e_mv (v := .slice _ _ _) (q0 rfl)) rfl rfl ?_
    refine X_append (f_append (k := 2) (i := Tryz.t153) (enc := Nd.cells) 0 Tryz.underlying33 (by kernel_rfl) rfl rfl rfl rfl (fun _ => rfl) (fun _ => rfl) rfl rfl rfl (fun w hw => hx.mem hw) ⟨by simp; omega, by decide⟩ rfl fun A2 c2 => ?_)
    refine xV (e_as (v := .slice _ _ _) (q0 rfl)) rfl rfl ?_
    refine XN ?_
    refine thenJ_normal ?_
    refine H_ret ?_
    exact ret1 (v := .slice _ _ _) rfl rfl rfl fun w' hw => ⟨⟨A2, ([] ++ xs).length, c2⟩, rfl, mem_nil.2 hw.1⟩
structure SuN (fa : FA) (a : PrA) (v1 v2 v3 v4 v5 : Sl) : Prop where
  Hd : fa.dn ≤ 100000
  Ht : fa.tn ≤ 100000
  H1 : a.t.n ≤ 100000
  H2 : a.p.n ≤ 100000
  H3 : a.pl.n ≤ 100000
  H4 : a.d.n ≤ 100000
  H5 : a.f.n ≤ 100000
  He : v1.n ≤ 100000
  Hk : v2.n ≤ 100000
  Hn : v3.n ≤ 100000
  Hz : v4.n ≤ 100000
  Hw : v5.n ≤ 100000
theorem fl156 {fs : Array Field} (h : Tryz.prog.underlying 156 = some (.struct fs) := by exact Tryz.underlying156) : FieldsLie Tryz.prog fs [(0, 1), (1, 1)] := by
  rw [Tryz.underlying156] at h
  cases h
  intro w
  kernel_rfl
theorem fl97 {fs : Array Field} (h : Tryz.prog.underlying 97 = some (.struct fs) := by exact Tryz.underlying97) : FieldsLie Tryz.prog fs [(0, 26), (26, 1), (27, 1), (28, 1), (29, 1), (30, 1), (31, 1), (32, 1), (33, 1)] := by
  rw [Tryz.underlying97] at h
  cases h
  intro w
  kernel_rfl
theorem fl28 {fs : Array Field} (h : Tryz.prog.underlying 28 = some (.struct fs) := by exact Tryz.underlying28) : FieldsLie Tryz.prog fs [(0, 1), (1, 1), (2, 1), (3, 1), (4, 1), (5, 1), (6, 1)] := by
  rw [Tryz.underlying28] at h
  cases h
  intro w
  kernel_rfl
theorem setAt_mid : ∀ (vs cs : List Value) (i : Nat), i + vs.length ≤ cs.length → setAt cs i vs = cs.take i ++ vs ++ cs.drop (i + vs.length)
  | [], cs, i, h => by simp [setAt]
  | v :: r, cs, i, h => by
    simp only [List.length_cons] at h
    rw [setAt, setAt_mid r _ (i + 1) (by simp; omega)]
    rw [List.take_set, List.drop_set]
    rw [if_pos (by omega), show i + (v :: r).length = i + 1 + r.length by simp; omega]
    rw [List.take_add_one, List.set_append_right _ _ (by rw [List.length_take]; exact Nat.min_le_left _ _)]
    rw [List.getElem?_eq_getElem (by omega)]
    simp [Nat.min_eq_left (show i ≤ cs.length by omega), Nat.min_le_left]
theorem setAt_all {cs vs : List Value} (h : cs.length = vs.length) : setAt cs 0 vs = vs := by
  rw [setAt_mid vs cs 0 (by omega)]
  simp [← h]
def zSu : List Value := [.int .i64 0, .int .i64 0, .int .i64 0, .slice none 0 0, .slice none 0 0, .slice none 0 0, .slice none 0 0, .slice none 0 0, .slice none 0 0, .int .i64 0, .slice none 0 0, .int .i64 0, .int .i64 0, .slice none 0 0, .slice none 0 0, .slice none 0 0, .int .i64 0, .slice none 0 0, .int .i64 0, .slice none 0 0, .int .i64 0, .int .i64 0, .int .i64 0, .int .i64 0, .int .u64 0, .int .u64 0]
set_option maxRecDepth 20000 in
set_option maxHeartbeats 4000000 in
theorem copy_w (u : Su) (fa : FA) (a : PrA) (v1 v2 v3 v4 v5 : Sl) (w : World) (hu : SuAt w u fa a v1 v2 v3 v4 v5) (hn : SuN fa a v1 v2 v3 v4 v5) : Calls Tryz.prog 24 #[.agg (suC u fa a v1 v2 v3 v4 v5).toArray] w fun r w' => ∃ x : (Sl × Sl) × (Sl × Sl) × (Sl × Sl × Sl) × Sl × (Sl × Sl) × (Sl × Sl), r = .returned (.agg ([.int .i64 u.f.bikes, .int .i64 u.f.riders, .int .i64 u.f.devices, Sl.v x.1.1, Sl.v x.1.2, Sl.v x.2.1.1, Sl.v x.2.1.2, Sl.v x.2.2.1.1, Sl.v x.2.2.1.2.1, .int .i64 u.p.cap, Sl.v x.2.2.1.2.2, .int .i64 u.p.days, .int .i64 u.n, Sl.v x.2.2.2.1, Sl.v x.2.2.2.2.1.1, Sl.v x.2.2.2.2.1.2, .int .i64 u.h, Sl.v x.2.2.2.2.2.1, .int .i64 u.size, Sl.v x.2.2.2.2.2.2, .int .i64 u.each, .int .i64 u.budget, .int .i64 u.least, .int .i64 u.width, .int .u64 u.k1, .int .u64 u.k2]).toArray) ∧ Mem w [] w' := by
  refine H_enter Tryz.func24 rfl Tryz.ntmps24 rfl ?_
  refine H_seq ?_
  refine R0 ?_
  refine X_box (v := .agg _) rfl rfl fun b1 => ?_
  refine X_alloc Tryz.zeroValue42 rfl fun b2 => ?_
  refine XN ?_
  refine thenJ_normal ?_
  refine H_seq ?_
  refine H_cut [4, 5, 6, 7, 8, 9, 10, 11, 12, 13, 14, 15] (fun x : Sl × Sl => []) (fun x => [box b2 42 zSu, box b1 42 [.int .i64 u.f.bikes, .int .i64 u.f.riders, .int .i64 u.f.devices, Sl.v x.1, Sl.v x.2, Sl.v a.t, Sl.v a.p, Sl.v a.pl, Sl.v a.d, .int .i64 u.p.cap, Sl.v a.f, .int .i64 u.p.days, .int .i64 u.n, Sl.v ⟨v1.A, v1.n, v1.c⟩, Sl.v ⟨v2.A, v2.n, v2.c⟩, Sl.v ⟨v3.A, v3.n, v3.c⟩, .int .i64 u.h, Sl.v ⟨v4.A, v4.n, v4.c⟩, .int .i64 u.size, Sl.v ⟨v5.A, v5.n, v5.c⟩, .int .i64 u.each, .int .i64 u.budget, .int .i64 u.least, .int .i64 u.width, .int .u64 u.k1, .int .u64 u.k2]]) (fun _ => True) ?_ ?_
  · refine H_invP [4, 5, 6, 7, 8, 9, 10, 11, 12, 13, 14, 15] (fun d v => match d with
          | 4 | 8 | 12 | 14 => v = .pointer (some ⟨b1, 0, none⟩)
          | 5 | 13 => v = .pointer (some ⟨b1, 3, none⟩)
          | 6 => v = Sl.v ⟨fa.dA, fa.dn, fa.dc⟩
          | 7 | 11 => ∃ s : Sl, v = s.v
          | 9 | 15 => v = .pointer (some ⟨b1, 4, none⟩)
          | 10 => v = Sl.v ⟨fa.tA, fa.tn, fa.tc⟩
          | _ => True) (fun S L => ∃ s0 s1 : Sl, (¬S 10 → s0 = ⟨fa.dA, fa.dn, fa.dc⟩) ∧ (¬S 13 → s1 = ⟨fa.tA, fa.tn, fa.tc⟩) ∧ L = [box b2 42 zSu, box b1 42 [.int .i64 u.f.bikes, .int .i64 u.f.riders, .int .i64 u.f.devices, Sl.v s0, Sl.v s1, Sl.v a.t, Sl.v a.p, Sl.v a.pl, Sl.v a.d, .int .i64 u.p.cap, Sl.v a.f, .int .i64 u.p.days, .int .i64 u.n, Sl.v ⟨v1.A, v1.n, v1.c⟩, Sl.v ⟨v2.A, v2.n, v2.c⟩, Sl.v ⟨v3.A, v3.n, v3.c⟩, .int .i64 u.h, Sl.v ⟨v4.A, v4.n, v4.c⟩, .int .i64 u.size, Sl.v ⟨v5.A, v5.n, v5.c⟩, .int .i64 u.each, .int .i64 u.budget, .int .i64 u.least, .int .i64 u.width, .int .u64 u.k1, .int .u64 u.k2]]) rfl rfl ?_ ?_ ?_
    · exact fun S hS => ⟨⟨fa.dA, fa.dn, fa.dc⟩, ⟨fa.tA, fa.tn, fa.tc⟩, fun _ => rfl, fun _ => rfl, rfl⟩
    · rintro S L fr i o hA hF ⟨s0, s1, e0, e1, rfl⟩ hi hno hw hc
      have hpt1 : fr 1 = .pointer (some ⟨b1, 0, none⟩) := hA 1 rfl
      match i, hi with
      | 0, hi => cases hi; exact f_ev (e_fld Tryz.underlying42 rfl Tryz.sizeOf24 rfl (q0 hpt1)) rfl rfl ⟨⟨s0, s1, fun h => e0 fun h' => h (.inl h'), fun h => e1 fun h' => h (.inl h'), rfl⟩, _, rfl, fun d h => by cases h; rfl⟩
      | 1, hi =>
        cases hi
        have hx4 : fr 4 = .pointer (some ⟨b1, 0, none⟩) := hF 0 _ _ rfl (hw 0 rfl) rfl
        exact f_ev (e_fld Tryz.underlying24 rfl Tryz.sizeOf22 rfl (q0 hx4)) rfl rfl ⟨⟨s0, s1, fun h => e0 fun h' => h (.inl h'), fun h => e1 fun h' => h (.inl h'), rfl⟩, _, rfl, fun d h => by cases h; rfl⟩
      | 2, hi =>
        cases hi
        have hx5 : fr 5 = .pointer (some ⟨b1, 3, none⟩) := hF 1 _ _ rfl (hw 1 rfl) rfl
        have n1 : ¬S 10 := fun h => hno (hc 3 2 rfl (hc 10 3 rfl h))
        obtain rfl := e0 n1
        exact f_ev (e_ld (v := Sl.v ⟨fa.dA, fa.dn, fa.dc⟩) Tryz.isAgg22 (q0 hx5) (fun _ w hw => box_cell hw (k := 1) rfl rfl)) rfl rfl ⟨⟨⟨fa.dA, fa.dn, fa.dc⟩, s1, fun _ => rfl, fun h => e1 fun h' => h (.inl h'), rfl⟩, _, rfl, fun d h => by cases h; rfl⟩
      | 3, hi =>
        cases hi
        have hx6 : fr 6 = Sl.v ⟨fa.dA, fa.dn, fa.dc⟩ := hF 2 _ _ rfl (hw 2 rfl) rfl
        exact f_callx (en Tryz.call67 (ha1 (q0 hx6))) (fun w hw => cloneI_w fa.dA fa.dn fa.dc u.f.docks w (hu.Hf.docks.mem hw) hn.Hd) rfl (fun _ => rfl) fun s => ⟨⟨s0, s1, fun h => e0 fun h' => h (.inl h'), fun h => e1 fun h' => h (.inl h'), rfl⟩, _, rfl, fun d h => by cases h; exact ⟨s, rfl⟩⟩
      | 4, hi => cases hi; exact f_ev (e_fld Tryz.underlying42 rfl Tryz.sizeOf24 rfl (q0 hpt1)) rfl rfl ⟨⟨s0, s1, fun h => e0 fun h' => h (.inl h'), fun h => e1 fun h' => h (.inl h'), rfl⟩, _, rfl, fun d h => by cases h; rfl⟩
      | 5, hi =>
        cases hi
        have hx8 : fr 8 = .pointer (some ⟨b1, 0, none⟩) := hF 4 _ _ rfl (hw 4 rfl) rfl
        exact f_ev (e_fld Tryz.underlying24 rfl Tryz.sizeOf22 rfl (q0 hx8)) rfl rfl ⟨⟨s0, s1, fun h => e0 fun h' => h (.inl h'), fun h => e1 fun h' => h (.inl h'), rfl⟩, _, rfl, fun d h => by cases h; rfl⟩
      | 6, hi =>
        cases hi
        have hx9 : fr 9 = .pointer (some ⟨b1, 4, none⟩) := hF 5 _ _ rfl (hw 5 rfl) rfl
        have n1 : ¬S 13 := fun h => hno (hc 7 6 rfl (hc 13 7 rfl h))
        obtain rfl := e1 n1
        exact f_ev (e_ld (v := Sl.v ⟨fa.tA, fa.tn, fa.tc⟩) Tryz.isAgg22 (q0 hx9) (fun _ w hw => box_cell hw (k := 1) rfl rfl)) rfl rfl ⟨⟨s0, ⟨fa.tA, fa.tn, fa.tc⟩, fun h => e0 fun h' => h (.inl h'), fun _ => rfl, rfl⟩, _, rfl, fun d h => by cases h; rfl⟩
      | 7, hi =>
        cases hi
        have hx10 : fr 10 = Sl.v ⟨fa.tA, fa.tn, fa.tc⟩ := hF 6 _ _ rfl (hw 6 rfl) rfl
        exact f_callx (en Tryz.call67 (ha1 (q0 hx10))) (fun w hw => cloneI_w fa.tA fa.tn fa.tc u.f.trucks w (hu.Hf.trucks.mem hw) hn.Ht) rfl (fun _ => rfl) fun s => ⟨⟨s0, s1, fun h => e0 fun h' => h (.inl h'), fun h => e1 fun h' => h (.inl h'), rfl⟩, _, rfl, fun d h => by cases h; exact ⟨s, rfl⟩⟩
      | 8, hi => cases hi; exact f_ev (e_fld Tryz.underlying42 rfl Tryz.sizeOf24 rfl (q0 hpt1)) rfl rfl ⟨⟨s0, s1, fun h => e0 fun h' => h (.inl h'), fun h => e1 fun h' => h (.inl h'), rfl⟩, _, rfl, fun d h => by cases h; rfl⟩
      | 9, hi =>
        cases hi
        have hx12 : fr 12 = .pointer (some ⟨b1, 0, none⟩) := hF 8 _ _ rfl (hw 8 rfl) rfl
        exact f_ev (e_fld Tryz.underlying24 rfl Tryz.sizeOf22 rfl (q0 hx12)) rfl rfl ⟨⟨s0, s1, fun h => e0 fun h' => h (.inl h'), fun h => e1 fun h' => h (.inl h'), rfl⟩, _, rfl, fun d h => by cases h; rfl⟩
      | 10, hi =>
        cases hi
        have hx13 : fr 13 = .pointer (some ⟨b1, 3, none⟩) := hF 9 _ _ rfl (hw 9 rfl) rfl
        obtain ⟨z, hz⟩ : ∃ s : Sl, fr 7 = s.v := hF 3 _ _ rfl (hw 3 rfl) rfl
        exact f_store 1 (v := z.v) hx13 hz Tryz.sizeOf22 rfl rfl rfl rfl ⟨⟨z, s1, fun h => absurd (.inr rfl) h, fun h => e1 fun h' => h (.inl h'), rfl⟩, undef, rfl, fun d h => by cases h⟩
      | 11, hi => cases hi; exact f_ev (e_fld Tryz.underlying42 rfl Tryz.sizeOf24 rfl (q0 hpt1)) rfl rfl ⟨⟨s0, s1, fun h => e0 fun h' => h (.inl h'), fun h => e1 fun h' => h (.inl h'), rfl⟩, _, rfl, fun d h => by cases h; rfl⟩
      | 12, hi =>
        cases hi
        have hx14 : fr 14 = .pointer (some ⟨b1, 0, none⟩) := hF 11 _ _ rfl (hw 11 rfl) rfl
        exact f_ev (e_fld Tryz.underlying24 rfl Tryz.sizeOf22 rfl (q0 hx14)) rfl rfl ⟨⟨s0, s1, fun h => e0 fun h' => h (.inl h'), fun h => e1 fun h' => h (.inl h'), rfl⟩, _, rfl, fun d h => by cases h; rfl⟩
      | 13, hi =>
        cases hi
        have hx15 : fr 15 = .pointer (some ⟨b1, 4, none⟩) := hF 12 _ _ rfl (hw 12 rfl) rfl
        obtain ⟨z, hz⟩ : ∃ s : Sl, fr 11 = s.v := hF 7 _ _ rfl (hw 7 rfl) rfl
        exact f_store 1 (v := z.v) hx15 hz Tryz.sizeOf22 rfl rfl rfl rfl ⟨⟨s0, z, fun h => e0 fun h' => h (.inl h'), fun h => absurd (.inr rfl) h, rfl⟩, undef, rfl, fun d h => by cases h⟩
      | n + 14, hi => simp at hi
    · rintro S L fr hS hA hF ⟨s0, s1, e0, e1, rfl⟩
      exact cutJ_normal ((s0, s1) : Sl × Sl) hA trivial (fun w hw => hw) rfl trivial
  · rintro ⟨y0, y1⟩ g1 _
    refine thenJ_normal ?_
    refine H_seq ?_
    refine R0 ?_
    refine xV (e_fld Tryz.underlying42 rfl Tryz.sizeOf28 rfl (q0 rfl)) rfl rfl ?_
    refine xV (e_as (v := .pointer _) (q0 rfl)) rfl rfl ?_
    refine XN ?_
    refine thenJ_normal ?_
    refine H_seq ?_
    refine H_cut [17, 18, 19, 20, 21, 22, 23, 24, 25, 26, 27, 28, 29, 30, 31, 32] (fun x : Sl × Sl => []) (fun x => [box b2 42 zSu, box b1 42 [.int .i64 u.f.bikes, .int .i64 u.f.riders, .int .i64 u.f.devices, Sl.v y0, Sl.v y1, Sl.v x.1, Sl.v x.2, Sl.v a.pl, Sl.v a.d, .int .i64 u.p.cap, Sl.v a.f, .int .i64 u.p.days, .int .i64 u.n, Sl.v ⟨v1.A, v1.n, v1.c⟩, Sl.v ⟨v2.A, v2.n, v2.c⟩, Sl.v ⟨v3.A, v3.n, v3.c⟩, .int .i64 u.h, Sl.v ⟨v4.A, v4.n, v4.c⟩, .int .i64 u.size, Sl.v ⟨v5.A, v5.n, v5.c⟩, .int .i64 u.each, .int .i64 u.budget, .int .i64 u.least, .int .i64 u.width, .int .u64 u.k1, .int .u64 u.k2]]) (fun _ => True) ?_ ?_
    · refine H_invP [17, 18, 19, 20, 21, 22, 23, 24, 25, 26, 27, 28, 29, 30, 31, 32] (fun d v => match d with
            | 17 | 18 | 19 | 20 | 21 | 24 | 25 | 29 | 30 | 31 => v = .pointer (some ⟨b1, 5, none⟩)
            | 22 => v = Sl.v a.t
            | 23 | 28 => ∃ s : Sl, v = s.v
            | 26 | 32 => v = .pointer (some ⟨b1, 6, none⟩)
            | 27 => v = Sl.v a.p
            | _ => True) (fun S L => ∃ s0 s1 : Sl, (¬S 14 → s0 = a.t) ∧ (¬S 17 → s1 = a.p) ∧ L = [box b2 42 zSu, box b1 42 [.int .i64 u.f.bikes, .int .i64 u.f.riders, .int .i64 u.f.devices, Sl.v y0, Sl.v y1, Sl.v s0, Sl.v s1, Sl.v a.pl, Sl.v a.d, .int .i64 u.p.cap, Sl.v a.f, .int .i64 u.p.days, .int .i64 u.n, Sl.v ⟨v1.A, v1.n, v1.c⟩, Sl.v ⟨v2.A, v2.n, v2.c⟩, Sl.v ⟨v3.A, v3.n, v3.c⟩, .int .i64 u.h, Sl.v ⟨v4.A, v4.n, v4.c⟩, .int .i64 u.size, Sl.v ⟨v5.A, v5.n, v5.c⟩, .int .i64 u.each, .int .i64 u.budget, .int .i64 u.least, .int .i64 u.width, .int .u64 u.k1, .int .u64 u.k2]]) rfl rfl ?_ ?_ ?_
      · exact fun S hS => ⟨a.t, a.p, fun _ => rfl, fun _ => rfl, rfl⟩
      · rintro S L fr i o hA hF ⟨s0, s1, e0, e1, rfl⟩ hi hno hw hc
        have hpt3 : fr 3 = .pointer (some ⟨b1, 5, none⟩) := hA 3 rfl
        match i, hi with
        | 0, hi => cases hi; exact f_ev (e_mv (v := .pointer _) (q0 hpt3)) rfl rfl ⟨⟨s0, s1, fun h => e0 fun h' => h (.inl h'), fun h => e1 fun h' => h (.inl h'), rfl⟩, _, rfl, fun d h => by cases h; rfl⟩
        | 1, hi => cases hi; exact f_ev (e_mv (v := .pointer _) (q0 hpt3)) rfl rfl ⟨⟨s0, s1, fun h => e0 fun h' => h (.inl h'), fun h => e1 fun h' => h (.inl h'), rfl⟩, _, rfl, fun d h => by cases h; rfl⟩
        | 2, hi => cases hi; exact f_ev (e_mv (v := .pointer _) (q0 hpt3)) rfl rfl ⟨⟨s0, s1, fun h => e0 fun h' => h (.inl h'), fun h => e1 fun h' => h (.inl h'), rfl⟩, _, rfl, fun d h => by cases h; rfl⟩
        | 3, hi =>
          cases hi
          have hx19 : fr 19 = .pointer (some ⟨b1, 5, none⟩) := hF 2 _ _ rfl (hw 2 rfl) rfl
          exact f_ev (e_nilc (q0 hx19)) rfl rfl ⟨⟨s0, s1, fun h => e0 fun h' => h (.inl h'), fun h => e1 fun h' => h (.inl h'), rfl⟩, _, rfl, fun d h => by cases h; rfl⟩
        | 4, hi =>
          cases hi
          have hx20 : fr 20 = .pointer (some ⟨b1, 5, none⟩) := hF 3 _ _ rfl (hw 3 rfl) rfl
          exact f_ev (e_fld Tryz.underlying28 rfl Tryz.sizeOf25 rfl (q0 hx20)) rfl rfl ⟨⟨s0, s1, fun h => e0 fun h' => h (.inl h'), fun h => e1 fun h' => h (.inl h'), rfl⟩, _, rfl, fun d h => by cases h; rfl⟩
        | 5, hi =>
          cases hi
          have hx21 : fr 21 = .pointer (some ⟨b1, 5, none⟩) := hF 4 _ _ rfl (hw 4 rfl) rfl
          have n1 : ¬S 14 := fun h => hno (hc 6 5 rfl (hc 14 6 rfl h))
          obtain rfl := e0 n1
          exact f_ev (e_ld (v := Sl.v a.t) Tryz.isAgg25 (q0 hx21) (fun _ w hw => box_cell hw (k := 1) rfl rfl)) rfl rfl ⟨⟨a.t, s1, fun _ => rfl, fun h => e1 fun h' => h (.inl h'), rfl⟩, _, rfl, fun d h => by cases h; rfl⟩
        | 6, hi =>
          cases hi
          have hx22 : fr 22 = Sl.v a.t := hF 5 _ _ rfl (hw 5 rfl) rfl
          exact f_callx (en Tryz.call68 (ha1 (q0 hx22))) (fun w hw => cloneT_w a.t.A a.t.n a.t.c u.p.tariffs w (hu.Hp.tf.mem hw) hn.H1) rfl (fun _ => rfl) fun s => ⟨⟨s0, s1, fun h => e0 fun h' => h (.inl h'), fun h => e1 fun h' => h (.inl h'), rfl⟩, _, rfl, fun d h => by cases h; exact ⟨s, rfl⟩⟩
        | 7, hi => cases hi; exact f_ev (e_mv (v := .pointer _) (q0 hpt3)) rfl rfl ⟨⟨s0, s1, fun h => e0 fun h' => h (.inl h'), fun h => e1 fun h' => h (.inl h'), rfl⟩, _, rfl, fun d h => by cases h; rfl⟩
        | 8, hi =>
          cases hi
          have hx24 : fr 24 = .pointer (some ⟨b1, 5, none⟩) := hF 7 _ _ rfl (hw 7 rfl) rfl
          exact f_ev (e_nilc (q0 hx24)) rfl rfl ⟨⟨s0, s1, fun h => e0 fun h' => h (.inl h'), fun h => e1 fun h' => h (.inl h'), rfl⟩, _, rfl, fun d h => by cases h; rfl⟩
        | 9, hi =>
          cases hi
          have hx25 : fr 25 = .pointer (some ⟨b1, 5, none⟩) := hF 8 _ _ rfl (hw 8 rfl) rfl
          exact f_ev (e_fld Tryz.underlying28 rfl Tryz.sizeOf26 rfl (q0 hx25)) rfl rfl ⟨⟨s0, s1, fun h => e0 fun h' => h (.inl h'), fun h => e1 fun h' => h (.inl h'), rfl⟩, _, rfl, fun d h => by cases h; rfl⟩
        | 10, hi =>
          cases hi
          have hx26 : fr 26 = .pointer (some ⟨b1, 6, none⟩) := hF 9 _ _ rfl (hw 9 rfl) rfl
          have n1 : ¬S 17 := fun h => hno (hc 11 10 rfl (hc 17 11 rfl h))
          obtain rfl := e1 n1
          exact f_ev (e_ld (v := Sl.v a.p) Tryz.isAgg26 (q0 hx26) (fun _ w hw => box_cell hw (k := 1) rfl rfl)) rfl rfl ⟨⟨s0, a.p, fun h => e0 fun h' => h (.inl h'), fun _ => rfl, rfl⟩, _, rfl, fun d h => by cases h; rfl⟩
        | 11, hi =>
          cases hi
          have hx27 : fr 27 = Sl.v a.p := hF 10 _ _ rfl (hw 10 rfl) rfl
          exact f_callx (en Tryz.call69 (ha1 (q0 hx27))) (fun w hw => cloneP_w a.p.A a.p.n a.p.c u.p.passes w (hu.Hp.ps.mem hw) hn.H2) rfl (fun _ => rfl) fun s => ⟨⟨s0, s1, fun h => e0 fun h' => h (.inl h'), fun h => e1 fun h' => h (.inl h'), rfl⟩, _, rfl, fun d h => by cases h; exact ⟨s, rfl⟩⟩
        | 12, hi =>
          cases hi
          have hx17 : fr 17 = .pointer (some ⟨b1, 5, none⟩) := hF 0 _ _ rfl (hw 0 rfl) rfl
          exact f_ev (e_nilc (q0 hx17)) rfl rfl ⟨⟨s0, s1, fun h => e0 fun h' => h (.inl h'), fun h => e1 fun h' => h (.inl h'), rfl⟩, _, rfl, fun d h => by cases h; rfl⟩
        | 13, hi =>
          cases hi
          have hx29 : fr 29 = .pointer (some ⟨b1, 5, none⟩) := hF 12 _ _ rfl (hw 12 rfl) rfl
          exact f_ev (e_fld Tryz.underlying28 rfl Tryz.sizeOf25 rfl (q0 hx29)) rfl rfl ⟨⟨s0, s1, fun h => e0 fun h' => h (.inl h'), fun h => e1 fun h' => h (.inl h'), rfl⟩, _, rfl, fun d h => by cases h; rfl⟩
        | 14, hi =>
          cases hi
          have hx30 : fr 30 = .pointer (some ⟨b1, 5, none⟩) := hF 13 _ _ rfl (hw 13 rfl) rfl
          obtain ⟨z, hz⟩ : ∃ s : Sl, fr 23 = s.v := hF 6 _ _ rfl (hw 6 rfl) rfl
          exact f_store 1 (v := z.v) hx30 hz Tryz.sizeOf25 rfl rfl rfl rfl ⟨⟨z, s1, fun h => absurd (.inr rfl) h, fun h => e1 fun h' => h (.inl h'), rfl⟩, undef, rfl, fun d h => by cases h⟩
        | 15, hi =>
          cases hi
          have hx18 : fr 18 = .pointer (some ⟨b1, 5, none⟩) := hF 1 _ _ rfl (hw 1 rfl) rfl
          exact f_ev (e_nilc (q0 hx18)) rfl rfl ⟨⟨s0, s1, fun h => e0 fun h' => h (.inl h'), fun h => e1 fun h' => h (.inl h'), rfl⟩, _, rfl, fun d h => by cases h; rfl⟩
        | 16, hi =>
          cases hi
          have hx31 : fr 31 = .pointer (some ⟨b1, 5, none⟩) := hF 15 _ _ rfl (hw 15 rfl) rfl
          exact f_ev (e_fld Tryz.underlying28 rfl Tryz.sizeOf26 rfl (q0 hx31)) rfl rfl ⟨⟨s0, s1, fun h => e0 fun h' => h (.inl h'), fun h => e1 fun h' => h (.inl h'), rfl⟩, _, rfl, fun d h => by cases h; rfl⟩
        | 17, hi =>
          cases hi
          have hx32 : fr 32 = .pointer (some ⟨b1, 6, none⟩) := hF 16 _ _ rfl (hw 16 rfl) rfl
          obtain ⟨z, hz⟩ : ∃ s : Sl, fr 28 = s.v := hF 11 _ _ rfl (hw 11 rfl) rfl
          exact f_store 1 (v := z.v) hx32 hz Tryz.sizeOf26 rfl rfl rfl rfl ⟨⟨s0, z, fun h => e0 fun h' => h (.inl h'), fun h => absurd (.inr rfl) h, rfl⟩, undef, rfl, fun d h => by cases h⟩
        | n + 18, hi => simp at hi
      · rintro S L fr hS hA hF ⟨s0, s1, e0, e1, rfl⟩
        exact cutJ_normal ((s0, s1) : Sl × Sl) hA trivial (fun w hw => hw) rfl trivial
    · rintro ⟨y2, y3⟩ g3 _
      refine thenJ_normal ?_
      refine H_seq ?_
      refine H_cut [33, 34, 35, 36, 37, 38, 39, 40, 41, 42, 43, 44, 45, 46, 47, 48, 49, 50, 51, 52, 53, 54, 55, 56] (fun x : Sl × Sl × Sl => []) (fun x => [box b2 42 zSu, box b1 42 [.int .i64 u.f.bikes, .int .i64 u.f.riders, .int .i64 u.f.devices, Sl.v y0, Sl.v y1, Sl.v y2, Sl.v y3, Sl.v x.1, Sl.v x.2.1, .int .i64 u.p.cap, Sl.v x.2.2, .int .i64 u.p.days, .int .i64 u.n, Sl.v ⟨v1.A, v1.n, v1.c⟩, Sl.v ⟨v2.A, v2.n, v2.c⟩, Sl.v ⟨v3.A, v3.n, v3.c⟩, .int .i64 u.h, Sl.v ⟨v4.A, v4.n, v4.c⟩, .int .i64 u.size, Sl.v ⟨v5.A, v5.n, v5.c⟩, .int .i64 u.each, .int .i64 u.budget, .int .i64 u.least, .int .i64 u.width, .int .u64 u.k1, .int .u64 u.k2]]) (fun _ => True) ?_ ?_
      · refine H_invP [33, 34, 35, 36, 37, 38, 39, 40, 41, 42, 43, 44, 45, 46, 47, 48, 49, 50, 51, 52, 53, 54, 55, 56] (fun d v => match d with
              | 33 | 34 | 35 | 36 | 37 | 41 | 42 | 46 | 47 | 51 | 53 | 55 => v = .pointer (some ⟨b1, 5, none⟩)
              | 38 | 52 => v = .pointer (some ⟨b1, 7, none⟩)
              | 39 => v = Sl.v a.pl
              | 40 | 45 | 50 => ∃ s : Sl, v = s.v
              | 43 | 54 => v = .pointer (some ⟨b1, 8, none⟩)
              | 44 => v = Sl.v a.d
              | 48 | 56 => v = .pointer (some ⟨b1, 10, none⟩)
              | 49 => v = Sl.v a.f
              | _ => True) (fun S L => ∃ s0 s1 s2 : Sl, (¬S 20 → s0 = a.pl) ∧ (¬S 23 → s1 = a.d) ∧ (¬S 26 → s2 = a.f) ∧ L = [box b2 42 zSu, box b1 42 [.int .i64 u.f.bikes, .int .i64 u.f.riders, .int .i64 u.f.devices, Sl.v y0, Sl.v y1, Sl.v y2, Sl.v y3, Sl.v s0, Sl.v s1, .int .i64 u.p.cap, Sl.v s2, .int .i64 u.p.days, .int .i64 u.n, Sl.v ⟨v1.A, v1.n, v1.c⟩, Sl.v ⟨v2.A, v2.n, v2.c⟩, Sl.v ⟨v3.A, v3.n, v3.c⟩, .int .i64 u.h, Sl.v ⟨v4.A, v4.n, v4.c⟩, .int .i64 u.size, Sl.v ⟨v5.A, v5.n, v5.c⟩, .int .i64 u.each, .int .i64 u.budget, .int .i64 u.least, .int .i64 u.width, .int .u64 u.k1, .int .u64 u.k2]]) rfl rfl ?_ ?_ ?_
        · exact fun S hS => ⟨a.pl, a.d, a.f, fun _ => rfl, fun _ => rfl, fun _ => rfl, rfl⟩
        · rintro S L fr i o hA hF ⟨s0, s1, s2, e0, e1, e2, rfl⟩ hi hno hw hc
          have hpt3 : fr 3 = .pointer (some ⟨b1, 5, none⟩) := hA 3 rfl
          match i, hi with
          | 0, hi => cases hi; exact f_ev (e_mv (v := .pointer _) (q0 hpt3)) rfl rfl ⟨⟨s0, s1, s2, fun h => e0 fun h' => h (.inl h'), fun h => e1 fun h' => h (.inl h'), fun h => e2 fun h' => h (.inl h'), rfl⟩, _, rfl, fun d h => by cases h; rfl⟩
          | 1, hi => cases hi; exact f_ev (e_mv (v := .pointer _) (q0 hpt3)) rfl rfl ⟨⟨s0, s1, s2, fun h => e0 fun h' => h (.inl h'), fun h => e1 fun h' => h (.inl h'), fun h => e2 fun h' => h (.inl h'), rfl⟩, _, rfl, fun d h => by cases h; rfl⟩
          | 2, hi => cases hi; exact f_ev (e_mv (v := .pointer _) (q0 hpt3)) rfl rfl ⟨⟨s0, s1, s2, fun h => e0 fun h' => h (.inl h'), fun h => e1 fun h' => h (.inl h'), fun h => e2 fun h' => h (.inl h'), rfl⟩, _, rfl, fun d h => by cases h; rfl⟩
          | 3, hi => cases hi; exact f_ev (e_mv (v := .pointer _) (q0 hpt3)) rfl rfl ⟨⟨s0, s1, s2, fun h => e0 fun h' => h (.inl h'), fun h => e1 fun h' => h (.inl h'), fun h => e2 fun h' => h (.inl h'), rfl⟩, _, rfl, fun d h => by cases h; rfl⟩
          | 4, hi =>
            cases hi
            have hx36 : fr 36 = .pointer (some ⟨b1, 5, none⟩) := hF 3 _ _ rfl (hw 3 rfl) rfl
            exact f_ev (e_nilc (q0 hx36)) rfl rfl ⟨⟨s0, s1, s2, fun h => e0 fun h' => h (.inl h'), fun h => e1 fun h' => h (.inl h'), fun h => e2 fun h' => h (.inl h'), rfl⟩, _, rfl, fun d h => by cases h; rfl⟩
          | 5, hi =>
            cases hi
            have hx37 : fr 37 = .pointer (some ⟨b1, 5, none⟩) := hF 4 _ _ rfl (hw 4 rfl) rfl
            exact f_ev (e_fld Tryz.underlying28 rfl Tryz.sizeOf22 rfl (q0 hx37)) rfl rfl ⟨⟨s0, s1, s2, fun h => e0 fun h' => h (.inl h'), fun h => e1 fun h' => h (.inl h'), fun h => e2 fun h' => h (.inl h'), rfl⟩, _, rfl, fun d h => by cases h; rfl⟩
          | 6, hi =>
            cases hi
            have hx38 : fr 38 = .pointer (some ⟨b1, 7, none⟩) := hF 5 _ _ rfl (hw 5 rfl) rfl
            have n1 : ¬S 20 := fun h => hno (hc 7 6 rfl (hc 20 7 rfl h))
            obtain rfl := e0 n1
            exact f_ev (e_ld (v := Sl.v a.pl) Tryz.isAgg22 (q0 hx38) (fun _ w hw => box_cell hw (k := 1) rfl rfl)) rfl rfl ⟨⟨a.pl, s1, s2, fun _ => rfl, fun h => e1 fun h' => h (.inl h'), fun h => e2 fun h' => h (.inl h'), rfl⟩, _, rfl, fun d h => by cases h; rfl⟩
          | 7, hi =>
            cases hi
            have hx39 : fr 39 = Sl.v a.pl := hF 6 _ _ rfl (hw 6 rfl) rfl
            exact f_callx (en Tryz.call67 (ha1 (q0 hx39))) (fun w hw => cloneI_w a.pl.A a.pl.n a.pl.c u.p.places w (hu.Hp.pl.mem hw) hn.H3) rfl (fun _ => rfl) fun s => ⟨⟨s0, s1, s2, fun h => e0 fun h' => h (.inl h'), fun h => e1 fun h' => h (.inl h'), fun h => e2 fun h' => h (.inl h'), rfl⟩, _, rfl, fun d h => by cases h; exact ⟨s, rfl⟩⟩
          | 8, hi => cases hi; exact f_ev (e_mv (v := .pointer _) (q0 hpt3)) rfl rfl ⟨⟨s0, s1, s2, fun h => e0 fun h' => h (.inl h'), fun h => e1 fun h' => h (.inl h'), fun h => e2 fun h' => h (.inl h'), rfl⟩, _, rfl, fun d h => by cases h; rfl⟩
          | 9, hi =>
            cases hi
            have hx41 : fr 41 = .pointer (some ⟨b1, 5, none⟩) := hF 8 _ _ rfl (hw 8 rfl) rfl
            exact f_ev (e_nilc (q0 hx41)) rfl rfl ⟨⟨s0, s1, s2, fun h => e0 fun h' => h (.inl h'), fun h => e1 fun h' => h (.inl h'), fun h => e2 fun h' => h (.inl h'), rfl⟩, _, rfl, fun d h => by cases h; rfl⟩
          | 10, hi =>
            cases hi
            have hx42 : fr 42 = .pointer (some ⟨b1, 5, none⟩) := hF 9 _ _ rfl (hw 9 rfl) rfl
            exact f_ev (e_fld Tryz.underlying28 rfl Tryz.sizeOf22 rfl (q0 hx42)) rfl rfl ⟨⟨s0, s1, s2, fun h => e0 fun h' => h (.inl h'), fun h => e1 fun h' => h (.inl h'), fun h => e2 fun h' => h (.inl h'), rfl⟩, _, rfl, fun d h => by cases h; rfl⟩
          | 11, hi =>
            cases hi
            have hx43 : fr 43 = .pointer (some ⟨b1, 8, none⟩) := hF 10 _ _ rfl (hw 10 rfl) rfl
            have n1 : ¬S 23 := fun h => hno (hc 12 11 rfl (hc 23 12 rfl h))
            obtain rfl := e1 n1
            exact f_ev (e_ld (v := Sl.v a.d) Tryz.isAgg22 (q0 hx43) (fun _ w hw => box_cell hw (k := 1) rfl rfl)) rfl rfl ⟨⟨s0, a.d, s2, fun h => e0 fun h' => h (.inl h'), fun _ => rfl, fun h => e2 fun h' => h (.inl h'), rfl⟩, _, rfl, fun d h => by cases h; rfl⟩
          | 12, hi =>
            cases hi
            have hx44 : fr 44 = Sl.v a.d := hF 11 _ _ rfl (hw 11 rfl) rfl
            exact f_callx (en Tryz.call67 (ha1 (q0 hx44))) (fun w hw => cloneI_w a.d.A a.d.n a.d.c u.p.docks w (hu.Hp.dk.mem hw) hn.H4) rfl (fun _ => rfl) fun s => ⟨⟨s0, s1, s2, fun h => e0 fun h' => h (.inl h'), fun h => e1 fun h' => h (.inl h'), fun h => e2 fun h' => h (.inl h'), rfl⟩, _, rfl, fun d h => by cases h; exact ⟨s, rfl⟩⟩
          | 13, hi => cases hi; exact f_ev (e_mv (v := .pointer _) (q0 hpt3)) rfl rfl ⟨⟨s0, s1, s2, fun h => e0 fun h' => h (.inl h'), fun h => e1 fun h' => h (.inl h'), fun h => e2 fun h' => h (.inl h'), rfl⟩, _, rfl, fun d h => by cases h; rfl⟩
          | 14, hi =>
            cases hi
            have hx46 : fr 46 = .pointer (some ⟨b1, 5, none⟩) := hF 13 _ _ rfl (hw 13 rfl) rfl
            exact f_ev (e_nilc (q0 hx46)) rfl rfl ⟨⟨s0, s1, s2, fun h => e0 fun h' => h (.inl h'), fun h => e1 fun h' => h (.inl h'), fun h => e2 fun h' => h (.inl h'), rfl⟩, _, rfl, fun d h => by cases h; rfl⟩
          | 15, hi =>
            cases hi
            have hx47 : fr 47 = .pointer (some ⟨b1, 5, none⟩) := hF 14 _ _ rfl (hw 14 rfl) rfl
            exact f_ev (e_fld Tryz.underlying28 rfl Tryz.sizeOf22 rfl (q0 hx47)) rfl rfl ⟨⟨s0, s1, s2, fun h => e0 fun h' => h (.inl h'), fun h => e1 fun h' => h (.inl h'), fun h => e2 fun h' => h (.inl h'), rfl⟩, _, rfl, fun d h => by cases h; rfl⟩
          | 16, hi =>
            cases hi
            have hx48 : fr 48 = .pointer (some ⟨b1, 10, none⟩) := hF 15 _ _ rfl (hw 15 rfl) rfl
            have n1 : ¬S 26 := fun h => hno (hc 17 16 rfl (hc 26 17 rfl h))
            obtain rfl := e2 n1
            exact f_ev (e_ld (v := Sl.v a.f) Tryz.isAgg22 (q0 hx48) (fun _ w hw => box_cell hw (k := 1) rfl rfl)) rfl rfl ⟨⟨s0, s1, a.f, fun h => e0 fun h' => h (.inl h'), fun h => e1 fun h' => h (.inl h'), fun _ => rfl, rfl⟩, _, rfl, fun d h => by cases h; rfl⟩
          | 17, hi =>
            cases hi
            have hx49 : fr 49 = Sl.v a.f := hF 16 _ _ rfl (hw 16 rfl) rfl
            exact f_callx (en Tryz.call67 (ha1 (q0 hx49))) (fun w hw => cloneI_w a.f.A a.f.n a.f.c u.p.fines w (hu.Hp.fi.mem hw) hn.H5) rfl (fun _ => rfl) fun s => ⟨⟨s0, s1, s2, fun h => e0 fun h' => h (.inl h'), fun h => e1 fun h' => h (.inl h'), fun h => e2 fun h' => h (.inl h'), rfl⟩, _, rfl, fun d h => by cases h; exact ⟨s, rfl⟩⟩
          | 18, hi =>
            cases hi
            have hx33 : fr 33 = .pointer (some ⟨b1, 5, none⟩) := hF 0 _ _ rfl (hw 0 rfl) rfl
            exact f_ev (e_nilc (q0 hx33)) rfl rfl ⟨⟨s0, s1, s2, fun h => e0 fun h' => h (.inl h'), fun h => e1 fun h' => h (.inl h'), fun h => e2 fun h' => h (.inl h'), rfl⟩, _, rfl, fun d h => by cases h; rfl⟩
          | 19, hi =>
            cases hi
            have hx51 : fr 51 = .pointer (some ⟨b1, 5, none⟩) := hF 18 _ _ rfl (hw 18 rfl) rfl
            exact f_ev (e_fld Tryz.underlying28 rfl Tryz.sizeOf22 rfl (q0 hx51)) rfl rfl ⟨⟨s0, s1, s2, fun h => e0 fun h' => h (.inl h'), fun h => e1 fun h' => h (.inl h'), fun h => e2 fun h' => h (.inl h'), rfl⟩, _, rfl, fun d h => by cases h; rfl⟩
          | 20, hi =>
            cases hi
            have hx52 : fr 52 = .pointer (some ⟨b1, 7, none⟩) := hF 19 _ _ rfl (hw 19 rfl) rfl
            obtain ⟨z, hz⟩ : ∃ s : Sl, fr 40 = s.v := hF 7 _ _ rfl (hw 7 rfl) rfl
            exact f_store 1 (v := z.v) hx52 hz Tryz.sizeOf22 rfl rfl rfl rfl ⟨⟨z, s1, s2, fun h => absurd (.inr rfl) h, fun h => e1 fun h' => h (.inl h'), fun h => e2 fun h' => h (.inl h'), rfl⟩, undef, rfl, fun d h => by cases h⟩
          | 21, hi =>
            cases hi
            have hx34 : fr 34 = .pointer (some ⟨b1, 5, none⟩) := hF 1 _ _ rfl (hw 1 rfl) rfl
            exact f_ev (e_nilc (q0 hx34)) rfl rfl ⟨⟨s0, s1, s2, fun h => e0 fun h' => h (.inl h'), fun h => e1 fun h' => h (.inl h'), fun h => e2 fun h' => h (.inl h'), rfl⟩, _, rfl, fun d h => by cases h; rfl⟩
          | 22, hi =>
            cases hi
            have hx53 : fr 53 = .pointer (some ⟨b1, 5, none⟩) := hF 21 _ _ rfl (hw 21 rfl) rfl
            exact f_ev (e_fld Tryz.underlying28 rfl Tryz.sizeOf22 rfl (q0 hx53)) rfl rfl ⟨⟨s0, s1, s2, fun h => e0 fun h' => h (.inl h'), fun h => e1 fun h' => h (.inl h'), fun h => e2 fun h' => h (.inl h'), rfl⟩, _, rfl, fun d h => by cases h; rfl⟩
          | 23, hi =>
            cases hi
            have hx54 : fr 54 = .pointer (some ⟨b1, 8, none⟩) := hF 22 _ _ rfl (hw 22 rfl) rfl
            obtain ⟨z, hz⟩ : ∃ s : Sl, fr 45 = s.v := hF 12 _ _ rfl (hw 12 rfl) rfl
            exact f_store 1 (v := z.v) hx54 hz Tryz.sizeOf22 rfl rfl rfl rfl ⟨⟨s0, z, s2, fun h => e0 fun h' => h (.inl h'), fun h => absurd (.inr rfl) h, fun h => e2 fun h' => h (.inl h'), rfl⟩, undef, rfl, fun d h => by cases h⟩
          | 24, hi =>
            cases hi
            have hx35 : fr 35 = .pointer (some ⟨b1, 5, none⟩) := hF 2 _ _ rfl (hw 2 rfl) rfl
            exact f_ev (e_nilc (q0 hx35)) rfl rfl ⟨⟨s0, s1, s2, fun h => e0 fun h' => h (.inl h'), fun h => e1 fun h' => h (.inl h'), fun h => e2 fun h' => h (.inl h'), rfl⟩, _, rfl, fun d h => by cases h; rfl⟩
          | 25, hi =>
            cases hi
            have hx55 : fr 55 = .pointer (some ⟨b1, 5, none⟩) := hF 24 _ _ rfl (hw 24 rfl) rfl
            exact f_ev (e_fld Tryz.underlying28 rfl Tryz.sizeOf22 rfl (q0 hx55)) rfl rfl ⟨⟨s0, s1, s2, fun h => e0 fun h' => h (.inl h'), fun h => e1 fun h' => h (.inl h'), fun h => e2 fun h' => h (.inl h'), rfl⟩, _, rfl, fun d h => by cases h; rfl⟩
          | 26, hi =>
            cases hi
            have hx56 : fr 56 = .pointer (some ⟨b1, 10, none⟩) := hF 25 _ _ rfl (hw 25 rfl) rfl
            obtain ⟨z, hz⟩ : ∃ s : Sl, fr 50 = s.v := hF 17 _ _ rfl (hw 17 rfl) rfl
            exact f_store 1 (v := z.v) hx56 hz Tryz.sizeOf22 rfl rfl rfl rfl ⟨⟨s0, s1, z, fun h => e0 fun h' => h (.inl h'), fun h => e1 fun h' => h (.inl h'), fun h => absurd (.inr rfl) h, rfl⟩, undef, rfl, fun d h => by cases h⟩
          | n + 27, hi => simp at hi
        · rintro S L fr hS hA hF ⟨s0, s1, s2, e0, e1, e2, rfl⟩
          exact cutJ_normal ((s0, s1, s2) : Sl × Sl × Sl) hA trivial (fun w hw => hw) rfl trivial
      · rintro ⟨y4, y5, y6⟩ g4 _
        refine thenJ_normal ?_
        refine H_seq ?_
        refine R0 ?_
        refine xV (e_fld Tryz.underlying42 rfl Tryz.sizeOf35 rfl (q0 rfl)) rfl rfl ?_
        refine xV (e_fld Tryz.underlying35 rfl Tryz.sizeOf31 rfl (q0 rfl)) rfl rfl ?_
        refine xV (e_fld Tryz.underlying31 rfl Tryz.sizeOf29 rfl (q0 rfl)) rfl rfl ?_
        refine xV (eL Tryz.isAgg29 (q0 rfl)) rfl rfl ?_
        refine xCX (en Tryz.call70 (ha1 (q0 rfl))) (fun w hw => cloneE_w v1.A v1.n v1.c u.es w (hu.He.mem hw) hn.He) rfl (fun _ => rfl) fun y7 => ?_
        refine xV (e_fld Tryz.underlying42 rfl Tryz.sizeOf35 rfl (q0 rfl)) rfl rfl ?_
        refine xV (e_fld Tryz.underlying35 rfl Tryz.sizeOf31 rfl (q0 rfl)) rfl rfl ?_
        refine xV (e_fld Tryz.underlying31 rfl Tryz.sizeOf29 rfl (q0 rfl)) rfl rfl ?_
        refine X_st (v := .slice _ _ _) rfl rfl Tryz.sizeOf29 ?_
        refine XN ?_
        refine thenJ_normal ?_
        refine H_seq ?_
        refine H_cut [65, 66, 67, 68, 69, 70, 71, 72, 73, 74, 75, 76] (fun x : Sl × Sl => []) (fun x => [box b2 42 zSu, box b1 42 [.int .i64 u.f.bikes, .int .i64 u.f.riders, .int .i64 u.f.devices, Sl.v y0, Sl.v y1, Sl.v y2, Sl.v y3, Sl.v y4, Sl.v y5, .int .i64 u.p.cap, Sl.v y6, .int .i64 u.p.days, .int .i64 u.n, Sl.v y7, Sl.v x.1, Sl.v x.2, .int .i64 u.h, Sl.v ⟨v4.A, v4.n, v4.c⟩, .int .i64 u.size, Sl.v ⟨v5.A, v5.n, v5.c⟩, .int .i64 u.each, .int .i64 u.budget, .int .i64 u.least, .int .i64 u.width, .int .u64 u.k1, .int .u64 u.k2]]) (fun _ => True) ?_ ?_
        · refine H_invP [65, 66, 67, 68, 69, 70, 71, 72, 73, 74, 75, 76] (fun d v => match d with
                | 65 | 69 | 73 | 75 => v = .pointer (some ⟨b1, 12, none⟩)
                | 66 | 74 => v = .pointer (some ⟨b1, 14, none⟩)
                | 67 => v = Sl.v ⟨v2.A, v2.n, v2.c⟩
                | 68 | 72 => ∃ s : Sl, v = s.v
                | 70 | 76 => v = .pointer (some ⟨b1, 15, none⟩)
                | 71 => v = Sl.v ⟨v3.A, v3.n, v3.c⟩
                | _ => True) (fun S L => ∃ s0 s1 : Sl, (¬S 10 → s0 = ⟨v2.A, v2.n, v2.c⟩) ∧ (¬S 13 → s1 = ⟨v3.A, v3.n, v3.c⟩) ∧ L = [box b2 42 zSu, box b1 42 [.int .i64 u.f.bikes, .int .i64 u.f.riders, .int .i64 u.f.devices, Sl.v y0, Sl.v y1, Sl.v y2, Sl.v y3, Sl.v y4, Sl.v y5, .int .i64 u.p.cap, Sl.v y6, .int .i64 u.p.days, .int .i64 u.n, Sl.v y7, Sl.v s0, Sl.v s1, .int .i64 u.h, Sl.v ⟨v4.A, v4.n, v4.c⟩, .int .i64 u.size, Sl.v ⟨v5.A, v5.n, v5.c⟩, .int .i64 u.each, .int .i64 u.budget, .int .i64 u.least, .int .i64 u.width, .int .u64 u.k1, .int .u64 u.k2]]) rfl rfl ?_ ?_ ?_
          · exact fun S hS => ⟨⟨v2.A, v2.n, v2.c⟩, ⟨v3.A, v3.n, v3.c⟩, fun _ => rfl, fun _ => rfl, rfl⟩
          · rintro S L fr i o hA hF ⟨s0, s1, e0, e1, rfl⟩ hi hno hw hc
            have hpt1 : fr 1 = .pointer (some ⟨b1, 0, none⟩) := hA 1 rfl
            match i, hi with
            | 0, hi => cases hi; exact f_ev (e_fld Tryz.underlying42 rfl Tryz.sizeOf35 rfl (q0 hpt1)) rfl rfl ⟨⟨s0, s1, fun h => e0 fun h' => h (.inl h'), fun h => e1 fun h' => h (.inl h'), rfl⟩, _, rfl, fun d h => by cases h; rfl⟩
            | 1, hi =>
              cases hi
              have hx65 : fr 65 = .pointer (some ⟨b1, 12, none⟩) := hF 0 _ _ rfl (hw 0 rfl) rfl
              exact f_ev (e_fld Tryz.underlying35 rfl Tryz.sizeOf32 rfl (q0 hx65)) rfl rfl ⟨⟨s0, s1, fun h => e0 fun h' => h (.inl h'), fun h => e1 fun h' => h (.inl h'), rfl⟩, _, rfl, fun d h => by cases h; rfl⟩
            | 2, hi =>
              cases hi
              have hx66 : fr 66 = .pointer (some ⟨b1, 14, none⟩) := hF 1 _ _ rfl (hw 1 rfl) rfl
              have n1 : ¬S 10 := fun h => hno (hc 3 2 rfl (hc 10 3 rfl h))
              obtain rfl := e0 n1
              exact f_ev (e_ld (v := Sl.v ⟨v2.A, v2.n, v2.c⟩) Tryz.isAgg32 (q0 hx66) (fun _ w hw => box_cell hw (k := 1) rfl rfl)) rfl rfl ⟨⟨⟨v2.A, v2.n, v2.c⟩, s1, fun _ => rfl, fun h => e1 fun h' => h (.inl h'), rfl⟩, _, rfl, fun d h => by cases h; rfl⟩
            | 3, hi =>
              cases hi
              have hx67 : fr 67 = Sl.v ⟨v2.A, v2.n, v2.c⟩ := hF 2 _ _ rfl (hw 2 rfl) rfl
              exact f_callx (en Tryz.call71 (ha1 (q0 hx67))) (fun w hw => cloneK_w v2.A v2.n v2.c u.ts w (hu.Ht.mem hw) hn.Hk) rfl (fun _ => rfl) fun s => ⟨⟨s0, s1, fun h => e0 fun h' => h (.inl h'), fun h => e1 fun h' => h (.inl h'), rfl⟩, _, rfl, fun d h => by cases h; exact ⟨s, rfl⟩⟩
            | 4, hi => cases hi; exact f_ev (e_fld Tryz.underlying42 rfl Tryz.sizeOf35 rfl (q0 hpt1)) rfl rfl ⟨⟨s0, s1, fun h => e0 fun h' => h (.inl h'), fun h => e1 fun h' => h (.inl h'), rfl⟩, _, rfl, fun d h => by cases h; rfl⟩
            | 5, hi =>
              cases hi
              have hx69 : fr 69 = .pointer (some ⟨b1, 12, none⟩) := hF 4 _ _ rfl (hw 4 rfl) rfl
              exact f_ev (e_fld Tryz.underlying35 rfl Tryz.sizeOf33 rfl (q0 hx69)) rfl rfl ⟨⟨s0, s1, fun h => e0 fun h' => h (.inl h'), fun h => e1 fun h' => h (.inl h'), rfl⟩, _, rfl, fun d h => by cases h; rfl⟩
            | 6, hi =>
              cases hi
              have hx70 : fr 70 = .pointer (some ⟨b1, 15, none⟩) := hF 5 _ _ rfl (hw 5 rfl) rfl
              have n1 : ¬S 13 := fun h => hno (hc 7 6 rfl (hc 13 7 rfl h))
              obtain rfl := e1 n1
              exact f_ev (e_ld (v := Sl.v ⟨v3.A, v3.n, v3.c⟩) Tryz.isAgg33 (q0 hx70) (fun _ w hw => box_cell hw (k := 1) rfl rfl)) rfl rfl ⟨⟨s0, ⟨v3.A, v3.n, v3.c⟩, fun h => e0 fun h' => h (.inl h'), fun _ => rfl, rfl⟩, _, rfl, fun d h => by cases h; rfl⟩
            | 7, hi =>
              cases hi
              have hx71 : fr 71 = Sl.v ⟨v3.A, v3.n, v3.c⟩ := hF 6 _ _ rfl (hw 6 rfl) rfl
              exact f_callx (en Tryz.call72 (ha1 (q0 hx71))) (fun w hw => cloneN_w v3.A v3.n v3.c u.ds w (hu.Hd.mem hw) hn.Hn) rfl (fun _ => rfl) fun s => ⟨⟨s0, s1, fun h => e0 fun h' => h (.inl h'), fun h => e1 fun h' => h (.inl h'), rfl⟩, _, rfl, fun d h => by cases h; exact ⟨s, rfl⟩⟩
            | 8, hi => cases hi; exact f_ev (e_fld Tryz.underlying42 rfl Tryz.sizeOf35 rfl (q0 hpt1)) rfl rfl ⟨⟨s0, s1, fun h => e0 fun h' => h (.inl h'), fun h => e1 fun h' => h (.inl h'), rfl⟩, _, rfl, fun d h => by cases h; rfl⟩
            | 9, hi =>
              cases hi
              have hx73 : fr 73 = .pointer (some ⟨b1, 12, none⟩) := hF 8 _ _ rfl (hw 8 rfl) rfl
              exact f_ev (e_fld Tryz.underlying35 rfl Tryz.sizeOf32 rfl (q0 hx73)) rfl rfl ⟨⟨s0, s1, fun h => e0 fun h' => h (.inl h'), fun h => e1 fun h' => h (.inl h'), rfl⟩, _, rfl, fun d h => by cases h; rfl⟩
            | 10, hi =>
              cases hi
              have hx74 : fr 74 = .pointer (some ⟨b1, 14, none⟩) := hF 9 _ _ rfl (hw 9 rfl) rfl
              obtain ⟨z, hz⟩ : ∃ s : Sl, fr 68 = s.v := hF 3 _ _ rfl (hw 3 rfl) rfl
              exact f_store 1 (v := z.v) hx74 hz Tryz.sizeOf32 rfl rfl rfl rfl ⟨⟨z, s1, fun h => absurd (.inr rfl) h, fun h => e1 fun h' => h (.inl h'), rfl⟩, undef, rfl, fun d h => by cases h⟩
            | 11, hi => cases hi; exact f_ev (e_fld Tryz.underlying42 rfl Tryz.sizeOf35 rfl (q0 hpt1)) rfl rfl ⟨⟨s0, s1, fun h => e0 fun h' => h (.inl h'), fun h => e1 fun h' => h (.inl h'), rfl⟩, _, rfl, fun d h => by cases h; rfl⟩
            | 12, hi =>
              cases hi
              have hx75 : fr 75 = .pointer (some ⟨b1, 12, none⟩) := hF 11 _ _ rfl (hw 11 rfl) rfl
              exact f_ev (e_fld Tryz.underlying35 rfl Tryz.sizeOf33 rfl (q0 hx75)) rfl rfl ⟨⟨s0, s1, fun h => e0 fun h' => h (.inl h'), fun h => e1 fun h' => h (.inl h'), rfl⟩, _, rfl, fun d h => by cases h; rfl⟩
            | 13, hi =>
              cases hi
              have hx76 : fr 76 = .pointer (some ⟨b1, 15, none⟩) := hF 12 _ _ rfl (hw 12 rfl) rfl
              obtain ⟨z, hz⟩ : ∃ s : Sl, fr 72 = s.v := hF 7 _ _ rfl (hw 7 rfl) rfl
              exact f_store 1 (v := z.v) hx76 hz Tryz.sizeOf33 rfl rfl rfl rfl ⟨⟨s0, z, fun h => e0 fun h' => h (.inl h'), fun h => absurd (.inr rfl) h, rfl⟩, undef, rfl, fun d h => by cases h⟩
            | n + 14, hi => simp at hi
          · rintro S L fr hS hA hF ⟨s0, s1, e0, e1, rfl⟩
            exact cutJ_normal ((s0, s1) : Sl × Sl) hA trivial (fun w hw => hw) rfl trivial
        · rintro ⟨y8, y9⟩ g6 _
          refine thenJ_normal ?_
          refine H_seq ?_
          refine H_cut [77, 78, 79, 80, 81, 82, 83, 84, 85, 86] (fun x : Sl × Sl => []) (fun x => [box b2 42 zSu, box b1 42 [.int .i64 u.f.bikes, .int .i64 u.f.riders, .int .i64 u.f.devices, Sl.v y0, Sl.v y1, Sl.v y2, Sl.v y3, Sl.v y4, Sl.v y5, .int .i64 u.p.cap, Sl.v y6, .int .i64 u.p.days, .int .i64 u.n, Sl.v y7, Sl.v y8, Sl.v y9, .int .i64 u.h, Sl.v x.1, .int .i64 u.size, Sl.v x.2, .int .i64 u.each, .int .i64 u.budget, .int .i64 u.least, .int .i64 u.width, .int .u64 u.k1, .int .u64 u.k2]]) (fun _ => True) ?_ ?_
          · refine H_invP [77, 78, 79, 80, 81, 82, 83, 84, 85, 86] (fun d v => match d with
                  | 77 | 84 => v = .pointer (some ⟨b1, 17, none⟩)
                  | 78 => v = Sl.v ⟨v4.A, v4.n, v4.c⟩
                  | 79 | 83 => ∃ s : Sl, v = s.v
                  | 80 | 81 | 85 | 86 => v = .pointer (some ⟨b1, 19, none⟩)
                  | 82 => v = Sl.v ⟨v5.A, v5.n, v5.c⟩
                  | _ => True) (fun S L => ∃ s0 s1 : Sl, (¬S 8 → s0 = ⟨v4.A, v4.n, v4.c⟩) ∧ (¬S 11 → s1 = ⟨v5.A, v5.n, v5.c⟩) ∧ L = [box b2 42 zSu, box b1 42 [.int .i64 u.f.bikes, .int .i64 u.f.riders, .int .i64 u.f.devices, Sl.v y0, Sl.v y1, Sl.v y2, Sl.v y3, Sl.v y4, Sl.v y5, .int .i64 u.p.cap, Sl.v y6, .int .i64 u.p.days, .int .i64 u.n, Sl.v y7, Sl.v y8, Sl.v y9, .int .i64 u.h, Sl.v s0, .int .i64 u.size, Sl.v s1, .int .i64 u.each, .int .i64 u.budget, .int .i64 u.least, .int .i64 u.width, .int .u64 u.k1, .int .u64 u.k2]]) rfl rfl ?_ ?_ ?_
            · exact fun S hS => ⟨⟨v4.A, v4.n, v4.c⟩, ⟨v5.A, v5.n, v5.c⟩, fun _ => rfl, fun _ => rfl, rfl⟩
            · rintro S L fr i o hA hF ⟨s0, s1, e0, e1, rfl⟩ hi hno hw hc
              have hpt1 : fr 1 = .pointer (some ⟨b1, 0, none⟩) := hA 1 rfl
              match i, hi with
              | 0, hi => cases hi; exact f_ev (e_fld Tryz.underlying42 rfl Tryz.sizeOf22 rfl (q0 hpt1)) rfl rfl ⟨⟨s0, s1, fun h => e0 fun h' => h (.inl h'), fun h => e1 fun h' => h (.inl h'), rfl⟩, _, rfl, fun d h => by cases h; rfl⟩
              | 1, hi =>
                cases hi
                have hx77 : fr 77 = .pointer (some ⟨b1, 17, none⟩) := hF 0 _ _ rfl (hw 0 rfl) rfl
                have n1 : ¬S 8 := fun h => hno (hc 2 1 rfl (hc 8 2 rfl h))
                obtain rfl := e0 n1
                exact f_ev (e_ld (v := Sl.v ⟨v4.A, v4.n, v4.c⟩) Tryz.isAgg22 (q0 hx77) (fun _ w hw => box_cell hw (k := 1) rfl rfl)) rfl rfl ⟨⟨⟨v4.A, v4.n, v4.c⟩, s1, fun _ => rfl, fun h => e1 fun h' => h (.inl h'), rfl⟩, _, rfl, fun d h => by cases h; rfl⟩
              | 2, hi =>
                cases hi
                have hx78 : fr 78 = Sl.v ⟨v4.A, v4.n, v4.c⟩ := hF 1 _ _ rfl (hw 1 rfl) rfl
                exact f_callx (en Tryz.call67 (ha1 (q0 hx78))) (fun w hw => cloneI_w v4.A v4.n v4.c u.z w (hu.Hz.mem hw) hn.Hz) rfl (fun _ => rfl) fun s => ⟨⟨s0, s1, fun h => e0 fun h' => h (.inl h'), fun h => e1 fun h' => h (.inl h'), rfl⟩, _, rfl, fun d h => by cases h; exact ⟨s, rfl⟩⟩
              | 3, hi => cases hi; exact f_ev (e_fld Tryz.underlying42 rfl Tryz.sizeOf37 rfl (q0 hpt1)) rfl rfl ⟨⟨s0, s1, fun h => e0 fun h' => h (.inl h'), fun h => e1 fun h' => h (.inl h'), rfl⟩, _, rfl, fun d h => by cases h; rfl⟩
              | 4, hi =>
                cases hi
                have hx80 : fr 80 = .pointer (some ⟨b1, 19, none⟩) := hF 3 _ _ rfl (hw 3 rfl) rfl
                exact f_ev (e_fld Tryz.underlying37 rfl Tryz.sizeOf22 rfl (q0 hx80)) rfl rfl ⟨⟨s0, s1, fun h => e0 fun h' => h (.inl h'), fun h => e1 fun h' => h (.inl h'), rfl⟩, _, rfl, fun d h => by cases h; rfl⟩
              | 5, hi =>
                cases hi
                have hx81 : fr 81 = .pointer (some ⟨b1, 19, none⟩) := hF 4 _ _ rfl (hw 4 rfl) rfl
                have n1 : ¬S 11 := fun h => hno (hc 6 5 rfl (hc 11 6 rfl h))
                obtain rfl := e1 n1
                exact f_ev (e_ld (v := Sl.v ⟨v5.A, v5.n, v5.c⟩) Tryz.isAgg22 (q0 hx81) (fun _ w hw => box_cell hw (k := 1) rfl rfl)) rfl rfl ⟨⟨s0, ⟨v5.A, v5.n, v5.c⟩, fun h => e0 fun h' => h (.inl h'), fun _ => rfl, rfl⟩, _, rfl, fun d h => by cases h; rfl⟩
              | 6, hi =>
                cases hi
                have hx82 : fr 82 = Sl.v ⟨v5.A, v5.n, v5.c⟩ := hF 5 _ _ rfl (hw 5 rfl) rfl
                exact f_callx (en Tryz.call67 (ha1 (q0 hx82))) (fun w hw => cloneI_w v5.A v5.n v5.c u.ws w (hu.Hw.mem hw) hn.Hw) rfl (fun _ => rfl) fun s => ⟨⟨s0, s1, fun h => e0 fun h' => h (.inl h'), fun h => e1 fun h' => h (.inl h'), rfl⟩, _, rfl, fun d h => by cases h; exact ⟨s, rfl⟩⟩
              | 7, hi => cases hi; exact f_ev (e_fld Tryz.underlying42 rfl Tryz.sizeOf22 rfl (q0 hpt1)) rfl rfl ⟨⟨s0, s1, fun h => e0 fun h' => h (.inl h'), fun h => e1 fun h' => h (.inl h'), rfl⟩, _, rfl, fun d h => by cases h; rfl⟩
              | 8, hi =>
                cases hi
                have hx84 : fr 84 = .pointer (some ⟨b1, 17, none⟩) := hF 7 _ _ rfl (hw 7 rfl) rfl
                obtain ⟨z, hz⟩ : ∃ s : Sl, fr 79 = s.v := hF 2 _ _ rfl (hw 2 rfl) rfl
                exact f_store 1 (v := z.v) hx84 hz Tryz.sizeOf22 rfl rfl rfl rfl ⟨⟨z, s1, fun h => absurd (.inr rfl) h, fun h => e1 fun h' => h (.inl h'), rfl⟩, undef, rfl, fun d h => by cases h⟩
              | 9, hi => cases hi; exact f_ev (e_fld Tryz.underlying42 rfl Tryz.sizeOf37 rfl (q0 hpt1)) rfl rfl ⟨⟨s0, s1, fun h => e0 fun h' => h (.inl h'), fun h => e1 fun h' => h (.inl h'), rfl⟩, _, rfl, fun d h => by cases h; rfl⟩
              | 10, hi =>
                cases hi
                have hx85 : fr 85 = .pointer (some ⟨b1, 19, none⟩) := hF 9 _ _ rfl (hw 9 rfl) rfl
                exact f_ev (e_fld Tryz.underlying37 rfl Tryz.sizeOf22 rfl (q0 hx85)) rfl rfl ⟨⟨s0, s1, fun h => e0 fun h' => h (.inl h'), fun h => e1 fun h' => h (.inl h'), rfl⟩, _, rfl, fun d h => by cases h; rfl⟩
              | 11, hi =>
                cases hi
                have hx86 : fr 86 = .pointer (some ⟨b1, 19, none⟩) := hF 10 _ _ rfl (hw 10 rfl) rfl
                obtain ⟨z, hz⟩ : ∃ s : Sl, fr 83 = s.v := hF 6 _ _ rfl (hw 6 rfl) rfl
                exact f_store 1 (v := z.v) hx86 hz Tryz.sizeOf22 rfl rfl rfl rfl ⟨⟨s0, z, fun h => e0 fun h' => h (.inl h'), fun h => absurd (.inr rfl) h, rfl⟩, undef, rfl, fun d h => by cases h⟩
              | n + 12, hi => simp at hi
            · rintro S L fr hS hA hF ⟨s0, s1, e0, e1, rfl⟩
              exact cutJ_normal ((s0, s1) : Sl × Sl) hA trivial (fun w hw => hw) rfl trivial
          · rintro ⟨y10, y11⟩ g7 _
            refine thenJ_normal ?_
            refine H_seq ?_
            refine R0 ?_
            refine xV (eS Tryz.isAgg42 Tryz.sizeOf42 (q0 rfl)) rfl rfl ?_
            refine X_st (v := .agg _) rfl rfl Tryz.sizeOf42 ?_
            refine XN ?_
            refine thenJ_normal ?_
            refine H_ret ?_
            exact ret_of rfl (resC (vs := [.int .i64 u.f.bikes, .int .i64 u.f.riders, .int .i64 u.f.devices, Sl.v y0, Sl.v y1, Sl.v y2, Sl.v y3, Sl.v y4, Sl.v y5, .int .i64 u.p.cap, Sl.v y6, .int .i64 u.p.days, .int .i64 u.n, Sl.v y7, Sl.v y8, Sl.v y9, .int .i64 u.h, Sl.v y10, .int .i64 u.size, Sl.v y11, .int .i64 u.each, .int .i64 u.budget, .int .i64 u.least, .int .i64 u.width, .int .u64 u.k1, .int .u64 u.k2]) rfl rfl Tryz.isAgg42 Tryz.sizeOf42 (fun _ w hw j q hq => by
                have hw : Mem _ [box b2 42 (setAt zSu 0 [.int .i64 u.f.bikes, .int .i64 u.f.riders, .int .i64 u.f.devices, Sl.v y0, Sl.v y1, Sl.v y2, Sl.v y3, Sl.v y4, Sl.v y5, .int .i64 u.p.cap, Sl.v y6, .int .i64 u.p.days, .int .i64 u.n, Sl.v y7, Sl.v y8, Sl.v y9, .int .i64 u.h, Sl.v y10, .int .i64 u.size, Sl.v y11, .int .i64 u.each, .int .i64 u.budget, .int .i64 u.least, .int .i64 u.width, .int .u64 u.k1, .int .u64 u.k2]), box b1 42 [.int .i64 u.f.bikes, .int .i64 u.f.riders, .int .i64 u.f.devices, Sl.v y0, Sl.v y1, Sl.v y2, Sl.v y3, Sl.v y4, Sl.v y5, .int .i64 u.p.cap, Sl.v y6, .int .i64 u.p.days, .int .i64 u.n, Sl.v y7, Sl.v y8, Sl.v y9, .int .i64 u.h, Sl.v y10, .int .i64 u.size, Sl.v y11, .int .i64 u.each, .int .i64 u.budget, .int .i64 u.least, .int .i64 u.width, .int .u64 u.k1, .int .u64 u.k2]] w := hw
                rw [setAt_all (cs := zSu) (vs := [.int .i64 u.f.bikes, .int .i64 u.f.riders, .int .i64 u.f.devices, Sl.v y0, Sl.v y1, Sl.v y2, Sl.v y3, Sl.v y4, Sl.v y5, .int .i64 u.p.cap, Sl.v y6, .int .i64 u.p.days, .int .i64 u.n, Sl.v y7, Sl.v y8, Sl.v y9, .int .i64 u.h, Sl.v y10, .int .i64 u.size, Sl.v y11, .int .i64 u.each, .int .i64 u.budget, .int .i64 u.least, .int .i64 u.width, .int .u64 u.k1, .int .u64 u.k2]) rfl] at hw
                rw [Nat.zero_add]
                exact box_cell hw (k := 0) rfl hq) rfl) fun w' hw => ⟨((y0, y1), (y2, y3), (y4, y5, y6), y7, (y8, y9), (y10, y11)), rfl, mem_nil.2 hw.1⟩
end Go.Proofs.Sys

/-
  A system made; light; the law on checks.
-/
namespace Go.Proofs.Sys
open Go Go.RowKit Go.Proofs.E Go.Proofs.Cus Go.Proofs.Far


theorem gnew_w (dv : Int) (h1 : 1 ≤ dv) (h2 : dv ≤ 256) (w : World) : Calls Tryz.prog 23 #[.int .i64 dv] w fun e w' => ∃ x : Nat, e = .returned (.tuple #[.pointer (some ⟨x, 0, none⟩), .int .i64 0]) ∧ Mem w [] w' := by
  refine H_enter Tryz.func23 rfl Tryz.ntmps23 rfl ?_
  refine H_seq ?_
  refine R0 ?_
  refine xV (e_as (v := .pointer _) (q0 rfl)) rfl rfl ?_
  refine xV (e_as (v := .int _ _) (q0 rfl)) rfl rfl ?_
  refine XN ?_
  refine thenJ_normal ?_
  refine H_seq ?_
  refine H_seq ?_
  refine R0 ?_
  refine xV (e_mv (v := .int _ _) (q0 rfl)) rfl rfl ?_
  refine xV (e_lt (q0 rfl) (q0 rfl)) rfl rfl ?_
  refine xV (e_mv (v := .bool _) (q0 rfl)) rfl rfl ?_
  refine xVF (e_mv (v := .int _ _) (q0 rfl)) rfl rfl rfl rfl ?_
  refine xVF (e_gt (q1 rfl) (q0 rfl)) rfl rfl rfl rfl ?_
  refine xV (e_or (q0 rfl) rfl (fun h => by first | rfl | (rw [h]; rfl))) rfl rfl ?_
  refine XN ?_
  refine thenJ_normal ?_
  refine H_cond rfl (fun hb => ?_) (fun hb => ?_)
  · exfalso; simp at hb; omega
  · refine H_skip ?_
    refine thenJ_normal ?_
    refine H_seq ?_
    refine R0 ?_
    refine xV (e_mv (v := .int _ _) (q0 rfl)) rfl rfl ?_
    refine X_makeMap rfl fun bm => ?_
    refine xV (e_build Tryz.underlying156 fl156 Tryz.zeroValue156 (pt (v := .int _ _) rfl (pt (v := .map _) rfl E.p0)) rfl) rfl rfl ?_
    refine X_box (v := .agg _) rfl rfl fun b13 => ?_
    refine xV (e_as (v := .pointer _) (q0 rfl)) rfl rfl ?_
    refine xV (e_as (v := .int _ _) (q0 rfl)) rfl rfl ?_
    refine XN ?_
    refine thenJ_normal ?_
    refine H_ret ?_
    exact ret2 (v := .pointer _) (x := .int _ _) rfl rfl rfl rfl fun w' hw => ⟨b13, rfl, mem_nil.2 hw.1⟩
theorem prErr_ok {f : Fl} {p : Pr} (h : prErr f p = 0) : flErr f = 0 := by
  refine Classical.byContradiction fun hn => ?_
  unfold prErr at h
  rw [if_pos hn] at h
  exact hn h
theorem suErr_ok {u : Su} (h : suErr u = 0) : prErr u.f u.p = 0 := by
  refine Classical.byContradiction fun hn => ?_
  rw [(su_if u).1 hn] at h
  exact hn h
attribute [local irreducible] suErr
set_option maxRecDepth 20000 in
theorem snewBad_w (u : Su) (fa : FA) (a : PrA) (v1 v2 v3 v4 v5 : Sl) (w : World) (hu : SuAt w u fa a v1 v2 v3 v4 v5) (hz : suErr u ≠ 0) : Calls Tryz.prog 8 #[.agg (suC u fa a v1 v2 v3 v4 v5).toArray] w fun r w' => r = .returned (.tuple #[.pointer none, .int .i64 (suErr u)]) ∧ Bel w w' := by
  refine H_enter Tryz.func8 rfl Tryz.ntmps8 rfl ?_
  refine H_seq ?_
  refine R0 ?_
  refine X_box (v := .agg _) rfl rfl fun b1 => ?_
  refine xV (e_as (v := .pointer _) (q0 rfl)) rfl rfl ?_
  refine xV (e_as (v := .int _ _) (q0 rfl)) rfl rfl ?_
  refine XN ?_
  refine thenJ_normal ?_
  refine H_seq ?_
  refine H_seq ?_
  refine R0 ?_
  refine xV (eS Tryz.isAgg42 Tryz.sizeOf42 (q0 rfl)) rfl rfl ?_
  refine xC (en Tryz.call9 (ha1 (q0 rfl))) (fun _ w hw => scheck_w u fa a v1 v2 v3 v4 v5 w (hu.mem hw)) rfl rfl ?_
  refine xV (e_as (v := .int _ _) (q0 rfl)) rfl rfl ?_
  refine XN ?_
  refine thenJ_normal ?_
  refine H_seq ?_
  refine R0 ?_
  refine xV (e_mv (v := .int _ _) (q0 rfl)) rfl rfl ?_
  refine xV (e_ne (q0 rfl) (q0 rfl)) rfl rfl ?_
  refine XN ?_
  refine thenJ_normal ?_
  refine H_cond rfl (fun h1 => ?_) (fun h1 => ?_)
  · refine H_seq ?_
    refine R0 ?_
    refine xV (e_mv (v := .int _ _) (q0 rfl)) rfl rfl ?_
    refine xV (e_as (v := .pointer _) (q0 rfl)) rfl rfl ?_
    refine xV (e_as (v := .int _ _) (q0 rfl)) rfl rfl ?_
    refine XN ?_
    refine thenJ_normal ?_
    refine H_ret ?_
    refine thenJ_ret ?_
    exact ret2 (v := .pointer _) (x := .int _ _) rfl rfl rfl rfl fun w' hw => ⟨rfl, hw.1⟩
  · exfalso
    exact hz (by simpa using h1)
set_option maxRecDepth 20000 in
set_option maxHeartbeats 1000000 in
theorem snewOk_w (u : Su) (fa : FA) (a : PrA) (v1 v2 v3 v4 v5 : Sl) (w : World) (hu : SuAt w u fa a v1 v2 v3 v4 v5) (hn : SuN fa a v1 v2 v3 v4 v5) (hz : suErr u = 0) : Calls Tryz.prog 8 #[.agg (suC u fa a v1 v2 v3 v4 v5).toArray] w fun r w' => ∃ x : Nat, r = .returned (.tuple #[.pointer (some ⟨x, 0, none⟩), .int .i64 0]) ∧ Mem w [] w' := by
  have hdv : 1 ≤ u.f.devices ∧ u.f.devices ≤ 256 := by have := flErr_ok (prErr_ok (suErr_ok hz)); omega
  refine H_enter Tryz.func8 rfl Tryz.ntmps8 rfl ?_
  refine H_seq ?_
  refine R0 ?_
  refine X_box (v := .agg _) rfl rfl fun b1 => ?_
  refine xV (e_as (v := .pointer _) (q0 rfl)) rfl rfl ?_
  refine xV (e_as (v := .int _ _) (q0 rfl)) rfl rfl ?_
  refine XN ?_
  refine thenJ_normal ?_
  refine H_seq ?_
  refine H_seq ?_
  refine R0 ?_
  refine xV (eS Tryz.isAgg42 Tryz.sizeOf42 (q0 rfl)) rfl rfl ?_
  refine xC (en Tryz.call9 (ha1 (q0 rfl))) (fun _ w hw => scheck_w u fa a v1 v2 v3 v4 v5 w (hu.mem hw)) rfl rfl ?_
  refine xV (e_as (v := .int _ _) (q0 rfl)) rfl rfl ?_
  refine XN ?_
  refine thenJ_normal ?_
  refine H_seq ?_
  refine R0 ?_
  refine xV (e_mv (v := .int _ _) (q0 rfl)) rfl rfl ?_
  refine xV (e_ne (q0 rfl) (q0 rfl)) rfl rfl ?_
  refine XN ?_
  refine thenJ_normal ?_
  refine H_cond rfl (fun h1 => ?_) (fun h1 => ?_)
  · exfalso
    simp at h1
    exact h1 hz
  · refine H_skip ?_
    refine thenJ_normal ?_
    refine H_seq ?_
    refine R0 ?_
    refine xV (e_fld Tryz.underlying42 rfl Tryz.sizeOf24 rfl (q0 rfl)) rfl rfl ?_
    refine xV (e_fld Tryz.underlying24 rfl Tryz.sizeOf3 rfl (q0 rfl)) rfl rfl ?_
    refine xV (eL Tryz.isAgg3 (q0 rfl)) rfl rfl ?_
    refine xCX (en Tryz.call23 (ha1 (q0 rfl))) (fun w _ => gnew_w u.f.devices hdv.1 hdv.2 w) rfl (fun _ => rfl) fun y => ?_
    refine xV (e_mv (q0 rfl)) rfl rfl ?_
    refine xV (e_ext (q0 rfl) rfl) rfl rfl ?_
    refine xV (e_ext (q0 rfl) rfl) rfl rfl ?_
    refine xV (e_as (v := .pointer _) (q0 rfl)) rfl rfl ?_
    refine xV (e_as (v := .int _ _) (q0 rfl)) rfl rfl ?_
    refine XN ?_
    refine thenJ_normal ?_
    refine H_seq ?_
    refine H_seq ?_
    refine R0 ?_
    refine xV (e_mv (v := .int _ _) (q0 rfl)) rfl rfl ?_
    refine xV (e_ne (q0 rfl) (q0 rfl)) rfl rfl ?_
    refine XN ?_
    refine thenJ_normal ?_
    refine H_cond rfl (fun h2 => ?_) (fun h2 => ?_)
    · exfalso
      simp at h2
    · refine H_skip ?_
      refine thenJ_normal ?_
      refine H_seq ?_
      refine R0 ?_
      refine xV (eS Tryz.isAgg42 Tryz.sizeOf42 (q0 rfl)) rfl rfl ?_
      refine xCX (en Tryz.call24 (ha1 (q0 rfl))) (fun w hw => copy_w u fa a v1 v2 v3 v4 v5 w (hu.mem hw) hn) rfl (fun _ => rfl) fun x => ?_
      refine xV (e_mv (v := .pointer _) (q0 rfl)) rfl rfl ?_
      refine xV (e_build Tryz.underlying97 fl97 Tryz.zeroValue97 (pt (v := .agg _) rfl (pt (v := .pointer _) rfl E.p0)) rfl) rfl rfl ?_
      refine X_box (v := .agg _) rfl rfl fun b26 => ?_
      refine xV (e_as (v := .pointer _) (q0 rfl)) rfl rfl ?_
      refine xV (e_as (v := .int _ _) (q0 rfl)) rfl rfl ?_
      refine XN ?_
      refine thenJ_normal ?_
      refine H_ret ?_
      exact ret2 (v := .pointer _) (x := .int _ _) rfl rfl rfl rfl fun w' hw => ⟨b26, rfl, mem_nil.2 hw.1⟩
def lightB (u : Su) (fa : FA) (a : PrA) (v1 v2 v3 v4 v5 : Sl) : Bool := decide (u.f.bikes ≤ 16) && decide ((fa.dn : Int) ≤ 40) && decide ((fa.tn : Int) ≤ 20) && decide ((a.t.n : Int) ≤ 20) && decide ((a.p.n : Int) ≤ 20) && decide ((a.pl.n : Int) ≤ 80) && decide ((a.d.n : Int) ≤ 40) && decide ((a.f.n : Int) ≤ 600) && decide ((v4.n : Int) ≤ 100) && decide ((v5.n : Int) ≤ 40) && decide ((v3.n : Int) ≤ 6) && decide ((v2.n : Int) ≤ 4) && decide ((v1.n : Int) ≤ 60) && decide (u.size ≤ 4)
set_option maxRecDepth 20000 in
set_option maxHeartbeats 2000000 in
theorem light_w (u : Su) (fa : FA) (a : PrA) (v1 v2 v3 v4 v5 : Sl) (w : World) : Calls Tryz.prog 5 #[.agg (suC u fa a v1 v2 v3 v4 v5).toArray] w fun r w' => r = .returned (.bool (lightB u fa a v1 v2 v3 v4 v5)) ∧ Bel w w' := by
  refine H_enter Tryz.func5 rfl Tryz.ntmps5 rfl ?_
  refine H_seq ?_
  refine R0 ?_
  refine X_box (v := .agg _) rfl rfl fun b1 => ?_
  refine xV (e_as (v := .bool _) (q0 rfl)) rfl rfl ?_
  refine XN ?_
  refine thenJ_normal ?_
  refine H_seq ?_
  refine R0 ?_
  refine xV (e_fld Tryz.underlying42 rfl Tryz.sizeOf28 rfl (q0 rfl)) rfl rfl ?_
  refine xV (eP Tryz.isAgg28 Tryz.sizeOf28 (q0 rfl)) rfl rfl ?_
  refine X_alloc Tryz.zeroValue28 rfl fun b3 => ?_
  refine X_st (v := .agg _) rfl rfl Tryz.sizeOf28 ?_
  refine XN ?_
  refine thenJ_normal ?_
  refine H_seq ?_
  refine H_mem (L' := [box b3 28 (u.p.cells a), box b1 42 (suC u fa a v1 v2 v3 v4 v5)]) (fun w hw => hw) rfl ?_
  refine R0 ?_
  refine xV (e_fld Tryz.underlying42 rfl Tryz.sizeOf24 rfl (q0 rfl)) rfl rfl ?_
  refine xV (e_fld Tryz.underlying24 rfl Tryz.sizeOf3 rfl (q0 rfl)) rfl rfl ?_
  refine xV (eL Tryz.isAgg3 (q0 rfl)) rfl rfl ?_
  refine xV (e_le (q0 rfl) (q0 rfl)) rfl rfl ?_
  refine xV (e_mv (v := .bool _) (q0 rfl)) rfl rfl ?_
  refine xVT (e_fld Tryz.underlying42 rfl Tryz.sizeOf24 rfl (q0 rfl)) rfl rfl rfl rfl ?_
  refine xVT (e_fld Tryz.underlying24 rfl Tryz.sizeOf22 rfl (q1 rfl)) rfl rfl rfl rfl ?_
  refine xVT (eL Tryz.isAgg22 (q1 rfl)) rfl rfl rfl rfl ?_
  refine xVT (e_len Tryz.underlying22 (q1 rfl)) rfl rfl rfl rfl ?_
  refine xVT (e_le (q1 rfl) (q0 rfl)) rfl rfl rfl rfl ?_
  refine xV (e_and (q0 rfl) rfl (fun h => by first | rfl | (rw [h]; rfl))) rfl rfl ?_
  refine xV (e_mv (v := .bool _) (q0 rfl)) rfl rfl ?_
  refine xVT (e_fld Tryz.underlying42 rfl Tryz.sizeOf24 rfl (q0 rfl)) rfl rfl rfl rfl ?_
  refine xVT (e_fld Tryz.underlying24 rfl Tryz.sizeOf22 rfl (q1 rfl)) rfl rfl rfl rfl ?_
  refine xVT (eL Tryz.isAgg22 (q1 rfl)) rfl rfl rfl rfl ?_
  refine xVT (e_len Tryz.underlying22 (q1 rfl)) rfl rfl rfl rfl ?_
  refine xVT (e_le (q1 rfl) (q0 rfl)) rfl rfl rfl rfl ?_
  refine xV (e_and (q0 rfl) rfl (fun h => by first | rfl | (rw [h]; rfl))) rfl rfl ?_
  refine xV (e_mv (v := .bool _) (q0 rfl)) rfl rfl ?_
  refine xVT (e_fld Tryz.underlying28 rfl Tryz.sizeOf25 rfl (q0 rfl)) rfl rfl rfl rfl ?_
  refine xVT (eL Tryz.isAgg25 (q1 rfl)) rfl rfl rfl rfl ?_
  refine xVT (e_len Tryz.underlying25 (q1 rfl)) rfl rfl rfl rfl ?_
  refine xVT (e_le (q1 rfl) (q0 rfl)) rfl rfl rfl rfl ?_
  refine xV (e_and (q0 rfl) rfl (fun h => by first | rfl | (rw [h]; rfl))) rfl rfl ?_
  refine xV (e_mv (v := .bool _) (q0 rfl)) rfl rfl ?_
  refine xVT (e_fld Tryz.underlying28 rfl Tryz.sizeOf26 rfl (q0 rfl)) rfl rfl rfl rfl ?_
  refine xVT (eL Tryz.isAgg26 (q1 rfl)) rfl rfl rfl rfl ?_
  refine xVT (e_len Tryz.underlying26 (q1 rfl)) rfl rfl rfl rfl ?_
  refine xVT (e_le (q1 rfl) (q0 rfl)) rfl rfl rfl rfl ?_
  refine xV (e_and (q0 rfl) rfl (fun h => by first | rfl | (rw [h]; rfl))) rfl rfl ?_
  refine xV (e_mv (v := .bool _) (q0 rfl)) rfl rfl ?_
  refine xVT (e_fld Tryz.underlying28 rfl Tryz.sizeOf22 rfl (q0 rfl)) rfl rfl rfl rfl ?_
  refine xVT (eL Tryz.isAgg22 (q1 rfl)) rfl rfl rfl rfl ?_
  refine xVT (e_len Tryz.underlying22 (q1 rfl)) rfl rfl rfl rfl ?_
  refine xVT (e_le (q1 rfl) (q0 rfl)) rfl rfl rfl rfl ?_
  refine xV (e_and (q0 rfl) rfl (fun h => by first | rfl | (rw [h]; rfl))) rfl rfl ?_
  refine xV (e_mv (v := .bool _) (q0 rfl)) rfl rfl ?_
  refine xVT (e_fld Tryz.underlying28 rfl Tryz.sizeOf22 rfl (q0 rfl)) rfl rfl rfl rfl ?_
  refine xVT (eL Tryz.isAgg22 (q1 rfl)) rfl rfl rfl rfl ?_
  refine xVT (e_len Tryz.underlying22 (q1 rfl)) rfl rfl rfl rfl ?_
  refine xVT (e_le (q1 rfl) (q0 rfl)) rfl rfl rfl rfl ?_
  refine xV (e_and (q0 rfl) rfl (fun h => by first | rfl | (rw [h]; rfl))) rfl rfl ?_
  refine xV (e_mv (v := .bool _) (q0 rfl)) rfl rfl ?_
  refine xVT (e_fld Tryz.underlying28 rfl Tryz.sizeOf22 rfl (q0 rfl)) rfl rfl rfl rfl ?_
  refine xVT (eL Tryz.isAgg22 (q1 rfl)) rfl rfl rfl rfl ?_
  refine xVT (e_len Tryz.underlying22 (q1 rfl)) rfl rfl rfl rfl ?_
  refine xVT (e_le (q1 rfl) (q0 rfl)) rfl rfl rfl rfl ?_
  refine xV (e_and (q0 rfl) rfl (fun h => by first | rfl | (rw [h]; rfl))) rfl rfl ?_
  refine xV (e_mv (v := .bool _) (q0 rfl)) rfl rfl ?_
  refine xVT (e_fld Tryz.underlying42 rfl Tryz.sizeOf22 rfl (q0 rfl)) rfl rfl rfl rfl ?_
  refine xVT (eL Tryz.isAgg22 (q1 rfl)) rfl rfl rfl rfl ?_
  refine xVT (e_len Tryz.underlying22 (q1 rfl)) rfl rfl rfl rfl ?_
  refine xVT (e_le (q1 rfl) (q0 rfl)) rfl rfl rfl rfl ?_
  refine xV (e_and (q0 rfl) rfl (fun h => by first | rfl | (rw [h]; rfl))) rfl rfl ?_
  refine xV (e_mv (v := .bool _) (q0 rfl)) rfl rfl ?_
  refine xVT (e_fld Tryz.underlying42 rfl Tryz.sizeOf37 rfl (q0 rfl)) rfl rfl rfl rfl ?_
  refine xVT (e_fld Tryz.underlying37 rfl Tryz.sizeOf22 rfl (q1 rfl)) rfl rfl rfl rfl ?_
  refine xVT (eL Tryz.isAgg22 (q1 rfl)) rfl rfl rfl rfl ?_
  refine xVT (e_len Tryz.underlying22 (q1 rfl)) rfl rfl rfl rfl ?_
  refine xVT (e_le (q1 rfl) (q0 rfl)) rfl rfl rfl rfl ?_
  refine xV (e_and (q0 rfl) rfl (fun h => by first | rfl | (rw [h]; rfl))) rfl rfl ?_
  refine xV (e_mv (v := .bool _) (q0 rfl)) rfl rfl ?_
  refine xVT (e_fld Tryz.underlying42 rfl Tryz.sizeOf35 rfl (q0 rfl)) rfl rfl rfl rfl ?_
  refine xVT (e_fld Tryz.underlying35 rfl Tryz.sizeOf33 rfl (q1 rfl)) rfl rfl rfl rfl ?_
  refine xVT (eL Tryz.isAgg33 (q1 rfl)) rfl rfl rfl rfl ?_
  refine xVT (e_len Tryz.underlying33 (q1 rfl)) rfl rfl rfl rfl ?_
  refine xVT (e_le (q1 rfl) (q0 rfl)) rfl rfl rfl rfl ?_
  refine xV (e_and (q0 rfl) rfl (fun h => by first | rfl | (rw [h]; rfl))) rfl rfl ?_
  refine xV (e_mv (v := .bool _) (q0 rfl)) rfl rfl ?_
  refine xVT (e_fld Tryz.underlying42 rfl Tryz.sizeOf35 rfl (q0 rfl)) rfl rfl rfl rfl ?_
  refine xVT (e_fld Tryz.underlying35 rfl Tryz.sizeOf32 rfl (q1 rfl)) rfl rfl rfl rfl ?_
  refine xVT (eL Tryz.isAgg32 (q1 rfl)) rfl rfl rfl rfl ?_
  refine xVT (e_len Tryz.underlying32 (q1 rfl)) rfl rfl rfl rfl ?_
  refine xVT (e_le (q1 rfl) (q0 rfl)) rfl rfl rfl rfl ?_
  refine xV (e_and (q0 rfl) rfl (fun h => by first | rfl | (rw [h]; rfl))) rfl rfl ?_
  refine xV (e_mv (v := .bool _) (q0 rfl)) rfl rfl ?_
  refine xVT (e_fld Tryz.underlying42 rfl Tryz.sizeOf35 rfl (q0 rfl)) rfl rfl rfl rfl ?_
  refine xVT (e_fld Tryz.underlying35 rfl Tryz.sizeOf31 rfl (q1 rfl)) rfl rfl rfl rfl ?_
  refine xVT (e_fld Tryz.underlying31 rfl Tryz.sizeOf29 rfl (q1 rfl)) rfl rfl rfl rfl ?_
  refine xVT (eL Tryz.isAgg29 (q1 rfl)) rfl rfl rfl rfl ?_
  refine xVT (e_len Tryz.underlying29 (q1 rfl)) rfl rfl rfl rfl ?_
  refine xVT (e_le (q1 rfl) (q0 rfl)) rfl rfl rfl rfl ?_
  refine xV (e_and (q0 rfl) rfl (fun h => by first | rfl | (rw [h]; rfl))) rfl rfl ?_
  refine xV (e_mv (v := .bool _) (q0 rfl)) rfl rfl ?_
  refine xVT (e_fld Tryz.underlying42 rfl Tryz.sizeOf3 rfl (q0 rfl)) rfl rfl rfl rfl ?_
  refine xVT (eL Tryz.isAgg3 (q1 rfl)) rfl rfl rfl rfl ?_
  refine xVT (e_le (q1 rfl) (q0 rfl)) rfl rfl rfl rfl ?_
  refine xV (e_and (q0 rfl) rfl (fun h => by first | rfl | (rw [h]; rfl))) rfl rfl ?_
  refine xV (e_as (v := .bool _) (q0 rfl)) rfl rfl ?_
  refine XN ?_
  refine thenJ_normal ?_
  refine H_ret ?_
  exact ret1 (v := .bool _) rfl rfl rfl fun w' hw => ⟨rfl, hw.1⟩
theorem lightB_ok {u : Su} {fa : FA} {a : PrA} {v1 v2 v3 v4 v5 : Sl} (h : lightB u fa a v1 v2 v3 v4 v5 = true) : SuN fa a v1 v2 v3 v4 v5 := by
  simp only [lightB, Bool.and_eq_true, decide_eq_true_eq] at h
  exact ⟨by omega, by omega, by omega, by omega, by omega, by omega, by omega, by omega, by omega, by omega, by omega, by omega⟩
set_option maxRecDepth 20000 in
set_option maxHeartbeats 4000000 in
theorem checksLaw_w (u : Su) (fa : FA) (a : PrA) (v1 v2 v3 v4 v5 : Sl) (w : World) (hu : SuAt w u fa a v1 v2 v3 v4 v5) : Calls Tryz.prog 3 #[.agg (suC u fa a v1 v2 v3 v4 v5).toArray] w fun r w' => r = .returned (.bool true) ∧ Bel w w' := by
  refine H_enter Tryz.func3 rfl Tryz.ntmps3 rfl ?_
  refine H_seq ?_
  refine R0 ?_
  refine X_box (v := .agg _) rfl rfl fun b1 => ?_
  refine xV (e_as (v := .bool _) (q0 rfl)) rfl rfl ?_
  refine XN ?_
  refine thenJ_normal ?_
  refine H_seq ?_
  refine R0 ?_
  refine xV (eS Tryz.isAgg42 Tryz.sizeOf42 (q0 rfl)) rfl rfl ?_
  refine X_alloc Tryz.zeroValue42 rfl fun b3 => ?_
  refine X_st (v := .agg _) rfl rfl Tryz.sizeOf42 ?_
  refine XN ?_
  refine thenJ_normal ?_
  refine H_seq ?_
  refine H_mem (L' := [box b3 42 (suC u fa a v1 v2 v3 v4 v5), box b1 42 (suC u fa a v1 v2 v3 v4 v5)]) (fun w hw => by
      have hw : Mem _ [box b3 42 (setAt zSu 0 (suC u fa a v1 v2 v3 v4 v5)), box b1 42 (suC u fa a v1 v2 v3 v4 v5)] w := hw
      rwa [setAt_all (cs := zSu) (vs := suC u fa a v1 v2 v3 v4 v5) rfl] at hw) (show ([] : List Deferred) = [] from rfl) ?_
  refine R0 ?_
  refine xV (e_fld Tryz.underlying42 rfl Tryz.sizeOf3 rfl (q0 rfl)) rfl rfl ?_
  refine X_st (v := .int _ _) rfl rfl Tryz.sizeOf3 ?_
  refine XN ?_
  refine thenJ_normal ?_
  refine H_seq ?_
  refine H_seq ?_
  refine H_mem (L' := [box b3 42 (suC { u with size := 1 } fa a v1 v2 v3 v4 v5), box b1 42 (suC u fa a v1 v2 v3 v4 v5)]) (fun w hw => hw) (show ([] : List Deferred) = [] from rfl) ?_
  refine R0 ?_
  refine xV (eS Tryz.isAgg42 Tryz.sizeOf42 (q0 rfl)) rfl rfl ?_
  refine xC (en Tryz.call5 (ha1 (q0 rfl))) (fun _ w _ => light_w { u with size := 1 } fa a v1 v2 v3 v4 v5 w) rfl rfl ?_
  refine xV (e_not (q0 rfl)) rfl rfl ?_
  refine XN ?_
  refine thenJ_normal ?_
  refine H_cond rfl (fun hq => ?_) (fun hq => ?_)
  · refine H_seq ?_
    refine R0 ?_
    refine xC (en Tryz.call6 (ha0)) (fun _ w _ => Go.Proofs.O.awake_w w) rfl rfl ?_
    refine xV (e_as (v := .bool _) (q0 rfl)) rfl rfl ?_
    refine XN ?_
    refine thenJ_normal ?_
    refine H_ret ?_
    refine thenJ_ret ?_
    exact ret1 (v := .bool _) rfl rfl rfl fun w' hw => ⟨rfl, hw.1⟩
  · have hq' : lightB { u with size := 1 } fa a v1 v2 v3 v4 v5 = true := by simpa using hq
    have hn := lightB_ok hq'
    clear hq hq'
    refine H_skip ?_
    refine thenJ_normal ?_
    refine H_seq ?_
    refine R0 ?_
    refine xV (eS Tryz.isAgg42 Tryz.sizeOf42 (q0 rfl)) rfl rfl ?_
    refine xC (en Tryz.call7 (ha1 (q0 rfl))) (fun _ w hw => rscheck_w u fa a v1 v2 v3 v4 v5 w (hu.mem hw)) rfl rfl ?_
    refine xV (e_as (v := .int _ _) (q0 rfl)) rfl rfl ?_
    refine XN ?_
    refine thenJ_normal ?_
    refine H_seq ?_
    by_cases hz : suErr u = 0
    · have _ht : True := trivial
      refine R0 ?_
      refine xV (eS Tryz.isAgg42 Tryz.sizeOf42 (q0 rfl)) rfl rfl ?_
      refine xCX (en Tryz.call8 (ha1 (q0 rfl))) (fun w hw => snewOk_w u fa a v1 v2 v3 v4 v5 w (hu.mem hw) hn hz) rfl (fun _ => rfl) fun x => ?_
      refine xV (e_mv (q0 rfl)) rfl rfl ?_
      refine xV (e_ext (q0 rfl) rfl) rfl rfl ?_
      refine xV (e_ext (q0 rfl) rfl) rfl rfl ?_
      refine xV (e_as (v := .pointer _) (q0 rfl)) rfl rfl ?_
      refine xV (e_as (v := .int _ _) (q0 rfl)) rfl rfl ?_
      refine XN ?_
      refine thenJ_normal ?_
      refine H_seq ?_
      refine R0 ?_
      refine xV (eS Tryz.isAgg42 Tryz.sizeOf42 (q0 rfl)) rfl rfl ?_
      refine xC (en Tryz.call9 (ha1 (q0 rfl))) (fun _ w hw => scheck_w u fa a v1 v2 v3 v4 v5 w (hu.mem hw)) rfl rfl ?_
      refine xV (e_mv (v := .int _ _) (q0 rfl)) rfl rfl ?_
      refine xV (e_eq (q0 rfl) (q0 rfl)) rfl rfl ?_
      refine xV (e_mv (v := .bool _) (q0 rfl)) rfl rfl ?_
      refine xVT (e_mv (v := .int _ _) (q0 rfl)) rfl rfl rfl rfl ?_
      refine xVT (e_mv (v := .int _ _) (q0 rfl)) rfl rfl rfl rfl ?_
      refine xVT (e_eq (q1 rfl) (q1 rfl)) rfl rfl rfl rfl ?_
      refine xV (e_and (q0 rfl) rfl (fun h => by first | rfl | (rw [h]; rfl))) rfl rfl ?_
      refine xV (e_mv (v := .bool _) (q0 rfl)) rfl rfl ?_
      refine xVT (e_mv (v := .pointer _) (q0 rfl)) rfl rfl rfl rfl ?_
      refine xVT (e_neNilP Tryz.underlying47 (q1 rfl)) rfl rfl rfl rfl ?_
      refine xVT (e_mv (v := .int _ _) (q0 rfl)) rfl rfl rfl rfl ?_
      refine xVT (e_eq (q1 rfl) (q0 rfl)) rfl rfl rfl rfl ?_
      refine xVT (e_eqb Tryz.underlying4 (q1 rfl) (q1 rfl)) rfl rfl rfl rfl ?_
      refine xV (e_and (q0 rfl) rfl (fun h => by first | rfl | (rw [h]; rfl))) rfl rfl ?_
      refine xV (e_mv (v := .bool _) (q0 rfl)) rfl rfl ?_
      refine xCT (en Tryz.call6 (ha0)) (fun _ w _ => Go.Proofs.O.awake_w w) rfl rfl rfl rfl ?_
      refine xV (e_and (q0 rfl) rfl (fun h => by first | rfl | (rw [h]; rfl))) rfl rfl ?_
      refine xV (e_as (v := .bool _) (q0 rfl)) rfl rfl ?_
      refine XN ?_
      refine thenJ_normal ?_
      refine H_ret ?_
      exact ret1 (v := .bool _) rfl rfl rfl fun w' hw => ⟨by simp [hz], hw.1⟩
    · have _ht : True := trivial
      refine R0 ?_
      refine xV (eS Tryz.isAgg42 Tryz.sizeOf42 (q0 rfl)) rfl rfl ?_
      refine xC (en Tryz.call8 (ha1 (q0 rfl))) (fun _ w hw => snewBad_w u fa a v1 v2 v3 v4 v5 w (hu.mem hw) hz) rfl rfl ?_
      refine xV (e_mv (q0 rfl)) rfl rfl ?_
      refine xV (e_ext (q0 rfl) rfl) rfl rfl ?_
      refine xV (e_ext (q0 rfl) rfl) rfl rfl ?_
      refine xV (e_as (v := .pointer _) (q0 rfl)) rfl rfl ?_
      refine xV (e_as (v := .int _ _) (q0 rfl)) rfl rfl ?_
      refine XN ?_
      refine thenJ_normal ?_
      refine H_seq ?_
      refine R0 ?_
      refine xV (eS Tryz.isAgg42 Tryz.sizeOf42 (q0 rfl)) rfl rfl ?_
      refine xC (en Tryz.call9 (ha1 (q0 rfl))) (fun _ w hw => scheck_w u fa a v1 v2 v3 v4 v5 w (hu.mem hw)) rfl rfl ?_
      refine xV (e_mv (v := .int _ _) (q0 rfl)) rfl rfl ?_
      refine xV (e_eq (q0 rfl) (q0 rfl)) rfl rfl ?_
      refine xV (e_mv (v := .bool _) (q0 rfl)) rfl rfl ?_
      refine xVT (e_mv (v := .int _ _) (q0 rfl)) rfl rfl rfl rfl ?_
      refine xVT (e_mv (v := .int _ _) (q0 rfl)) rfl rfl rfl rfl ?_
      refine xVT (e_eq (q1 rfl) (q1 rfl)) rfl rfl rfl rfl ?_
      refine xV (e_and (q0 rfl) rfl (fun h => by first | rfl | (rw [h]; rfl))) rfl rfl ?_
      refine xV (e_mv (v := .bool _) (q0 rfl)) rfl rfl ?_
      refine xVT (e_mv (v := .pointer _) (q0 rfl)) rfl rfl rfl rfl ?_
      refine xVT (e_neNilP Tryz.underlying47 (q1 rfl)) rfl rfl rfl rfl ?_
      refine xVT (e_mv (v := .int _ _) (q0 rfl)) rfl rfl rfl rfl ?_
      refine xVT (e_eq (q1 rfl) (q0 rfl)) rfl rfl rfl rfl ?_
      refine xVT (e_eqb Tryz.underlying4 (q1 rfl) (q1 rfl)) rfl rfl rfl rfl ?_
      refine xV (e_and (q0 rfl) rfl (fun h => by first | rfl | (rw [h]; rfl))) rfl rfl ?_
      refine xV (e_mv (v := .bool _) (q0 rfl)) rfl rfl ?_
      refine xCT (en Tryz.call6 (ha0)) (fun _ w _ => Go.Proofs.O.awake_w w) rfl rfl rfl rfl ?_
      refine xV (e_and (q0 rfl) rfl (fun h => by first | rfl | (rw [h]; rfl))) rfl rfl ?_
      refine xV (e_as (v := .bool _) (q0 rfl)) rfl rfl ?_
      refine XN ?_
      refine thenJ_normal ?_
      refine H_ret ?_
      exact ret1 (v := .bool _) rfl rfl rfl fun w' hw => ⟨by simp [hz], hw.1⟩
end Go.Proofs.Sys

/-
  The readings of a setup among the arguments.
-/
namespace Go.Proofs.Sys
open Go Go.RowKit Go.Proofs.E Go.Proofs.Cus Go.Proofs.Far Go.ChangeShapes Go.WideShapes Go.ChangeAt

theorem cellsInt : Tryz.prog.cellsOf 3 = 1 := by kernel_rfl
theorem cellsInts : Tryz.prog.cellsOf 22 = 1 := by kernel_rfl
structure Wn where
  lo : Int
  hi : Int
def Wn.cells (x : Wn) : List Value := [.int .i64 x.lo, .int .i64 x.hi]
theorem cellsSu : Tryz.prog.cellsOf 42 = 26 := by kernel_rfl
theorem cellsNg : Tryz.prog.cellsOf 35 = 5 := by kernel_rfl
theorem cellsRo : Tryz.prog.cellsOf 31 = 2 := by kernel_rfl
theorem cellsNz : Tryz.prog.cellsOf 37 = 1 := by kernel_rfl
theorem cellsKy : Tryz.prog.cellsOf 40 = 2 := by kernel_rfl
theorem cellsEd : Tryz.prog.cellsOf 165 = 3 := by kernel_rfl
theorem cellsTr : Tryz.prog.cellsOf 150 = 4 := by kernel_rfl
theorem cellsNe : Tryz.prog.cellsOf 153 = 2 := by kernel_rfl
theorem cellsEds : Tryz.prog.cellsOf 29 = 1 := by kernel_rfl
theorem cellsTrs : Tryz.prog.cellsOf 32 = 1 := by kernel_rfl
theorem cellsNes : Tryz.prog.cellsOf 33 = 1 := by kernel_rfl
theorem cellsU : Tryz.prog.cellsOf 38 = 1 := by kernel_rfl
section
variable {H : Type} {enc : TypeId × Value → H} {W : World} {sp : Nat → Bool} {held : Bool} {base : Nat} {v : Value} {d : DataW H} {ps : List MemPlace}
theorem rd_ints {fuel : Nat} {cs : List Value} {x : DataW H × List MemPlace} (h : DataW.trod enc Tryz.prog W 0 sp held fuel 22 cs = some x) : ∃ A n c xs, cs = [.slice A n c] ∧ IntsAt W A n xs := by
  obtain ⟨A, n, c, xs, rfl, hs, _, _, hx⟩ := rd_rows Tryz.underlying22 cellsInt (by decide) h
  obtain ⟨ys, hy, _⟩ := hs.recode (enc := encInt) (Q := fun _ => True) fun x hx' => by
    obtain ⟨_, f, y, ht⟩ := hx x hx'
    obtain ⟨m, rfl, _⟩ := rd_int Tryz.underlying3 ht
    exact ⟨m, rfl, trivial⟩
  exact ⟨A, n, c, ys, rfl, hy⟩
set_option maxRecDepth 100000 in
theorem rd_tf {fuel : Nat} {cs : List Value} {x : DataW H × List MemPlace} (hl : cs.length = 6) (h : DataW.trod enc Tryz.prog W 0 sp held fuel 140 cs = some x) : ∃ g : Tf, Tf.cells g = cs := by
  match cs, hl with
  | [c0, c1, c2, c3, c4, c5], _ =>
    obtain ⟨_, _, h0⟩ := rd_field Tryz.underlying140 h 0 rfl cellsInt
    obtain ⟨_, _, h1⟩ := rd_field Tryz.underlying140 h 1 rfl cellsInt
    obtain ⟨_, _, h2⟩ := rd_field Tryz.underlying140 h 2 rfl cellsInt
    obtain ⟨_, _, h3⟩ := rd_field Tryz.underlying140 h 3 rfl cellsInt
    obtain ⟨_, _, h4⟩ := rd_field Tryz.underlying140 h 4 rfl cellsInt
    obtain ⟨_, _, h5⟩ := rd_field Tryz.underlying140 h 5 rfl cellsInt
    obtain ⟨m0, e0, _⟩ := rd_int Tryz.underlying3 h0
    obtain ⟨m1, e1, _⟩ := rd_int Tryz.underlying3 h1
    obtain ⟨m2, e2, _⟩ := rd_int Tryz.underlying3 h2
    obtain ⟨m3, e3, _⟩ := rd_int Tryz.underlying3 h3
    obtain ⟨m4, e4, _⟩ := rd_int Tryz.underlying3 h4
    obtain ⟨m5, e5, _⟩ := rd_int Tryz.underlying3 h5
    simp at e0 e1 e2 e3 e4 e5
    subst e0 e1 e2 e3 e4 e5
    exact ⟨⟨m0, m1, m2, m3, m4, m5⟩, rfl⟩
theorem cells_tf : Tryz.prog.cellsOf 140 = 6 := by kernel_rfl
set_option maxRecDepth 100000 in
theorem rd_tfs {fuel : Nat} {cs : List Value} {x : DataW H × List MemPlace} (h : DataW.trod enc Tryz.prog W 0 sp held fuel 25 cs = some x) : ∃ A n c xs, cs = [.slice A n c] ∧ SlAt W 6 Tf.cells A n xs := by
  obtain ⟨A, n, c, xs, rfl, hs, _, _, hx⟩ := rd_rows Tryz.underlying25 cells_tf (by decide) h
  obtain ⟨ys, hy, _⟩ := hs.recode (enc := Tf.cells) (Q := fun _ => True) fun x hx' => by
    obtain ⟨hl, f, y, ht⟩ := hx x hx'
    obtain ⟨g, hg⟩ := rd_tf hl ht
    exact ⟨g, hg, trivial⟩
  exact ⟨A, n, c, ys, rfl, hy⟩
set_option maxRecDepth 100000 in
theorem rd_wn {fuel : Nat} {cs : List Value} {x : DataW H × List MemPlace} (hl : cs.length = 2) (h : DataW.trod enc Tryz.prog W 0 sp held fuel 111 cs = some x) : ∃ g : Wn, Wn.cells g = cs := by
  match cs, hl with
  | [c0, c1], _ =>
    obtain ⟨_, _, h0⟩ := rd_field Tryz.underlying111 h 0 rfl cellsInt
    obtain ⟨_, _, h1⟩ := rd_field Tryz.underlying111 h 1 rfl cellsInt
    obtain ⟨m0, e0, _⟩ := rd_int Tryz.underlying3 h0
    obtain ⟨m1, e1, _⟩ := rd_int Tryz.underlying3 h1
    simp at e0 e1
    subst e0 e1
    exact ⟨⟨m0, m1⟩, rfl⟩
theorem cellsWn : Tryz.prog.cellsOf 111 = 2 := by kernel_rfl
set_option maxRecDepth 100000 in
theorem rd_pas {fuel : Nat} {cs : List Value} {x : DataW H × List MemPlace} (hl : cs.length = 6) (h : DataW.trod enc Tryz.prog W 0 sp held fuel 162 cs = some x) : ∃ g : Pas, Pas.cells g = cs := by
  match cs, hl with
  | [c0, c1, c2, c3, c4, c5], _ =>
    obtain ⟨_, _, h0⟩ := rd_field Tryz.underlying162 h 0 rfl cellsInt
    obtain ⟨_, _, h1⟩ := rd_field Tryz.underlying162 h 1 rfl cellsInt
    obtain ⟨_, _, h2⟩ := rd_field Tryz.underlying162 h 2 rfl cellsWn
    obtain ⟨_, _, h3⟩ := rd_field Tryz.underlying162 h 3 rfl cellsInt
    obtain ⟨_, _, h4⟩ := rd_field Tryz.underlying162 h 4 rfl cellsInt
    obtain ⟨m0, e0, _⟩ := rd_int Tryz.underlying3 h0
    obtain ⟨m1, e1, _⟩ := rd_int Tryz.underlying3 h1
    obtain ⟨m3, e3, _⟩ := rd_int Tryz.underlying3 h3
    obtain ⟨m4, e4, _⟩ := rd_int Tryz.underlying3 h4
    obtain ⟨s2, e2⟩ := rd_wn (cs := [c2, c3]) rfl h2
    simp at e0 e1 e3 e4
    simp [Wn.cells] at e2
    obtain ⟨e2, e2'⟩ := e2
    subst e0 e1 e2 e2' e3 e4
    exact ⟨⟨m0, m1, s2.lo, s2.hi, m3, m4⟩, rfl⟩
theorem cells_pas : Tryz.prog.cellsOf 162 = 6 := by kernel_rfl
set_option maxRecDepth 100000 in
theorem rd_pass {fuel : Nat} {cs : List Value} {x : DataW H × List MemPlace} (h : DataW.trod enc Tryz.prog W 0 sp held fuel 26 cs = some x) : ∃ A n c xs, cs = [.slice A n c] ∧ SlAt W 6 Pas.cells A n xs := by
  obtain ⟨A, n, c, xs, rfl, hs, _, _, hx⟩ := rd_rows Tryz.underlying26 cells_pas (by decide) h
  obtain ⟨ys, hy, _⟩ := hs.recode (enc := Pas.cells) (Q := fun _ => True) fun x hx' => by
    obtain ⟨hl, f, y, ht⟩ := hx x hx'
    obtain ⟨g, hg⟩ := rd_pas hl ht
    exact ⟨g, hg, trivial⟩
  exact ⟨A, n, c, ys, rfl, hy⟩
theorem cellsTfs : Tryz.prog.cellsOf 25 = 1 := by kernel_rfl
theorem cellsPas : Tryz.prog.cellsOf 26 = 1 := by kernel_rfl
theorem cellsFl : Tryz.prog.cellsOf 24 = 5 := by kernel_rfl
theorem cellsPr : Tryz.prog.cellsOf 28 = 7 := by kernel_rfl
set_option maxRecDepth 100000 in
theorem rd_fl {fuel : Nat} {cs : List Value} {x : DataW H × List MemPlace} (hl : cs.length = 5) (h : DataW.trod enc Tryz.prog W 0 sp held fuel 24 cs = some x) : ∃ (f : Fl) (a : FA), f.cells a = cs ∧ FlAt W f a := by
  match cs, hl with
  | [c0, c1, c2, c3, c4], _ =>
    obtain ⟨_, _, h0⟩ := rd_field Tryz.underlying24 h 0 rfl cellsInt
    obtain ⟨_, _, h1⟩ := rd_field Tryz.underlying24 h 1 rfl cellsInt
    obtain ⟨_, _, h2⟩ := rd_field Tryz.underlying24 h 2 rfl cellsInt
    obtain ⟨_, _, h3⟩ := rd_field Tryz.underlying24 h 3 rfl cellsInts
    obtain ⟨_, _, h4⟩ := rd_field Tryz.underlying24 h 4 rfl cellsInts
    obtain ⟨m0, e0, _⟩ := rd_int Tryz.underlying3 h0
    obtain ⟨m1, e1, _⟩ := rd_int Tryz.underlying3 h1
    obtain ⟨m2, e2, _⟩ := rd_int Tryz.underlying3 h2
    obtain ⟨A3, n3, k3, x3, e3, hx3⟩ := rd_ints h3
    obtain ⟨A4, n4, k4, x4, e4, hx4⟩ := rd_ints h4
    simp at e0 e1 e2 e3 e4
    subst e0 e1 e2 e3 e4
    exact ⟨⟨m0, m1, m2, x3, x4⟩, ⟨A3, n3, k3, A4, n4, k4⟩, rfl, hx3, hx4⟩
set_option maxRecDepth 100000 in
theorem rd_pr {fuel : Nat} {cs : List Value} {x : DataW H × List MemPlace} (hl : cs.length = 7) (h : DataW.trod enc Tryz.prog W 0 sp held fuel 28 cs = some x) : ∃ (p : Pr) (a : PrA), p.cells a = cs ∧ PrAt W p a := by
  match cs, hl with
  | [c0, c1, c2, c3, c4, c5, c6], _ =>
    obtain ⟨_, _, h0⟩ := rd_field Tryz.underlying28 h 0 rfl cellsTfs
    obtain ⟨_, _, h1⟩ := rd_field Tryz.underlying28 h 1 rfl cellsPas
    obtain ⟨_, _, h2⟩ := rd_field Tryz.underlying28 h 2 rfl cellsInts
    obtain ⟨_, _, h3⟩ := rd_field Tryz.underlying28 h 3 rfl cellsInts
    obtain ⟨_, _, h4⟩ := rd_field Tryz.underlying28 h 4 rfl cellsInt
    obtain ⟨_, _, h5⟩ := rd_field Tryz.underlying28 h 5 rfl cellsInts
    obtain ⟨_, _, h6⟩ := rd_field Tryz.underlying28 h 6 rfl cellsInt
    obtain ⟨A0, n0, k0, x0, e0, hx0⟩ := rd_tfs h0
    obtain ⟨A1, n1, k1, x1, e1, hx1⟩ := rd_pass h1
    obtain ⟨A2, n2, k2, x2, e2, hx2⟩ := rd_ints h2
    obtain ⟨A3, n3, k3, x3, e3, hx3⟩ := rd_ints h3
    obtain ⟨A5, n5, k5, x5, e5, hx5⟩ := rd_ints h5
    obtain ⟨m4, e4, _⟩ := rd_int Tryz.underlying3 h4
    obtain ⟨m6, e6, _⟩ := rd_int Tryz.underlying3 h6
    simp at e0 e1 e2 e3 e4 e5 e6
    subst e0 e1 e2 e3 e4 e5 e6
    exact ⟨⟨x0, x1, x2, x3, m4, x5, m6⟩, ⟨⟨A0, n0, k0⟩, ⟨A1, n1, k1⟩, ⟨A2, n2, k2⟩, ⟨A3, n3, k3⟩, ⟨A5, n5, k5⟩⟩, rfl, hx0, hx1, hx2, hx3, hx5⟩
set_option maxRecDepth 100000 in
theorem rd_ed {fuel : Nat} {cs : List Value} {x : DataW H × List MemPlace} (hl : cs.length = 3) (h : DataW.trod enc Tryz.prog W 0 sp held fuel 165 cs = some x) : ∃ g : Eg, Eg.cells g = cs := by
  match cs, hl with
  | [c0, c1, c2], _ =>
    obtain ⟨_, _, h0⟩ := rd_field Tryz.underlying165 h 0 rfl cellsInt
    obtain ⟨_, _, h1⟩ := rd_field Tryz.underlying165 h 1 rfl cellsInt
    obtain ⟨_, _, h2⟩ := rd_field Tryz.underlying165 h 2 rfl cellsInt
    obtain ⟨m0, e0, _⟩ := rd_int Tryz.underlying3 h0
    obtain ⟨m1, e1, _⟩ := rd_int Tryz.underlying3 h1
    obtain ⟨m2, e2, _⟩ := rd_int Tryz.underlying3 h2
    simp at e0 e1 e2
    subst e0 e1 e2
    exact ⟨⟨m0, m1, m2⟩, rfl⟩
set_option maxRecDepth 100000 in
theorem rd_ne {fuel : Nat} {cs : List Value} {x : DataW H × List MemPlace} (hl : cs.length = 2) (h : DataW.trod enc Tryz.prog W 0 sp held fuel 153 cs = some x) : ∃ g : Nd, Nd.cells g = cs := by
  match cs, hl with
  | [c0, c1], _ =>
    obtain ⟨_, _, h0⟩ := rd_field Tryz.underlying153 h 0 rfl cellsInt
    obtain ⟨_, _, h1⟩ := rd_field Tryz.underlying153 h 1 rfl cellsInt
    obtain ⟨m0, e0, _⟩ := rd_int Tryz.underlying3 h0
    obtain ⟨m1, e1, _⟩ := rd_int Tryz.underlying3 h1
    simp at e0 e1
    subst e0 e1
    exact ⟨⟨m0, m1⟩, rfl⟩
set_option maxRecDepth 100000 in
theorem rd_tr {fuel : Nat} {cs : List Value} {x : DataW H × List MemPlace} (hl : cs.length = 4) (h : DataW.trod enc Tryz.prog W 0 sp held fuel 150 cs = some x) : ∃ g : Tk, Tk.cells g = cs := by
  match cs, hl with
  | [c0, c1, c2, c3], _ =>
    obtain ⟨_, _, h0⟩ := rd_field Tryz.underlying150 h 0 rfl cellsInt
    obtain ⟨_, _, h1⟩ := rd_field Tryz.underlying150 h 1 rfl cellsInt
    obtain ⟨_, _, h2⟩ := rd_field Tryz.underlying150 h 2 rfl cellsWn
    obtain ⟨m0, e0, _⟩ := rd_int Tryz.underlying3 h0
    obtain ⟨m1, e1, _⟩ := rd_int Tryz.underlying3 h1
    obtain ⟨s2, e2⟩ := rd_wn (cs := [c2, c3]) rfl h2
    simp at e0 e1
    simp [Wn.cells] at e2
    obtain ⟨e2, e2'⟩ := e2
    subst e0 e1 e2 e2'
    exact ⟨⟨m0, m1, s2.lo, s2.hi⟩, rfl⟩
set_option maxRecDepth 100000 in
theorem rd_eds {fuel : Nat} {cs : List Value} {x : DataW H × List MemPlace} (h : DataW.trod enc Tryz.prog W 0 sp held fuel 29 cs = some x) : ∃ A n c xs, cs = [.slice A n c] ∧ SlAt W 3 Eg.cells A n xs := by
  obtain ⟨A, n, c, xs, rfl, hs, hc, _, hx⟩ := rd_rows Tryz.underlying29 cellsEd (by decide) h
  obtain ⟨ys, hy, _⟩ := hs.recode (enc := Eg.cells) (Q := fun _ => True) fun x hx' => by
    obtain ⟨hl, f, y, ht⟩ := hx x hx'
    obtain ⟨g, hg⟩ := rd_ed hl ht
    exact ⟨g, hg, trivial⟩
  exact ⟨A, n, c, ys, rfl, hy⟩
set_option maxRecDepth 100000 in
theorem rd_trs {fuel : Nat} {cs : List Value} {x : DataW H × List MemPlace} (h : DataW.trod enc Tryz.prog W 0 sp held fuel 32 cs = some x) : ∃ A n c xs, cs = [.slice A n c] ∧ SlAt W 4 Tk.cells A n xs := by
  obtain ⟨A, n, c, xs, rfl, hs, hc, _, hx⟩ := rd_rows Tryz.underlying32 cellsTr (by decide) h
  obtain ⟨ys, hy, _⟩ := hs.recode (enc := Tk.cells) (Q := fun _ => True) fun x hx' => by
    obtain ⟨hl, f, y, ht⟩ := hx x hx'
    obtain ⟨g, hg⟩ := rd_tr hl ht
    exact ⟨g, hg, trivial⟩
  exact ⟨A, n, c, ys, rfl, hy⟩
set_option maxRecDepth 100000 in
theorem rd_nes {fuel : Nat} {cs : List Value} {x : DataW H × List MemPlace} (h : DataW.trod enc Tryz.prog W 0 sp held fuel 33 cs = some x) : ∃ A n c xs, cs = [.slice A n c] ∧ SlAt W 2 Nd.cells A n xs ∧ n ≤ c := by
  obtain ⟨A, n, c, xs, rfl, hs, hc, _, hx⟩ := rd_rows Tryz.underlying33 cellsNe (by decide) h
  obtain ⟨ys, hy, _⟩ := hs.recode (enc := Nd.cells) (Q := fun _ => True) fun x hx' => by
    obtain ⟨hl, f, y, ht⟩ := hx x hx'
    obtain ⟨g, hg⟩ := rd_ne hl ht
    exact ⟨g, hg, trivial⟩
  exact ⟨A, n, c, ys, rfl, hy, hc⟩
set_option maxRecDepth 100000 in
theorem rd_ro {fuel : Nat} {cs : List Value} {x : DataW H × List MemPlace} (hl : cs.length = 2) (h : DataW.trod enc Tryz.prog W 0 sp held fuel 31 cs = some x) : ∃ (n : Int) (s : Sl) (es : List Eg), rdC n s = cs ∧ SlAt W 3 Eg.cells s.A s.n es := by
  match cs, hl with
  | [c0, c1], _ =>
    obtain ⟨_, _, h0⟩ := rd_field Tryz.underlying31 h 0 rfl cellsInt
    obtain ⟨_, _, h1⟩ := rd_field Tryz.underlying31 h 1 rfl cellsEds
    obtain ⟨m0, e0, _⟩ := rd_int Tryz.underlying3 h0
    obtain ⟨A, n, k, xs, e1, hx⟩ := rd_eds h1
    simp at e0 e1
    subst e0 e1
    exact ⟨m0, ⟨A, n, k⟩, xs, rfl, hx⟩
set_option maxRecDepth 100000 in
theorem rd_ng {fuel : Nat} {cs : List Value} {x : DataW H × List MemPlace} (hl : cs.length = 5) (h : DataW.trod enc Tryz.prog W 0 sp held fuel 35 cs = some x) : ∃ (n hh : Int) (e t d : Sl) (es : List Eg) (ts : List Tk) (ds : List Nd), ngC n hh e t d = cs ∧ SlAt W 3 Eg.cells e.A e.n es ∧ SlAt W 4 Tk.cells t.A t.n ts ∧ SlAt W 2 Nd.cells d.A d.n ds ∧ d.n ≤ d.c := by
  match cs, hl with
  | [c0, c1, c2, c3, c4], _ =>
    obtain ⟨_, _, h0⟩ := rd_field Tryz.underlying35 h 0 rfl cellsRo
    obtain ⟨_, _, h1⟩ := rd_field Tryz.underlying35 h 1 rfl cellsTrs
    obtain ⟨_, _, h2⟩ := rd_field Tryz.underlying35 h 2 rfl cellsNes
    obtain ⟨_, _, h3⟩ := rd_field Tryz.underlying35 h 3 rfl cellsInt
    obtain ⟨m0, s0, es, e0, hE⟩ := rd_ro (cs := [c0, c1]) rfl h0
    obtain ⟨A1, n1, k1, x1, e1, hx1⟩ := rd_trs h1
    obtain ⟨A2, n2, k2, x2, e2, hx2, hc2⟩ := rd_nes h2
    obtain ⟨m3, e3, _⟩ := rd_int Tryz.underlying3 h3
    simp at e1 e2 e3
    simp [rdC] at e0
    obtain ⟨e0, e0'⟩ := e0
    subst e0 e0' e1 e2 e3
    exact ⟨m0, m3, s0, ⟨A1, n1, k1⟩, ⟨A2, n2, k2⟩, es, x1, x2, rfl, hE, hx1, hx2, hc2⟩
set_option maxRecDepth 100000 in
theorem rd_nz {fuel : Nat} {cs : List Value} {x : DataW H × List MemPlace} (hl : cs.length = 1) (h : DataW.trod enc Tryz.prog W 0 sp held fuel 37 cs = some x) : ∃ (s : Sl) (ws : List Int), nzC s = cs ∧ IntsAt W s.A s.n ws := by
  match cs, hl with
  | [c0], _ =>
    obtain ⟨_, _, h0⟩ := rd_field Tryz.underlying37 h 0 rfl cellsInts
    obtain ⟨A, n, k, xs, e0, hx⟩ := rd_ints h0
    simp at e0
    subst e0
    exact ⟨⟨A, n, k⟩, xs, rfl, hx⟩
set_option maxRecDepth 100000 in
theorem rd_ky {fuel : Nat} {cs : List Value} {x : DataW H × List MemPlace} (hl : cs.length = 2) (h : DataW.trod enc Tryz.prog W 0 sp held fuel 40 cs = some x) : ∃ k1 k2 : Int, [Value.int .u64 k1, .int .u64 k2] = cs := by
  match cs, hl with
  | [c0, c1], _ =>
    obtain ⟨_, _, h0⟩ := rd_field Tryz.underlying40 h 0 rfl cellsU
    obtain ⟨_, _, h1⟩ := rd_field Tryz.underlying40 h 1 rfl cellsU
    obtain ⟨m0, e0, _⟩ := rd_int Tryz.underlying38 h0
    obtain ⟨m1, e1, _⟩ := rd_int Tryz.underlying38 h1
    simp at e0 e1
    subst e0 e1
    exact ⟨m0, m1, rfl⟩
set_option maxRecDepth 100000 in
theorem open_setup (hv : Value.okWide Tryz.prog W .any base 42 v) (h : DataW.Trod enc Tryz.prog W 0 sp held 42 v d ps) : ∃ (u : Su) (fa : FA) (a : PrA) (v1 v2 v3 v4 v5 : Sl), v = .agg (suC u fa a v1 v2 v3 v4 v5).toArray ∧ SuAt W u fa a v1 v2 v3 v4 v5 := by
  obtain ⟨cs, rfl, hsz⟩ := okWide_struct Tryz.underlying42 hv
  rw [cellsSu] at hsz
  obtain ⟨l⟩ := cs
  match l, hsz with
  | [c0, c1, c2, c3, c4, c5, c6, c7, c8, c9, c10, c11, c12, c13, c14, c15, c16, c17, c18, c19, c20, c21, c22, c23, c24, c25], _ =>
    obtain ⟨_, hf⟩ := h
    obtain ⟨_, _, h0⟩ := rd_field Tryz.underlying42 hf 0 rfl cellsFl
    obtain ⟨_, _, h1⟩ := rd_field Tryz.underlying42 hf 1 rfl cellsPr
    obtain ⟨_, _, h2⟩ := rd_field Tryz.underlying42 hf 2 rfl cellsNg
    obtain ⟨_, _, h3⟩ := rd_field Tryz.underlying42 hf 3 rfl cellsInts
    obtain ⟨_, _, h4⟩ := rd_field Tryz.underlying42 hf 4 rfl cellsInt
    obtain ⟨_, _, h5⟩ := rd_field Tryz.underlying42 hf 5 rfl cellsNz
    obtain ⟨_, _, h6⟩ := rd_field Tryz.underlying42 hf 6 rfl cellsInt
    obtain ⟨_, _, h7⟩ := rd_field Tryz.underlying42 hf 7 rfl cellsInt
    obtain ⟨_, _, h8⟩ := rd_field Tryz.underlying42 hf 8 rfl cellsInt
    obtain ⟨_, _, h9⟩ := rd_field Tryz.underlying42 hf 9 rfl cellsInt
    obtain ⟨_, _, h10⟩ := rd_field Tryz.underlying42 hf 10 rfl cellsKy
    obtain ⟨f, fa, e0, hf0⟩ := rd_fl (cs := [c0, c1, c2, c3, c4]) rfl h0
    obtain ⟨p, a, e1, hp0⟩ := rd_pr (cs := [c5, c6, c7, c8, c9, c10, c11]) rfl h1
    obtain ⟨n, hh, v1, v2, v3, es, ts, ds, e2, hE, hT, hD, hc⟩ := rd_ng (cs := [c12, c13, c14, c15, c16]) rfl h2
    obtain ⟨A, m, k, xs, e3, hx⟩ := rd_ints h3
    obtain ⟨m4, e4, _⟩ := rd_int Tryz.underlying3 h4
    obtain ⟨v5, ws, e5, hW⟩ := rd_nz (cs := [c19]) rfl h5
    obtain ⟨m6, e6, _⟩ := rd_int Tryz.underlying3 h6
    obtain ⟨m7, e7, _⟩ := rd_int Tryz.underlying3 h7
    obtain ⟨m8, e8, _⟩ := rd_int Tryz.underlying3 h8
    obtain ⟨m9, e9, _⟩ := rd_int Tryz.underlying3 h9
    obtain ⟨k1, k2, e10⟩ := rd_ky (cs := [c24, c25]) rfl h10
    refine ⟨⟨f, p, n, es, ts, ds, hh, xs, m4, ws, m6, m7, m8, m9, k1, k2⟩, fa, a, v1, v2, v3, ⟨A, m, k⟩, v5, ?_, ⟨hf0, hp0, hE, hT, hD, hc, hx, hW⟩⟩
    have e : suC ⟨f, p, n, es, ts, ds, hh, xs, m4, ws, m6, m7, m8, m9, k1, k2⟩ fa a v1 v2 v3 ⟨A, m, k⟩ v5 = f.cells fa ++ p.cells a ++ ngC n hh v1 v2 v3 ++ [.slice A m k] ++ [.int .i64 m4] ++ nzC v5 ++ [.int .i64 m6] ++ [.int .i64 m7] ++ [.int .i64 m8] ++ [.int .i64 m9] ++ [.int .u64 k1, .int .u64 k2] := rfl
    rw [e, e0, e1, e2, ← e3, ← e4, e5, ← e6, ← e7, ← e8, ← e9, e10]; rfl
end
def vSu : Value := .agg #[.int .i64 0, .int .i64 0, .int .i64 0, .slice none 0 0, .slice none 0 0, .slice none 0 0, .slice none 0 0, .slice none 0 0, .slice none 0 0, .int .i64 0, .slice none 0 0, .int .i64 0, .int .i64 0, .slice none 0 0, .slice none 0 0, .slice none 0 0, .int .i64 0, .slice none 0 0, .int .i64 0, .slice none 0 0, .int .i64 0, .int .i64 0, .int .i64 0, .int .i64 0, .int .u64 0, .int .u64 0]
end Go.Proofs.Sys
