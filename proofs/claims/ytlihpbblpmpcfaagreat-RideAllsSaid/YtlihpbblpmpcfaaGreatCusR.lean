import Derived.Test.YtlihpbblpmpcfaaGreatCusB
import Derived.Test.YtlihpbblpmpcfaaGreatCusS
import Derived.Test.YtlihpbblpmpcfaaGreatEng2
set_option linter.unusedVariables false
set_option linter.unusedSimpArgs false
/-
  The walks: the reference's state, read.
-/
namespace Go.Proofs.Cus
open Go Go.RowKit Go.Proofs.E

theorem fl139 {fs : Array Field} (h : Tryz.prog.underlying 139 = some (.struct fs) := by exact Tryz.underlying139) : FieldsLie Tryz.prog fs [(0, 1), (1, 1), (2, 1), (3, 1)] := by
  rw [Tryz.underlying139] at h
  cases h
  intro w
  kernel_rfl
theorem fl89 {fs : Array Field} (h : Tryz.prog.underlying 89 = some (.struct fs) := by exact Tryz.underlying89) : FieldsLie Tryz.prog fs [(0, 1), (1, 1)] := by
  rw [Tryz.underlying89] at h
  cases h
  intro w
  kernel_rfl
def RT.cells (t : RT) : List Value := [.int .i64 t.id, .int .i64 t.rider, .int .i64 t.bike, .bool t.open_]
abbrev TripsAt (w : World) (A : Option Addr) (n : Nat) (xs : List RT) : Prop := SlAt w 4 RT.cells A n xs
abbrev rtRow (A : Option Addr) (c : Nat) (xs : List RT) : E.Item := rowT 139 4 RT.cells A c xs
abbrev rsV (A : Option Addr) (n c : Nat) (B : Option Addr) (m d : Nat) : List Value := [.slice A n c, .slice B m d]

theorem rparked_w (x : Sp) (w : World) : Calls Tryz.prog 84 #[.agg x.cells.toArray] w fun e w' => e = .returned (.bool (parkedS x)) ∧ Bel w w' := by
  refine H_enter Tryz.func84 rfl Tryz.ntmps84 rfl ?_
  refine H_seq ?_
  refine R0 ?_
  refine X_box (v := .agg _) rfl rfl fun b1 => ?_
  refine xV (e_as (v := .bool _) (q0 rfl)) rfl rfl ?_
  refine XN ?_
  refine thenJ_normal ?_
  refine H_seq ?_
  refine R0 ?_
  refine xV (e_fld Tryz.underlying68 rfl Tryz.sizeOf3 rfl (q0 rfl)) rfl rfl ?_
  refine xV (eL Tryz.isAgg3 (q0 rfl)) rfl rfl ?_
  refine xV (e_eq (q0 rfl) (q0 rfl)) rfl rfl ?_
  refine xV (e_mv (v := .bool _) (q0 rfl)) rfl rfl ?_
  refine xVF (e_fld Tryz.underlying68 rfl Tryz.sizeOf3 rfl (q0 rfl)) rfl rfl rfl rfl ?_
  refine xVF (eL Tryz.isAgg3 (q1 rfl)) rfl rfl rfl rfl ?_
  refine xVF (e_eq (q1 rfl) (q0 rfl)) rfl rfl rfl rfl ?_
  refine xV (e_or (q0 rfl) rfl (fun h => by first | rfl | (rw [h]; rfl))) rfl rfl ?_
  refine xV (e_as (v := .bool _) (q0 rfl)) rfl rfl ?_
  refine XN ?_
  refine thenJ_normal ?_
  refine H_ret ?_
  exact ret1 (v := .bool _) rfl rfl rfl fun w' hw => ⟨rfl, hw.1⟩
theorem find_w (A : Option Addr) (n c : Nat) (B : Option Addr) (m d : Nat) (ts : List RT) (id : Int) (w : World) (ht : TripsAt w B m ts) : Calls Tryz.prog 86 #[.agg (rsV A n c B m d).toArray, .int .i64 id] w fun e w' => e = .returned (.int .i64 (findI ts id)) ∧ Bel w w' := by
  have hl := ht.1
  have hn := ht.2.1
  refine H_enter Tryz.func86 rfl Tryz.ntmps86 rfl ?_
  refine H_seq ?_
  refine R0 ?_
  refine X_box (v := .agg _) rfl rfl fun b2 => ?_
  refine xV (e_as (v := .int _ _) (q0 rfl)) rfl rfl ?_
  refine XN ?_
  refine thenJ_normal ?_
  refine H_seq ?_
  refine H_seq ?_
  refine R0 ?_
  refine xV (e_as (v := .int _ _) (q0 rfl)) rfl rfl ?_
  refine XN ?_
  refine thenJ_normal ?_
  refine H_block ?_
  refine H_loop [4, 5, 6, 7, 8, 9, 10, 11, 12, 13, 14, 15, 16, 17, 18, 19, 20, 21] (fun k : Nat => [(5, .int .i64 k)]) (fun _ => [box b2 89 (rsV A n c B m d)]) (fun k => k ≤ m ∧ ∀ t ∈ ts.take k, t.id ≠ id) (fun k => m - k) 0 ⟨rfl, trivial⟩ (fun _ h => h) rfl ⟨Nat.zero_le _, fun t h => by simp at h⟩ ?_
  rintro k g ⟨hk, hno⟩
  refine H_seq ?_
  refine H_seq ?_
  refine R0 ?_
  refine xV (e_mv (v := .int _ _) (q0 rfl)) rfl rfl ?_
  refine xV (e_fld Tryz.underlying89 rfl Tryz.sizeOf87 rfl (q0 rfl)) rfl rfl ?_
  refine xV (eL Tryz.isAgg87 (q0 rfl)) rfl rfl ?_
  refine xV (e_len Tryz.underlying87 (q0 rfl)) rfl rfl ?_
  refine xV (e_lt (q0 rfl) (q0 rfl)) rfl rfl ?_
  refine XN ?_
  refine thenJ_normal ?_
  refine H_cond rfl (fun hlt => ?_) (fun hlt => ?_)
  · have hk2 : k < m := by simpa using hlt
    obtain ⟨b, off, x, rfl, hbl, hxk, hrx⟩ := ht.at_ hk2
    refine H_skip ?_
    refine thenJ_normal ?_
    refine H_seq ?_
    refine H_block ?_
    refine H_seq ?_
    refine R0 ?_
    refine xV (e_fld Tryz.underlying89 rfl Tryz.sizeOf87 rfl (q0 rfl)) rfl rfl ?_
    refine xV (eL Tryz.isAgg87 (q0 rfl)) rfl rfl ?_
    refine xV (e_mv (v := .int _ _) (q0 rfl)) rfl rfl ?_
    refine xV (e_idx _ Tryz.underlying87 Tryz.sizeOf139 (q0 rfl) (q0 rfl) (fun _ => ⟨rfl, by omega⟩)) rfl rfl ?_
    refine xV (e_fld Tryz.underlying139 rfl Tryz.sizeOf3 rfl (q0 rfl)) rfl rfl ?_
    refine xV (eL Tryz.isAgg3 (q0 rfl)) rfl rfl ?_
    refine xV (e_mv (v := .int _ _) (q0 rfl)) rfl rfl ?_
    refine xV (e_eq (q0 rfl) (q0 rfl)) rfl rfl ?_
    refine XN ?_
    refine thenJ_normal ?_
    refine H_cond rfl (fun hb => ?_) (fun hb => ?_)
    · have hid : x.id = id := by simpa using hb
      refine H_seq ?_
      refine R0 ?_
      refine xV (e_mv (v := .int _ _) (q0 rfl)) rfl rfl ?_
      refine xV (e_as (v := .int _ _) (q0 rfl)) rfl rfl ?_
      refine XN ?_
      refine thenJ_normal ?_
      refine H_ret ?_
      refine blockJ_ret ?_
      refine thenJ_ret ?_
      refine loopJ_ret ?_
      refine blockJ_ret ?_
      refine thenJ_ret ?_
      exact ret1 (v := .int _ _) rfl rfl rfl fun w' hw => ⟨ret_int (by
        unfold findI
        have : findT ts id = some k := by
          refine List.findIdx?_eq_some_iff_getElem.2 ⟨by omega, ?_, fun j hj => ?_⟩
          · have := (List.getElem?_eq_some_iff.1 hxk).2; rw [this]; simpa using hid
          · have := hno ts[j] (List.mem_of_getElem? (i := j) (by rw [List.getElem?_take, if_pos hj]; exact List.getElem?_eq_getElem _)); simpa using this
        rw [this]), hw.1⟩
    · have hid : x.id ≠ id := by simpa using hb
      refine H_skip ?_
      refine blockJ_normal ?_
      refine thenJ_normal ?_
      refine R0 ?_
      refine xV (e_mv (v := .int _ _) (q0 rfl)) rfl rfl ?_
      refine xV (e_add (q0 rfl) (q0 rfl) (fun _ => ⟨rfl, by omega, by omega⟩)) rfl rfl ?_
      refine xV (e_as (v := .int _ _) (q0 rfl)) rfl rfl ?_
      refine XN ?_
      exact loopJ_normal (k + 1) (by repeat (first | exact agree_self | exact agree_over | refine agree_upd rfl ?_ | refine agree_updL rfl ?_ | refine agree_over2 rfl ?_)) ⟨rfl, trivial⟩ (fun w hw => hw) rfl ⟨by omega, fun t h => by rw [take_snoc _ _ _ hxk] at h; rcases List.mem_append.1 h with h | h; exact hno t h; rw [List.mem_singleton.1 h]; exact hid⟩ (by show m - (k + 1) < m - k; omega)
  · have hkn : k = m := by simp at hlt; omega
    refine H_exit ?_
    refine thenJ_exit ?_
    refine loopJ_exit ?_
    refine blockJ_hit ?_
    refine thenJ_normal ?_
    refine H_seq ?_
    refine R0 ?_
    refine xV (e_as (v := .int _ _) (q0 rfl)) rfl rfl ?_
    refine XN ?_
    refine thenJ_normal ?_
    refine H_ret ?_
    exact ret1 (v := .int _ _) rfl rfl rfl fun w' hw => ⟨ret_int (by
      unfold findI
      rw [hkn, ← hl, List.take_length] at hno
      rw [findT_none.2 hno]), hw.1⟩
theorem rides_w (A : Option Addr) (n c : Nat) (B : Option Addr) (m d : Nat) (ts : List RT) (rider : Int) (w : World) (ht : TripsAt w B m ts) : Calls Tryz.prog 87 #[.agg (rsV A n c B m d).toArray, .int .i64 rider] w fun e w' => e = .returned (.bool (ridesR ts rider)) ∧ Bel w w' := by
  have hl := ht.1
  have hn := ht.2.1
  refine H_enter Tryz.func87 rfl Tryz.ntmps87 rfl ?_
  refine H_seq ?_
  refine R0 ?_
  refine X_box (v := .agg _) rfl rfl fun b2 => ?_
  refine xV (e_as (v := .bool _) (q0 rfl)) rfl rfl ?_
  refine XN ?_
  refine thenJ_normal ?_
  refine H_seq ?_
  refine H_seq ?_
  refine R0 ?_
  refine xV (e_as (v := .int _ _) (q0 rfl)) rfl rfl ?_
  refine XN ?_
  refine thenJ_normal ?_
  refine H_block ?_
  refine H_loop [4, 5, 6, 7, 8, 9, 10, 11, 12, 13, 14, 15, 16, 17, 18, 19, 20, 21, 22, 23, 24, 25, 26, 27, 28] (fun k : Nat => [(5, .int .i64 k)]) (fun _ => [box b2 89 (rsV A n c B m d)]) (fun k => k ≤ m ∧ ∀ t ∈ ts.take k, (t.open_ && decide (t.rider = rider)) = false) (fun k => m - k) 0 ⟨rfl, trivial⟩ (fun _ h => h) rfl ⟨Nat.zero_le _, fun t h => by simp at h⟩ ?_
  rintro k g ⟨hk, hno⟩
  refine H_seq ?_
  refine H_seq ?_
  refine R0 ?_
  refine xV (e_mv (v := .int _ _) (q0 rfl)) rfl rfl ?_
  refine xV (e_fld Tryz.underlying89 rfl Tryz.sizeOf87 rfl (q0 rfl)) rfl rfl ?_
  refine xV (eL Tryz.isAgg87 (q0 rfl)) rfl rfl ?_
  refine xV (e_len Tryz.underlying87 (q0 rfl)) rfl rfl ?_
  refine xV (e_lt (q0 rfl) (q0 rfl)) rfl rfl ?_
  refine XN ?_
  refine thenJ_normal ?_
  refine H_cond rfl (fun hlt => ?_) (fun hlt => ?_)
  · have hk2 : k < m := by simpa using hlt
    obtain ⟨b, off, x, rfl, hbl, hxk, hrx⟩ := ht.at_ hk2
    refine H_skip ?_
    refine thenJ_normal ?_
    refine H_seq ?_
    refine H_block ?_
    refine H_seq ?_
    refine R0 ?_
    refine xV (e_fld Tryz.underlying89 rfl Tryz.sizeOf87 rfl (q0 rfl)) rfl rfl ?_
    refine xV (eL Tryz.isAgg87 (q0 rfl)) rfl rfl ?_
    refine xV (e_mv (v := .int _ _) (q0 rfl)) rfl rfl ?_
    refine xV (e_idx _ Tryz.underlying87 Tryz.sizeOf139 (q0 rfl) (q0 rfl) (fun _ => ⟨rfl, by omega⟩)) rfl rfl ?_
    refine xV (e_fld Tryz.underlying139 rfl Tryz.sizeOf4 rfl (q0 rfl)) rfl rfl ?_
    refine xV (eL Tryz.isAgg4 (q0 rfl)) rfl rfl ?_
    refine xV (e_mv (v := .bool _) (q0 rfl)) rfl rfl ?_
    refine xVT (e_fld Tryz.underlying89 rfl Tryz.sizeOf87 rfl (q0 rfl)) rfl rfl rfl rfl ?_
    refine xVT (eL Tryz.isAgg87 (q1 rfl)) rfl rfl rfl rfl ?_
    refine xVT (e_mv (v := .int _ _) (q0 rfl)) rfl rfl rfl rfl ?_
    refine xVT (e_idx _ Tryz.underlying87 Tryz.sizeOf139 (q1 rfl) (q1 rfl) (fun _ => ⟨rfl, by omega⟩)) rfl rfl rfl rfl ?_
    refine xVT (e_fld Tryz.underlying139 rfl Tryz.sizeOf3 rfl (q1 rfl)) rfl rfl rfl rfl ?_
    refine xVT (eL Tryz.isAgg3 (q1 rfl)) rfl rfl rfl rfl ?_
    refine xVT (e_mv (v := .int _ _) (q0 rfl)) rfl rfl rfl rfl ?_
    refine xVT (e_eq (q1 rfl) (q1 rfl)) rfl rfl rfl rfl ?_
    refine xV (e_and (q0 rfl) rfl (fun h => by first | rfl | (rw [h]; rfl))) rfl rfl ?_
    refine XN ?_
    refine thenJ_normal ?_
    refine H_cond rfl (fun hb => ?_) (fun hb => ?_)
    · refine H_seq ?_
      refine R0 ?_
      refine xV (e_as (v := .bool _) (q0 rfl)) rfl rfl ?_
      refine XN ?_
      refine thenJ_normal ?_
      refine H_ret ?_
      refine blockJ_ret ?_
      refine thenJ_ret ?_
      refine loopJ_ret ?_
      refine blockJ_ret ?_
      refine thenJ_ret ?_
      exact ret1 (v := .bool _) rfl rfl rfl fun w' hw => ⟨ret_bool (by
        rw [eq_comm]
        exact List.any_eq_true.2 ⟨x, List.mem_of_getElem? hxk, hb⟩), hw.1⟩
    · have hid : (x.open_ && decide (x.rider = rider)) = false := hb
      refine H_skip ?_
      refine blockJ_normal ?_
      refine thenJ_normal ?_
      refine R0 ?_
      refine xV (e_mv (v := .int _ _) (q0 rfl)) rfl rfl ?_
      refine xV (e_add (q0 rfl) (q0 rfl) (fun _ => ⟨rfl, by omega, by omega⟩)) rfl rfl ?_
      refine xV (e_as (v := .int _ _) (q0 rfl)) rfl rfl ?_
      refine XN ?_
      exact loopJ_normal (k + 1) (by repeat (first | exact agree_self | exact agree_over | refine agree_upd rfl ?_ | refine agree_updL rfl ?_ | refine agree_over2 rfl ?_)) ⟨rfl, trivial⟩ (fun w hw => hw) rfl ⟨by omega, fun t h => by rw [take_snoc _ _ _ hxk] at h; rcases List.mem_append.1 h with h | h; exact hno t h; rw [List.mem_singleton.1 h]; exact hid⟩ (by show m - (k + 1) < m - k; omega)
  · have hkn : k = m := by simp at hlt; omega
    refine H_exit ?_
    refine thenJ_exit ?_
    refine loopJ_exit ?_
    refine blockJ_hit ?_
    refine thenJ_normal ?_
    refine H_seq ?_
    refine R0 ?_
    refine xV (e_as (v := .bool _) (q0 rfl)) rfl rfl ?_
    refine XN ?_
    refine thenJ_normal ?_
    refine H_ret ?_
    exact ret1 (v := .bool _) rfl rfl rfl fun w' hw => ⟨ret_bool (by
      rw [hkn, ← hl, List.take_length] at hno
      rw [eq_comm]
      unfold ridesR
      rw [List.any_eq_false]
      intro t h; rw [hno t h]; decide), hw.1⟩
theorem occupied_w (A : Option Addr) (n c : Nat) (B : Option Addr) (m d : Nat) (sp : List Sp) (place : Int) (w : World) (ht : SpotsAt w A n sp) : Calls Tryz.prog 85 #[.agg (rsV A n c B m d).toArray, .int .i64 place] w fun e w' => e = .returned (.bool (decide (0 < countP sp 1 place))) ∧ Bel w w' := by
  have hl := ht.1
  have hn := ht.2.1
  refine H_enter Tryz.func85 rfl Tryz.ntmps85 rfl ?_
  refine H_seq ?_
  refine R0 ?_
  refine X_box (v := .agg _) rfl rfl fun b2 => ?_
  refine xV (e_as (v := .bool _) (q0 rfl)) rfl rfl ?_
  refine XN ?_
  refine thenJ_normal ?_
  refine H_seq ?_
  refine H_seq ?_
  refine R0 ?_
  refine xV (e_as (v := .int _ _) (q0 rfl)) rfl rfl ?_
  refine XN ?_
  refine thenJ_normal ?_
  refine H_block ?_
  refine H_loop [4, 5, 6, 7, 8, 9, 10, 11, 12, 13, 14, 15, 16, 17, 18, 19, 20, 21, 22, 23, 24, 25, 26, 27, 28, 29] (fun k : Nat => [(5, .int .i64 k)]) (fun _ => [box b2 89 (rsV A n c B m d)]) (fun k => k ≤ n ∧ ∀ t ∈ sp.take k, atP 1 place t = false) (fun k => n - k) 0 ⟨rfl, trivial⟩ (fun _ h => h) rfl ⟨Nat.zero_le _, fun t h => by simp at h⟩ ?_
  rintro k g ⟨hk, hno⟩
  refine H_seq ?_
  refine H_seq ?_
  refine R0 ?_
  refine xV (e_mv (v := .int _ _) (q0 rfl)) rfl rfl ?_
  refine xV (e_fld Tryz.underlying89 rfl Tryz.sizeOf52 rfl (q0 rfl)) rfl rfl ?_
  refine xV (eL Tryz.isAgg52 (q0 rfl)) rfl rfl ?_
  refine xV (e_len Tryz.underlying52 (q0 rfl)) rfl rfl ?_
  refine xV (e_lt (q0 rfl) (q0 rfl)) rfl rfl ?_
  refine XN ?_
  refine thenJ_normal ?_
  refine H_cond rfl (fun hlt => ?_) (fun hlt => ?_)
  · have hk2 : k < n := by simpa using hlt
    obtain ⟨b, off, x, rfl, hbl, hxk, hrx⟩ := ht.at_ hk2
    refine H_skip ?_
    refine thenJ_normal ?_
    refine H_seq ?_
    refine H_block ?_
    refine H_seq ?_
    refine R0 ?_
    refine xV (e_fld Tryz.underlying89 rfl Tryz.sizeOf52 rfl (q0 rfl)) rfl rfl ?_
    refine xV (eL Tryz.isAgg52 (q0 rfl)) rfl rfl ?_
    refine xV (e_mv (v := .int _ _) (q0 rfl)) rfl rfl ?_
    refine xV (e_idx _ Tryz.underlying52 Tryz.sizeOf68 (q0 rfl) (q0 rfl) (fun _ => ⟨rfl, by omega⟩)) rfl rfl ?_
    refine xV (e_fld Tryz.underlying68 rfl Tryz.sizeOf3 rfl (q0 rfl)) rfl rfl ?_
    refine xV (eL Tryz.isAgg3 (q0 rfl)) rfl rfl ?_
    refine xV (e_eq (q0 rfl) (q0 rfl)) rfl rfl ?_
    refine xV (e_mv (v := .bool _) (q0 rfl)) rfl rfl ?_
    refine xVT (e_fld Tryz.underlying89 rfl Tryz.sizeOf52 rfl (q0 rfl)) rfl rfl rfl rfl ?_
    refine xVT (eL Tryz.isAgg52 (q1 rfl)) rfl rfl rfl rfl ?_
    refine xVT (e_mv (v := .int _ _) (q0 rfl)) rfl rfl rfl rfl ?_
    refine xVT (e_idx _ Tryz.underlying52 Tryz.sizeOf68 (q1 rfl) (q1 rfl) (fun _ => ⟨rfl, by omega⟩)) rfl rfl rfl rfl ?_
    refine xVT (e_fld Tryz.underlying68 rfl Tryz.sizeOf3 rfl (q1 rfl)) rfl rfl rfl rfl ?_
    refine xVT (eL Tryz.isAgg3 (q1 rfl)) rfl rfl rfl rfl ?_
    refine xVT (e_mv (v := .int _ _) (q0 rfl)) rfl rfl rfl rfl ?_
    refine xVT (e_eq (q1 rfl) (q1 rfl)) rfl rfl rfl rfl ?_
    refine xV (e_and (q0 rfl) rfl (fun h => by first | rfl | (rw [h]; rfl))) rfl rfl ?_
    refine XN ?_
    refine thenJ_normal ?_
    refine H_cond rfl (fun hb => ?_) (fun hb => ?_)
    · refine H_seq ?_
      refine R0 ?_
      refine xV (e_as (v := .bool _) (q0 rfl)) rfl rfl ?_
      refine XN ?_
      refine thenJ_normal ?_
      refine H_ret ?_
      refine blockJ_ret ?_
      refine thenJ_ret ?_
      refine loopJ_ret ?_
      refine blockJ_ret ?_
      refine thenJ_ret ?_
      exact ret1 (v := .bool _) rfl rfl rfl fun w' hw => ⟨ret_bool (by
        rw [eq_comm, decide_eq_true_eq]
        exact List.countP_pos_iff.2 ⟨x, List.mem_of_getElem? hxk, hb⟩), hw.1⟩
    · have hid : atP 1 place x = false := hb
      refine H_skip ?_
      refine blockJ_normal ?_
      refine thenJ_normal ?_
      refine R0 ?_
      refine xV (e_mv (v := .int _ _) (q0 rfl)) rfl rfl ?_
      refine xV (e_add (q0 rfl) (q0 rfl) (fun _ => ⟨rfl, by omega, by omega⟩)) rfl rfl ?_
      refine xV (e_as (v := .int _ _) (q0 rfl)) rfl rfl ?_
      refine XN ?_
      exact loopJ_normal (k + 1) (by repeat (first | exact agree_self | exact agree_over | refine agree_upd rfl ?_ | refine agree_updL rfl ?_ | refine agree_over2 rfl ?_)) ⟨rfl, trivial⟩ (fun w hw => hw) rfl ⟨by omega, fun t h => by rw [take_snoc _ _ _ hxk] at h; rcases List.mem_append.1 h with h | h; exact hno t h; rw [List.mem_singleton.1 h]; exact hid⟩ (by show n - (k + 1) < n - k; omega)
  · have hkn : k = n := by simp at hlt; omega
    refine H_exit ?_
    refine thenJ_exit ?_
    refine loopJ_exit ?_
    refine blockJ_hit ?_
    refine thenJ_normal ?_
    refine H_seq ?_
    refine R0 ?_
    refine xV (e_as (v := .bool _) (q0 rfl)) rfl rfl ?_
    refine XN ?_
    refine thenJ_normal ?_
    refine H_ret ?_
    exact ret1 (v := .bool _) rfl rfl rfl fun w' hw => ⟨ret_bool (by
      rw [hkn, ← hl, List.take_length] at hno
      rw [eq_comm, decide_eq_false_iff_not]
      intro h0
      obtain ⟨t, ht, h1⟩ := List.countP_pos_iff.1 h0
      rw [hno t ht] at h1; cases h1), hw.1⟩
theorem carried_w (A : Option Addr) (n c : Nat) (B : Option Addr) (m d : Nat) (sp : List Sp) (truck : Int) (w : World) (ht : SpotsAt w A n sp) : Calls Tryz.prog 88 #[.agg (rsV A n c B m d).toArray, .int .i64 truck] w fun e w' => e = .returned (.int .i64 (countP sp 4 truck)) ∧ Bel w w' := by
  have hl := ht.1
  have hn := ht.2.1
  refine H_enter Tryz.func88 rfl Tryz.ntmps88 rfl ?_
  refine H_seq ?_
  refine R0 ?_
  refine X_box (v := .agg _) rfl rfl fun b2 => ?_
  refine xV (e_as (v := .int _ _) (q0 rfl)) rfl rfl ?_
  refine XN ?_
  refine thenJ_normal ?_
  refine H_seq ?_
  refine R0 ?_
  refine xV (e_as (v := .int _ _) (q0 rfl)) rfl rfl ?_
  refine XN ?_
  refine thenJ_normal ?_
  refine H_seq ?_
  refine H_seq ?_
  refine R0 ?_
  refine xV (e_as (v := .int _ _) (q0 rfl)) rfl rfl ?_
  refine XN ?_
  refine thenJ_normal ?_
  refine H_block ?_
  refine H_loop [5, 6, 7, 8, 9, 10, 11, 12, 13, 14, 15, 16, 17, 18, 19, 20, 21, 22, 23, 24, 25, 26, 27, 28, 29, 30, 31, 32] (fun k : Nat => [(6, .int .i64 k), (5, .int .i64 (countP (sp.take k) 4 truck))]) (fun _ => [box b2 89 (rsV A n c B m d)]) (fun k => k ≤ n ∧ countP (sp.take k) 4 truck ≤ k) (fun k => n - k) 0 ⟨rfl, rfl, trivial⟩ (fun _ h => h) rfl ⟨Nat.zero_le _, Nat.le_refl _⟩ ?_
  rintro k g ⟨hk, hc⟩
  refine H_seq ?_
  refine H_seq ?_
  refine R0 ?_
  refine xV (e_mv (v := .int _ _) (q0 rfl)) rfl rfl ?_
  refine xV (e_fld Tryz.underlying89 rfl Tryz.sizeOf52 rfl (q0 rfl)) rfl rfl ?_
  refine xV (eL Tryz.isAgg52 (q0 rfl)) rfl rfl ?_
  refine xV (e_len Tryz.underlying52 (q0 rfl)) rfl rfl ?_
  refine xV (e_lt (q0 rfl) (q0 rfl)) rfl rfl ?_
  refine XN ?_
  refine thenJ_normal ?_
  refine H_cond rfl (fun hlt => ?_) (fun hlt => ?_)
  · have hk2 : k < n := by simpa using hlt
    obtain ⟨b, off, x, rfl, hbl, hxk, hrx⟩ := ht.at_ hk2
    have hs := countP_snoc sp 4 truck k x hxk
    refine H_skip ?_
    refine thenJ_normal ?_
    refine H_seq ?_
    refine H_block ?_
    refine H_seq ?_
    refine R0 ?_
    refine xV (e_fld Tryz.underlying89 rfl Tryz.sizeOf52 rfl (q0 rfl)) rfl rfl ?_
    refine xV (eL Tryz.isAgg52 (q0 rfl)) rfl rfl ?_
    refine xV (e_mv (v := .int _ _) (q0 rfl)) rfl rfl ?_
    refine xV (e_idx _ Tryz.underlying52 Tryz.sizeOf68 (q0 rfl) (q0 rfl) (fun _ => ⟨rfl, by omega⟩)) rfl rfl ?_
    refine xV (e_fld Tryz.underlying68 rfl Tryz.sizeOf3 rfl (q0 rfl)) rfl rfl ?_
    refine xV (eL Tryz.isAgg3 (q0 rfl)) rfl rfl ?_
    refine xV (e_eq (q0 rfl) (q0 rfl)) rfl rfl ?_
    refine xV (e_mv (v := .bool _) (q0 rfl)) rfl rfl ?_
    refine xVT (e_fld Tryz.underlying89 rfl Tryz.sizeOf52 rfl (q0 rfl)) rfl rfl rfl rfl ?_
    refine xVT (eL Tryz.isAgg52 (q1 rfl)) rfl rfl rfl rfl ?_
    refine xVT (e_mv (v := .int _ _) (q0 rfl)) rfl rfl rfl rfl ?_
    refine xVT (e_idx _ Tryz.underlying52 Tryz.sizeOf68 (q1 rfl) (q1 rfl) (fun _ => ⟨rfl, by omega⟩)) rfl rfl rfl rfl ?_
    refine xVT (e_fld Tryz.underlying68 rfl Tryz.sizeOf3 rfl (q1 rfl)) rfl rfl rfl rfl ?_
    refine xVT (eL Tryz.isAgg3 (q1 rfl)) rfl rfl rfl rfl ?_
    refine xVT (e_mv (v := .int _ _) (q0 rfl)) rfl rfl rfl rfl ?_
    refine xVT (e_eq (q1 rfl) (q1 rfl)) rfl rfl rfl rfl ?_
    refine xV (e_and (q0 rfl) rfl (fun h => by first | rfl | (rw [h]; rfl))) rfl rfl ?_
    refine XN ?_
    refine thenJ_normal ?_
    refine H_cond rfl (fun hb => ?_) (fun hb => ?_)
    · have hs2 : countP (sp.take (k + 1)) 4 truck = countP (sp.take k) 4 truck + 1 := by rw [hs, if_pos (by unfold atP; exact hb)]
      refine R0 ?_
      refine xV (e_mv (v := .int _ _) (q0 rfl)) rfl rfl ?_
      refine xV (e_add (q0 rfl) (q0 rfl) (fun _ => ⟨rfl, by omega, by omega⟩)) rfl rfl ?_
      refine xV (e_as (v := .int _ _) (q0 rfl)) rfl rfl ?_
      refine XN ?_
      refine blockJ_normal ?_
      refine thenJ_normal ?_
      refine R0 ?_
      refine xV (e_mv (v := .int _ _) (q0 rfl)) rfl rfl ?_
      refine xV (e_add (q0 rfl) (q0 rfl) (fun _ => ⟨rfl, by omega, by omega⟩)) rfl rfl ?_
      refine xV (e_as (v := .int _ _) (q0 rfl)) rfl rfl ?_
      refine XN ?_
      exact loopJ_normal (k + 1) (by repeat (first | exact agree_self | exact agree_over | refine agree_upd rfl ?_ | refine agree_updL rfl ?_ | refine agree_over2 rfl ?_)) ⟨rfl, by show _ = Value.int .i64 (countP (sp.take (k + 1)) 4 truck : Int); rw [hs2]; rfl, trivial⟩ (fun w hw => hw) rfl ⟨by omega, by omega⟩ (by show n - (k + 1) < n - k; omega)
    · have hs2 : countP (sp.take (k + 1)) 4 truck = countP (sp.take k) 4 truck := by rw [hs, if_neg (by unfold atP; rw [hb]; decide), Nat.add_zero]
      refine H_skip ?_
      refine blockJ_normal ?_
      refine thenJ_normal ?_
      refine R0 ?_
      refine xV (e_mv (v := .int _ _) (q0 rfl)) rfl rfl ?_
      refine xV (e_add (q0 rfl) (q0 rfl) (fun _ => ⟨rfl, by omega, by omega⟩)) rfl rfl ?_
      refine xV (e_as (v := .int _ _) (q0 rfl)) rfl rfl ?_
      refine XN ?_
      exact loopJ_normal (k + 1) (by repeat (first | exact agree_self | exact agree_over | refine agree_upd rfl ?_ | refine agree_updL rfl ?_ | refine agree_over2 rfl ?_)) ⟨rfl, by show _ = Value.int .i64 (countP (sp.take (k + 1)) 4 truck : Int); rw [hs2]; rfl, trivial⟩ (fun w hw => hw) rfl ⟨by omega, by omega⟩ (by show n - (k + 1) < n - k; omega)
  · have hkn : k = n := by simp at hlt; omega
    refine H_exit ?_
    refine thenJ_exit ?_
    refine loopJ_exit ?_
    refine blockJ_hit ?_
    refine thenJ_normal ?_
    refine H_seq ?_
    refine R0 ?_
    refine xV (e_mv (v := .int _ _) (q0 rfl)) rfl rfl ?_
    refine xV (e_as (v := .int _ _) (q0 rfl)) rfl rfl ?_
    refine XN ?_
    refine thenJ_normal ?_
    refine H_ret ?_
    exact ret1 (v := .int _ _) rfl rfl rfl fun w' hw => ⟨ret_int (by rw [hkn, ← hl, List.take_length]), hw.1⟩

end Go.Proofs.Cus

/-
  The walks: the reference's error of an event.
-/
namespace Go.Proofs.Cus
open Go Go.RowKit Go.Proofs.E

set_option maxRecDepth 20000 in
theorem fault_w (f : Fl) (a : FA) (A : Option Addr) (n c : Nat) (B : Option Addr) (m d : Nat) (s : PS) (r : RS) (e : Ev) (w : World) (hf : FlAt w f a) (hs : SpotsAt w A n r.spots) (ht : TripsAt w B m r.trips) (hR : Rel n s r) (hnb : f.bikes = n) (hp : -9223372036854775808 ≤ e.place ∧ e.place ≤ 9223372036854775807) :
    Calls Tryz.prog 60 #[.agg (f.cells a).toArray, .agg (rsV A n c B m d).toArray, .agg e.cells.toArray] w fun q w' => q = .returned (.int .i64 (errR f s e)) ∧ Bel w w' := by
  have hfa := hf
  refine H_enter Tryz.func60 rfl Tryz.ntmps60 rfl ?_
  refine H_seq ?_
  refine R0 ?_
  refine X_box (v := .agg _) rfl rfl fun b3 => ?_
  refine X_box (v := .agg _) rfl rfl fun b4 => ?_
  refine X_box (v := .agg _) rfl rfl fun b5 => ?_
  refine xV (e_as (v := .int _ _) (q0 rfl)) rfl rfl ?_
  refine XN ?_
  refine thenJ_normal ?_
  refine H_seq ?_
  refine H_seq ?_
  refine R0 ?_
  refine xV (eS Tryz.isAgg24 Tryz.sizeOf24 (q0 rfl)) rfl rfl ?_
  refine xV (eS Tryz.isAgg57 Tryz.sizeOf57 (q0 rfl)) rfl rfl ?_
  refine xC (en Tryz.call83 (ha2 (q0 rfl) (q0 rfl))) (fun _ w hm => rcheck_w f a e w (hf.mem hm) hp) rfl rfl ?_
  refine xV (e_as (v := .int _ _) (q0 rfl)) rfl rfl ?_
  refine XN ?_
  refine thenJ_normal ?_
  refine H_seq ?_
  refine R0 ?_
  refine xV (e_mv (v := .int _ _) (q0 rfl)) rfl rfl ?_
  refine xV (e_ne (q0 rfl) (q0 rfl)) rfl rfl ?_
  refine XN ?_
  refine thenJ_normal ?_
  refine H_cond rfl (fun h0 => ?_) (fun h0 => ?_)
  · refine H_seq ?_
    refine R0 ?_
    refine xV (e_mv (v := .int _ _) (q0 rfl)) rfl rfl ?_
    refine xV (e_as (v := .int _ _) (q0 rfl)) rfl rfl ?_
    refine XN ?_
    refine thenJ_normal ?_
    refine H_ret ?_
    refine thenJ_ret ?_
    exact ret1 (v := .int _ _) rfl rfl rfl fun w' hw => ⟨ret_int (by unfold errR; rw [if_pos (by simpa using h0)]), hw.1⟩
  · have h0' : evErr f e = 0 := by simpa using h0
    obtain ⟨_, hbike, hp7, hkd, _⟩ := evErr_ok h0'
    refine H_skip ?_
    refine thenJ_normal ?_
    refine H_seq ?_
    refine H_seq ?_
    refine R0 ?_
    refine xV (e_fld Tryz.underlying57 rfl Tryz.sizeOf3 rfl (q0 rfl)) rfl rfl ?_
    refine xV (eL Tryz.isAgg3 (q0 rfl)) rfl rfl ?_
    refine xV (e_eq (q0 rfl) (q0 rfl)) rfl rfl ?_
    refine XN ?_
    refine thenJ_normal ?_
    refine H_cond rfl (fun h10 => ?_) (fun h10 => ?_)
    · refine H_seq ?_
      refine R0 ?_
      refine xV (e_as (v := .int _ _) (q0 rfl)) rfl rfl ?_
      refine XN ?_
      refine thenJ_normal ?_
      refine H_ret ?_
      refine thenJ_ret ?_
      exact ret1 (v := .int _ _) rfl rfl rfl fun w' hw => ⟨ret_int (by unfold errR; rw [if_neg (by rw [h0']; decide), if_pos (by simpa using h10)]), hw.1⟩
    · have h10' : ¬ e.kind = 10 := by simpa using h10
      have hE : errR f s e = checkP f.trucks s e := by unfold errR; rw [if_neg (by rw [h0']; decide), if_neg h10']
      rw [hE]
      obtain ⟨k, hk⟩ : ∃ k : Nat, e.bike = k := ⟨e.bike.toNat, by omega⟩
      have hkn : k < n := by omega
      obtain ⟨b, off, x, rfl, hbl, hxk, hrx⟩ := hs.at_ hkn
      rw [hR.spots] at hxk
      have hx : s.spots.getD e.bike.toNat default = x := by
        rw [hk, Int.toNat_natCast, List.getD_eq_getElem?_getD, hxk]; rfl
      refine H_skip ?_
      refine thenJ_normal ?_
      refine H_seq ?_
      refine R0 ?_
      refine xV (e_fld Tryz.underlying89 rfl Tryz.sizeOf52 rfl (q0 rfl)) rfl rfl ?_
      refine xV (eL Tryz.isAgg52 (q0 rfl)) rfl rfl ?_
      refine xV (e_fld Tryz.underlying57 rfl Tryz.sizeOf3 rfl (q0 rfl)) rfl rfl ?_
      refine xV (eL Tryz.isAgg3 (q0 rfl)) rfl rfl ?_
      refine xV (e_idx k Tryz.underlying52 Tryz.sizeOf68 (q0 rfl) (q0 rfl) (fun _ => ⟨hk, hkn⟩)) rfl rfl ?_
      refine xV (eS Tryz.isAgg68 Tryz.sizeOf68 (q0 rfl)) rfl rfl ?_
      refine X_alloc Tryz.zeroValue68 rfl fun b8 => ?_
      refine X_st (v := .agg _) rfl rfl Tryz.sizeOf68 ?_
      refine XN ?_
      refine thenJ_normal ?_
      refine H_seq ?_
      refine H_seq ?_
      refine R0 ?_
      refine xV (e_fld Tryz.underlying57 rfl Tryz.sizeOf3 rfl (q0 rfl)) rfl rfl ?_
      refine xV (eL Tryz.isAgg3 (q0 rfl)) rfl rfl ?_
      refine XN ?_
      refine thenJ_normal ?_
      refine H_block ?_
      refine H_seq ?_
      refine R0 ?_
      refine xV (e_eq (q0 rfl) (q0 rfl)) rfl rfl ?_
      refine xV (e_as (v := .bool _) (q0 rfl)) rfl rfl ?_
      refine XN ?_
      refine thenJ_normal ?_
      refine H_cond rfl (fun h1 => ?_) (fun h1 => ?_)
      · have hk1 : e.kind = 1 := by simpa using h1
        have hck := ck1 (tr := f.trucks) hk1 hx
        refine H_seq ?_
        refine H_seq ?_
        refine R0 ?_
        refine xV (eS Tryz.isAgg68 Tryz.sizeOf68 (q0 rfl)) rfl rfl ?_
        refine xC (en Tryz.call84 (ha1 (q0 rfl))) (fun _ w _ => rparked_w x w) rfl rfl ?_
        refine XN ?_
        refine thenJ_normal ?_
        refine H_cond rfl (fun hb => ?_) (fun hb => ?_)
        · refine H_seq ?_
          refine R0 ?_
          refine xV (e_as (v := .int _ _) (q0 rfl)) rfl rfl ?_
          refine XN ?_
          refine thenJ_normal ?_
          refine H_ret ?_
          refine thenJ_ret ?_
          refine blockJ_ret ?_
          refine thenJ_ret ?_
          exact ret1 (v := .int _ _) rfl rfl rfl fun w' hw => ⟨ret_int (by rw [hck, hb]; rfl), hw.1⟩
        · refine H_skip ?_
          refine thenJ_normal ?_
          refine H_seq ?_
          refine R0 ?_
          refine xV (eS Tryz.isAgg89 Tryz.sizeOf89 (q0 rfl)) rfl rfl ?_
          refine xV (e_fld Tryz.underlying57 rfl Tryz.sizeOf3 rfl (q0 rfl)) rfl rfl ?_
          refine xV (eL Tryz.isAgg3 (q0 rfl)) rfl rfl ?_
          refine xC (en Tryz.call85 (ha2 (q0 rfl) (q0 rfl))) (fun _ w hm => occupied_w _ n c B m d r.spots e.place w (hs.mem hm)) rfl rfl ?_
          rw [hR.spots]
          refine XN ?_
          refine thenJ_normal ?_
          refine H_cond rfl (fun hc => ?_) (fun hc => ?_)
          · refine H_seq ?_
            refine R0 ?_
            refine xV (e_as (v := .int _ _) (q0 rfl)) rfl rfl ?_
            refine XN ?_
            refine thenJ_normal ?_
            refine H_ret ?_
            refine blockJ_ret ?_
            refine thenJ_ret ?_
            exact ret1 (v := .int _ _) rfl rfl rfl fun w' hw => ⟨ret_int (by rw [hck, if_pos (by rw [hb]; simpa using hc)]), hw.1⟩
          · refine H_skip ?_
            refine blockJ_normal ?_
            refine thenJ_normal ?_
            refine H_seq ?_
            refine R0 ?_
            refine xV (e_as (v := .int _ _) (q0 rfl)) rfl rfl ?_
            refine XN ?_
            refine thenJ_normal ?_
            refine H_ret ?_
            exact ret1 (v := .int _ _) rfl rfl rfl fun w' hw => ⟨ret_int (by rw [hck, if_neg (by rw [hb]; simpa using hc), hb]; rfl), hw.1⟩
      · refine H_seq ?_
        refine R0 ?_
        refine xV (e_eq (q0 rfl) (q0 rfl)) rfl rfl ?_
        refine xV (e_as (v := .bool _) (q0 rfl)) rfl rfl ?_
        refine XN ?_
        refine thenJ_normal ?_
        refine H_cond rfl (fun h2 => ?_) (fun h2 => ?_)
        · have hk2 : e.kind = 2 := by simpa using h2
          have hck := ck2 (tr := f.trucks) hk2 hx
          refine H_seq ?_
          refine R0 ?_
          refine xV (eS Tryz.isAgg68 Tryz.sizeOf68 (q0 rfl)) rfl rfl ?_
          refine xC (en Tryz.call84 (ha1 (q0 rfl))) (fun _ w _ => rparked_w x w) rfl rfl ?_
          refine XN ?_
          refine thenJ_normal ?_
          refine H_cond rfl (fun hb => ?_) (fun hb => ?_)
          · refine H_seq ?_
            refine R0 ?_
            refine xV (e_as (v := .int _ _) (q0 rfl)) rfl rfl ?_
            refine XN ?_
            refine thenJ_normal ?_
            refine H_ret ?_
            refine blockJ_ret ?_
            refine thenJ_ret ?_
            exact ret1 (v := .int _ _) rfl rfl rfl fun w' hw => ⟨ret_int (by rw [hck, hb]; rfl), hw.1⟩
          · refine H_skip ?_
            refine blockJ_normal ?_
            refine thenJ_normal ?_
            refine H_seq ?_
            refine R0 ?_
            refine xV (e_as (v := .int _ _) (q0 rfl)) rfl rfl ?_
            refine XN ?_
            refine thenJ_normal ?_
            refine H_ret ?_
            exact ret1 (v := .int _ _) rfl rfl rfl fun w' hw => ⟨ret_int (by rw [hck, hb]; rfl), hw.1⟩
        · refine H_seq ?_
          refine R0 ?_
          refine xV (e_eq (q0 rfl) (q0 rfl)) rfl rfl ?_
          refine xV (e_as (v := .bool _) (q0 rfl)) rfl rfl ?_
          refine XN ?_
          refine thenJ_normal ?_
          refine H_cond rfl (fun h3 => ?_) (fun h3 => ?_)
          · have hk3 : e.kind = 3 := by simpa using h3
            have hck := ck3 (tr := f.trucks) hk3 hx
            refine H_seq ?_
            refine H_seq ?_
            refine R0 ?_
            refine xV (eS Tryz.isAgg68 Tryz.sizeOf68 (q0 rfl)) rfl rfl ?_
            refine xC (en Tryz.call84 (ha1 (q0 rfl))) (fun _ w _ => rparked_w x w) rfl rfl ?_
            refine xV (e_not (q0 rfl)) rfl rfl ?_
            refine XN ?_
            refine thenJ_normal ?_
            refine H_cond rfl (fun hb => ?_) (fun hb => ?_)
            · refine H_seq ?_
              refine R0 ?_
              refine xV (e_as (v := .int _ _) (q0 rfl)) rfl rfl ?_
              refine XN ?_
              refine thenJ_normal ?_
              refine H_ret ?_
              refine thenJ_ret ?_
              refine blockJ_ret ?_
              refine thenJ_ret ?_
              exact ret1 (v := .int _ _) rfl rfl rfl fun w' hw => ⟨ret_int (by rw [hck, if_pos (by simpa using hb)]), hw.1⟩
            · rw [if_neg (by simpa using hb)] at hck
              have hfu := hR.findUsed e.ride
              refine H_skip ?_
              refine thenJ_normal ?_
              refine H_seq ?_
              refine H_seq ?_
              refine R0 ?_
              refine xV (eS Tryz.isAgg89 Tryz.sizeOf89 (q0 rfl)) rfl rfl ?_
              refine xV (e_fld Tryz.underlying57 rfl Tryz.sizeOf3 rfl (q0 rfl)) rfl rfl ?_
              refine xV (eL Tryz.isAgg3 (q0 rfl)) rfl rfl ?_
              refine xC (en Tryz.call86 (ha2 (q0 rfl) (q0 rfl))) (fun _ w hm => find_w _ n c B m d r.trips e.ride w (ht.mem hm)) rfl rfl ?_
              refine xV (e_ge (q0 rfl) (q0 rfl)) rfl rfl ?_
              refine XN ?_
              refine thenJ_normal ?_
              refine H_cond rfl (fun hu => ?_) (fun hu => ?_)
              · refine H_seq ?_
                refine R0 ?_
                refine xV (e_as (v := .int _ _) (q0 rfl)) rfl rfl ?_
                refine XN ?_
                refine thenJ_normal ?_
                refine H_ret ?_
                refine thenJ_ret ?_
                refine blockJ_ret ?_
                refine thenJ_ret ?_
                exact ret1 (v := .int _ _) rfl rfl rfl fun w' hw => ⟨ret_int (by rw [hck, if_pos (by rw [hfu]; exact hu)]), hw.1⟩
              · rw [if_neg (by rw [hfu, hu]; decide), hR.riding] at hck
                refine H_skip ?_
                refine thenJ_normal ?_
                refine H_seq ?_
                refine R0 ?_
                refine xV (eS Tryz.isAgg89 Tryz.sizeOf89 (q0 rfl)) rfl rfl ?_
                refine xV (e_fld Tryz.underlying57 rfl Tryz.sizeOf3 rfl (q0 rfl)) rfl rfl ?_
                refine xV (eL Tryz.isAgg3 (q0 rfl)) rfl rfl ?_
                refine xC (en Tryz.call87 (ha2 (q0 rfl) (q0 rfl))) (fun _ w hm => rides_w _ n c B m d r.trips e.rider w (ht.mem hm)) rfl rfl ?_
                refine XN ?_
                refine thenJ_normal ?_
                refine H_cond rfl (fun hq => ?_) (fun hq => ?_)
                · refine H_seq ?_
                  refine R0 ?_
                  refine xV (e_as (v := .int _ _) (q0 rfl)) rfl rfl ?_
                  refine XN ?_
                  refine thenJ_normal ?_
                  refine H_ret ?_
                  refine blockJ_ret ?_
                  refine thenJ_ret ?_
                  exact ret1 (v := .int _ _) rfl rfl rfl fun w' hw => ⟨ret_int (by rw [hck, hq]; rfl), hw.1⟩
                · refine H_skip ?_
                  refine blockJ_normal ?_
                  refine thenJ_normal ?_
                  refine H_seq ?_
                  refine R0 ?_
                  refine xV (e_as (v := .int _ _) (q0 rfl)) rfl rfl ?_
                  refine XN ?_
                  refine thenJ_normal ?_
                  refine H_ret ?_
                  exact ret1 (v := .int _ _) rfl rfl rfl fun w' hw => ⟨ret_int (by rw [hck, hq]; rfl), hw.1⟩
          · refine H_seq ?_
            refine R0 ?_
            refine xV (e_eq (q0 rfl) (q0 rfl)) rfl rfl ?_
            refine xV (e_as (v := .bool _) (q0 rfl)) rfl rfl ?_
            refine XN ?_
            refine thenJ_normal ?_
            refine H_cond rfl (fun h4 => ?_) (fun h4 => ?_)
            · have hk4 : e.kind = 4 := by simpa using h4
              have hck := ck4 (tr := f.trucks) hk4 hx
              refine H_seq ?_
              refine R0 ?_
              refine xV (eS Tryz.isAgg89 Tryz.sizeOf89 (q0 rfl)) rfl rfl ?_
              refine xV (e_fld Tryz.underlying57 rfl Tryz.sizeOf3 rfl (q0 rfl)) rfl rfl ?_
              refine xV (eL Tryz.isAgg3 (q0 rfl)) rfl rfl ?_
              refine xC (en Tryz.call86 (ha2 (q0 rfl) (q0 rfl))) (fun _ w hm => find_w _ n c B m d r.trips e.ride w (ht.mem hm)) rfl rfl ?_
              rcases hR.look e.ride with ⟨hl, hn | ⟨i, t, hfi, hti, ho⟩⟩ | ⟨i, p, hl, hpm, hfi, hti, hb0, hb1, hpa⟩
              · have hv : findI r.trips e.ride = -1 := by unfold findI; rw [hn]
                rw [hl] at hck
                rw [hv]
                refine xV (e_as (v := .int _ _) (q0 rfl)) rfl rfl ?_
                refine XN ?_
                refine thenJ_normal ?_
                refine H_seq ?_
                refine H_seq ?_
                refine R0 ?_
                refine xV (e_mv (v := .int _ _) (q0 rfl)) rfl rfl ?_
                refine xV (e_lt (q0 rfl) (q0 rfl)) rfl rfl ?_
                refine xV (e_mv (v := .bool _) (q0 rfl)) rfl rfl ?_
                refine xVF (e_dead (v := .pointer none) (rfl)) rfl rfl rfl rfl ?_
                refine xVF (e_dead (v := .slice none 0 0) (rfl)) rfl rfl rfl rfl ?_
                refine xVF (e_dead (v := .int .i64 0) (rfl)) rfl rfl rfl rfl ?_
                refine xVF (e_dead (v := .pointer none) (rfl)) rfl rfl rfl rfl ?_
                refine xVF (e_dead (v := .pointer none) (rfl)) rfl rfl rfl rfl ?_
                refine xVF (e_dead (v := .bool false) (rfl)) rfl rfl rfl rfl ?_
                refine xVF (e_dead (v := .bool false) (rfl)) rfl rfl rfl rfl ?_
                refine xV (e_or (q0 rfl) rfl (fun h => by first | rfl | (rw [h]; rfl))) rfl rfl ?_
                refine XN ?_
                refine thenJ_normal ?_
                refine H_cond rfl (fun hb => ?_) (fun hb => ?_)
                · refine H_seq ?_
                  refine R0 ?_
                  refine xV (e_as (v := .int _ _) (q0 rfl)) rfl rfl ?_
                  refine XN ?_
                  refine thenJ_normal ?_
                  refine H_ret ?_
                  refine thenJ_ret ?_
                  refine blockJ_ret ?_
                  refine thenJ_ret ?_
                  exact ret1 (v := .int _ _) rfl rfl rfl fun w' hw => ⟨ret_int hck.symm, hw.1⟩
                · exact absurd hb (by decide)
              · have hv : findI r.trips e.ride = (i : Int) := by unfold findI; rw [hfi]
                rw [hl] at hck
                rw [hv]
                have him : i < m := by have := (List.getElem?_eq_some_iff.1 hti).1; rw [ht.1] at this; exact this
                obtain ⟨b2, off2, y, rfl, hbl2, hyi, hry⟩ := ht.at_ him
                rw [hti] at hyi
                cases hyi
                refine xV (e_as (v := .int _ _) (q0 rfl)) rfl rfl ?_
                refine XN ?_
                refine thenJ_normal ?_
                refine H_seq ?_
                refine H_seq ?_
                refine R0 ?_
                refine xV (e_mv (v := .int _ _) (q0 rfl)) rfl rfl ?_
                refine xV (e_lt (q0 rfl) (q0 rfl)) rfl rfl ?_
                refine xV (e_mv (v := .bool _) (q0 rfl)) rfl rfl ?_
                refine xVF (e_fld Tryz.underlying89 rfl Tryz.sizeOf87 rfl (q0 rfl)) rfl rfl rfl rfl ?_
                refine xVF (eL Tryz.isAgg87 (q1 rfl)) rfl rfl rfl rfl ?_
                refine xVF (e_mv (v := .int _ _) (q0 rfl)) rfl rfl rfl rfl ?_
                refine xVF (e_idx _ Tryz.underlying87 Tryz.sizeOf139 (q1 rfl) (q1 rfl) (fun _ => ⟨rfl, by omega⟩)) rfl rfl rfl rfl ?_
                refine xVF (e_fld Tryz.underlying139 rfl Tryz.sizeOf4 rfl (q1 rfl)) rfl rfl rfl rfl ?_
                refine xVF (eL Tryz.isAgg4 (q1 rfl)) rfl rfl rfl rfl ?_
                refine xVF (e_not (q1 rfl)) rfl rfl rfl rfl ?_
                refine xV (e_or (q0 rfl) rfl (fun h => by first | rfl | (rw [h]; rfl))) rfl rfl ?_
                refine XN ?_
                refine thenJ_normal ?_
                refine H_cond rfl (fun hb => ?_) (fun hb => ?_)
                · refine H_seq ?_
                  refine R0 ?_
                  refine xV (e_as (v := .int _ _) (q0 rfl)) rfl rfl ?_
                  refine XN ?_
                  refine thenJ_normal ?_
                  refine H_ret ?_
                  refine thenJ_ret ?_
                  refine blockJ_ret ?_
                  refine thenJ_ret ?_
                  exact ret1 (v := .int _ _) rfl rfl rfl fun w' hw => ⟨ret_int hck.symm, hw.1⟩
                · rw [ho] at hb; simp at hb
              · have hv : findI r.trips e.ride = (i : Int) := by unfold findI; rw [hfi]
                rw [hl] at hck
                simp only at hck
                rw [hv]
                have him : i < m := by have := (List.getElem?_eq_some_iff.1 hti).1; rw [ht.1] at this; exact this
                obtain ⟨b2, off2, y, rfl, hbl2, hyi, hry⟩ := ht.at_ him
                rw [hti] at hyi
                cases hyi
                obtain ⟨pr, pb, pp⟩ := p
                simp only at hb0 hb1 hpa hry hti
                obtain ⟨j, rfl⟩ : ∃ j : Nat, pb = j := ⟨pb.toNat, by omega⟩
                obtain ⟨y, hyj, hryj⟩ := hs.row (i := j) (by omega)
                rw [hR.spots] at hyj
                rw [Int.toNat_natCast, List.getD_eq_getElem?_getD, hyj] at hpa
                simp only [Option.getD_some] at hpa
                refine xV (e_as (v := .int _ _) (q0 rfl)) rfl rfl ?_
                refine XN ?_
                refine thenJ_normal ?_
                refine H_seq ?_
                refine H_seq ?_
                refine R0 ?_
                refine xV (e_mv (v := .int _ _) (q0 rfl)) rfl rfl ?_
                refine xV (e_lt (q0 rfl) (q0 rfl)) rfl rfl ?_
                refine xV (e_mv (v := .bool _) (q0 rfl)) rfl rfl ?_
                refine xVF (e_fld Tryz.underlying89 rfl Tryz.sizeOf87 rfl (q0 rfl)) rfl rfl rfl rfl ?_
                refine xVF (eL Tryz.isAgg87 (q1 rfl)) rfl rfl rfl rfl ?_
                refine xVF (e_mv (v := .int _ _) (q0 rfl)) rfl rfl rfl rfl ?_
                refine xVF (e_idx _ Tryz.underlying87 Tryz.sizeOf139 (q1 rfl) (q1 rfl) (fun _ => ⟨rfl, by omega⟩)) rfl rfl rfl rfl ?_
                refine xVF (e_fld Tryz.underlying139 rfl Tryz.sizeOf4 rfl (q1 rfl)) rfl rfl rfl rfl ?_
                refine xVF (eL Tryz.isAgg4 (q1 rfl)) rfl rfl rfl rfl ?_
                refine xVF (e_not (q1 rfl)) rfl rfl rfl rfl ?_
                refine xV (e_or (q0 rfl) rfl (fun h => by first | rfl | (rw [h]; rfl))) rfl rfl ?_
                refine XN ?_
                refine thenJ_normal ?_
                refine H_cond rfl (fun hb => ?_) (fun hb => ?_)
                · simp at hb; omega
                · refine H_skip ?_
                  refine thenJ_normal ?_
                  refine H_seq ?_
                  refine H_seq ?_
                  refine R0 ?_
                  refine xV (eS Tryz.isAgg68 Tryz.sizeOf68 (q0 rfl)) rfl rfl ?_
                  refine xC (en Tryz.call84 (ha1 (q0 rfl))) (fun _ w _ => rparked_w x w) rfl rfl ?_
                  refine xV (e_not (q0 rfl)) rfl rfl ?_
                  refine XN ?_
                  refine thenJ_normal ?_
                  refine H_cond rfl (fun hb2 => ?_) (fun hb2 => ?_)
                  · refine H_seq ?_
                    refine R0 ?_
                    refine xV (e_as (v := .int _ _) (q0 rfl)) rfl rfl ?_
                    refine XN ?_
                    refine thenJ_normal ?_
                    refine H_ret ?_
                    refine thenJ_ret ?_
                    refine blockJ_ret ?_
                    refine thenJ_ret ?_
                    exact ret1 (v := .int _ _) rfl rfl rfl fun w' hw => ⟨ret_int (by rw [hck, if_pos (by simpa using hb2)]), hw.1⟩
                  · rw [if_neg (by simpa using hb2)] at hck
                    refine H_skip ?_
                    refine thenJ_normal ?_
                    refine H_seq ?_
                    refine R1 rfl (by decide +kernel) ?_
                    refine xV (e_fld Tryz.underlying89 rfl Tryz.sizeOf52 rfl (q0 rfl)) rfl rfl ?_
                    refine xV (eL Tryz.isAgg52 (q0 rfl)) rfl rfl ?_
                    refine xV (e_fld Tryz.underlying89 rfl Tryz.sizeOf87 rfl (q0 rfl)) rfl rfl ?_
                    refine xV (eL Tryz.isAgg87 (q0 rfl)) rfl rfl ?_
                    refine xV (e_mv (v := .int _ _) (q0 rfl)) rfl rfl ?_
                    refine xV (e_idx _ Tryz.underlying87 Tryz.sizeOf139 (q0 rfl) (q0 rfl) (fun _ => ⟨rfl, by omega⟩)) rfl rfl ?_
                    refine xV (e_fld Tryz.underlying139 rfl Tryz.sizeOf3 rfl (q0 rfl)) rfl rfl ?_
                    refine xV (eL Tryz.isAgg3 (q0 rfl)) rfl rfl ?_
                    refine xV (e_idx _ Tryz.underlying52 Tryz.sizeOf68 (q0 rfl) (q0 rfl) (fun _ => ⟨rfl, by omega⟩)) rfl rfl ?_
                    refine xV (e_fld Tryz.underlying68 rfl Tryz.sizeOf4 rfl (q0 rfl)) rfl rfl ?_
                    refine xV (eL Tryz.isAgg4 (q0 rfl)) rfl rfl ?_
                    refine XN ?_
                    refine thenJ_normal ?_
                    refine H_cond rfl (fun hb3 => ?_) (fun hb3 => ?_)
                    · refine H_seq ?_
                      refine R0 ?_
                      refine xV (e_as (v := .int _ _) (q0 rfl)) rfl rfl ?_
                      refine XN ?_
                      refine thenJ_normal ?_
                      refine H_ret ?_
                      refine blockJ_ret ?_
                      refine thenJ_ret ?_
                      exact ret1 (v := .int _ _) rfl rfl rfl fun w' hw => ⟨ret_int (by rw [hck, ← hpa, hb3]; rfl), hw.1⟩
                    · refine H_skip ?_
                      refine blockJ_normal ?_
                      refine thenJ_normal ?_
                      refine H_seq ?_
                      refine R0 ?_
                      refine xV (e_as (v := .int _ _) (q0 rfl)) rfl rfl ?_
                      refine XN ?_
                      refine thenJ_normal ?_
                      refine H_ret ?_
                      exact ret1 (v := .int _ _) rfl rfl rfl fun w' hw => ⟨ret_int (by rw [hck, ← hpa, hb3]; rfl), hw.1⟩
            · refine H_seq ?_
              refine R0 ?_
              refine xV (e_eq (q0 rfl) (q0 rfl)) rfl rfl ?_
              refine xV (e_as (v := .bool _) (q0 rfl)) rfl rfl ?_
              refine XN ?_
              refine thenJ_normal ?_
              refine H_cond rfl (fun h5 => ?_) (fun h5 => ?_)
              · have hk5 : e.kind = 5 := by simpa using h5
                have hck := ck5 (tr := f.trucks) (.inl hk5) hx
                refine H_seq ?_
                refine H_seq ?_
                refine R0 ?_
                refine xV (e_fld Tryz.underlying68 rfl Tryz.sizeOf3 rfl (q0 rfl)) rfl rfl ?_
                refine xV (eL Tryz.isAgg3 (q0 rfl)) rfl rfl ?_
                refine xV (e_ne (q0 rfl) (q0 rfl)) rfl rfl ?_
                refine XN ?_
                refine thenJ_normal ?_
                refine H_cond rfl (fun hb => ?_) (fun hb => ?_)
                · refine H_seq ?_
                  refine R0 ?_
                  refine xV (e_as (v := .int _ _) (q0 rfl)) rfl rfl ?_
                  refine XN ?_
                  refine thenJ_normal ?_
                  refine H_ret ?_
                  refine thenJ_ret ?_
                  refine blockJ_ret ?_
                  refine thenJ_ret ?_
                  exact ret1 (v := .int _ _) rfl rfl rfl fun w' hw => ⟨ret_int (by rw [hck, if_pos (by simpa using hb)]), hw.1⟩
                · rw [if_neg (by simpa using hb), decide_eq_true hk5] at hck
                  refine H_skip ?_
                  refine thenJ_normal ?_
                  refine H_seq ?_
                  refine R0 ?_
                  refine xV (e_fld Tryz.underlying68 rfl Tryz.sizeOf4 rfl (q0 rfl)) rfl rfl ?_
                  refine xV (eL Tryz.isAgg4 (q0 rfl)) rfl rfl ?_
                  refine XN ?_
                  refine thenJ_normal ?_
                  refine H_cond rfl (fun hb2 => ?_) (fun hb2 => ?_)
                  · refine H_seq ?_
                    refine R0 ?_
                    refine xV (e_as (v := .int _ _) (q0 rfl)) rfl rfl ?_
                    refine XN ?_
                    refine thenJ_normal ?_
                    refine H_ret ?_
                    refine blockJ_ret ?_
                    refine thenJ_ret ?_
                    exact ret1 (v := .int _ _) rfl rfl rfl fun w' hw => ⟨ret_int (by rw [hck, hb2]; rfl), hw.1⟩
                  · refine H_skip ?_
                    refine blockJ_normal ?_
                    refine thenJ_normal ?_
                    refine H_seq ?_
                    refine R0 ?_
                    refine xV (e_as (v := .int _ _) (q0 rfl)) rfl rfl ?_
                    refine XN ?_
                    refine thenJ_normal ?_
                    refine H_ret ?_
                    exact ret1 (v := .int _ _) rfl rfl rfl fun w' hw => ⟨ret_int (by rw [hck, hb2]; rfl), hw.1⟩
              · refine H_seq ?_
                refine R0 ?_
                refine xV (e_eq (q0 rfl) (q0 rfl)) rfl rfl ?_
                refine xV (e_as (v := .bool _) (q0 rfl)) rfl rfl ?_
                refine XN ?_
                refine thenJ_normal ?_
                refine H_cond rfl (fun h6 => ?_) (fun h6 => ?_)
                · have hk6 : e.kind = 6 := by simpa using h6
                  have hck := ck5 (tr := f.trucks) (.inr hk6) hx
                  refine H_seq ?_
                  refine H_seq ?_
                  refine R0 ?_
                  refine xV (e_fld Tryz.underlying68 rfl Tryz.sizeOf3 rfl (q0 rfl)) rfl rfl ?_
                  refine xV (eL Tryz.isAgg3 (q0 rfl)) rfl rfl ?_
                  refine xV (e_ne (q0 rfl) (q0 rfl)) rfl rfl ?_
                  refine XN ?_
                  refine thenJ_normal ?_
                  refine H_cond rfl (fun hb => ?_) (fun hb => ?_)
                  · refine H_seq ?_
                    refine R0 ?_
                    refine xV (e_as (v := .int _ _) (q0 rfl)) rfl rfl ?_
                    refine XN ?_
                    refine thenJ_normal ?_
                    refine H_ret ?_
                    refine thenJ_ret ?_
                    refine blockJ_ret ?_
                    refine thenJ_ret ?_
                    exact ret1 (v := .int _ _) rfl rfl rfl fun w' hw => ⟨ret_int (by rw [hck, if_pos (by simpa using hb)]), hw.1⟩
                  · rw [if_neg (by simpa using hb), decide_eq_false (show ¬ e.kind = 5 by omega)] at hck
                    refine H_skip ?_
                    refine thenJ_normal ?_
                    refine H_seq ?_
                    refine R0 ?_
                    refine xV (e_fld Tryz.underlying68 rfl Tryz.sizeOf4 rfl (q0 rfl)) rfl rfl ?_
                    refine xV (eL Tryz.isAgg4 (q0 rfl)) rfl rfl ?_
                    refine xV (e_not (q0 rfl)) rfl rfl ?_
                    refine XN ?_
                    refine thenJ_normal ?_
                    refine H_cond rfl (fun hb2 => ?_) (fun hb2 => ?_)
                    · refine H_seq ?_
                      refine R0 ?_
                      refine xV (e_as (v := .int _ _) (q0 rfl)) rfl rfl ?_
                      refine XN ?_
                      refine thenJ_normal ?_
                      refine H_ret ?_
                      refine blockJ_ret ?_
                      refine thenJ_ret ?_
                      exact ret1 (v := .int _ _) rfl rfl rfl fun w' hw => ⟨ret_int (by rw [hck, show x.paused = false by simpa using hb2]; rfl), hw.1⟩
                    · refine H_skip ?_
                      refine blockJ_normal ?_
                      refine thenJ_normal ?_
                      refine H_seq ?_
                      refine R0 ?_
                      refine xV (e_as (v := .int _ _) (q0 rfl)) rfl rfl ?_
                      refine XN ?_
                      refine thenJ_normal ?_
                      refine H_ret ?_
                      exact ret1 (v := .int _ _) rfl rfl rfl fun w' hw => ⟨ret_int (by rw [hck, show x.paused = true by simpa using hb2]; rfl), hw.1⟩
                · refine H_seq ?_
                  refine R0 ?_
                  refine xV (e_eq (q0 rfl) (q0 rfl)) rfl rfl ?_
                  refine xV (e_as (v := .bool _) (q0 rfl)) rfl rfl ?_
                  refine XN ?_
                  refine thenJ_normal ?_
                  refine H_cond rfl (fun h7 => ?_) (fun h7 => ?_)
                  · have hk7 : e.kind = 7 := by simpa using h7
                    have hck := ck7 (tr := f.trucks) hk7 hx
                    obtain ⟨hp0, hpn⟩ := hp7 hk7
                    obtain ⟨pk, hpk⟩ : ∃ k : Nat, e.place = k := ⟨e.place.toNat, by omega⟩
                    have htl := hf.trucks.1
                    have hpt : pk < a.tn := by omega
                    obtain ⟨tb, toff, tx, htA, htb, htx, htr⟩ := hf.trucks.at_ hpt
                    have hgd : f.trucks.getD e.place.toNat 0 = tx := by
                      rw [hpk, Int.toNat_natCast, List.getD_eq_getElem?_getD, htx]; rfl
                    refine H_seq ?_
                    refine H_seq ?_
                    refine R0 ?_
                    refine xV (e_fld Tryz.underlying68 rfl Tryz.sizeOf3 rfl (q0 rfl)) rfl rfl ?_
                    refine xV (eL Tryz.isAgg3 (q0 rfl)) rfl rfl ?_
                    refine xV (e_eq (q0 rfl) (q0 rfl)) rfl rfl ?_
                    refine xV (e_mv (v := .bool _) (q0 rfl)) rfl rfl ?_
                    refine xVF (e_fld Tryz.underlying68 rfl Tryz.sizeOf3 rfl (q0 rfl)) rfl rfl rfl rfl ?_
                    refine xVF (eL Tryz.isAgg3 (q1 rfl)) rfl rfl rfl rfl ?_
                    refine xVF (e_eq (q1 rfl) (q0 rfl)) rfl rfl rfl rfl ?_
                    refine xV (e_or (q0 rfl) rfl (fun h => by first | rfl | (rw [h]; rfl))) rfl rfl ?_
                    refine XN ?_
                    refine thenJ_normal ?_
                    refine H_cond rfl (fun hb => ?_) (fun hb => ?_)
                    · refine H_seq ?_
                      refine R0 ?_
                      refine xV (e_as (v := .int _ _) (q0 rfl)) rfl rfl ?_
                      refine XN ?_
                      refine thenJ_normal ?_
                      refine H_ret ?_
                      refine thenJ_ret ?_
                      refine blockJ_ret ?_
                      refine thenJ_ret ?_
                      exact ret1 (v := .int _ _) rfl rfl rfl fun w' hw => ⟨ret_int (by rw [hck]; exact (if_pos hb).symm), hw.1⟩
                    · rw [if_neg (by rw [hb]; decide), hgd] at hck
                      refine H_skip ?_
                      refine thenJ_normal ?_
                      refine H_seq ?_
                      refine R1 rfl (by decide +kernel) ?_
                      refine xV (eS Tryz.isAgg89 Tryz.sizeOf89 (q0 rfl)) rfl rfl ?_
                      refine xV (e_fld Tryz.underlying57 rfl Tryz.sizeOf3 rfl (q0 rfl)) rfl rfl ?_
                      refine xV (eL Tryz.isAgg3 (q0 rfl)) rfl rfl ?_
                      refine xC (en Tryz.call88 (ha2 (q0 rfl) (q0 rfl))) (fun _ w hm => carried_w _ n c B m d r.spots e.place w (hs.mem hm)) rfl rfl ?_
                      rw [hR.spots]
                      refine xV (e_fld Tryz.underlying24 rfl Tryz.sizeOf22 rfl (q0 rfl)) rfl rfl ?_
                      refine xV (e_ld (v := .slice (some ⟨tb, toff, none⟩) a.tn a.tc) Tryz.isAgg22 (q0 rfl) (bx 3 (i := 4) rfl (by show some (Value.slice a.tA a.tn a.tc) = _; rw [htA]))) rfl rfl ?_
                      refine xV (e_fld Tryz.underlying57 rfl Tryz.sizeOf3 rfl (q0 rfl)) rfl rfl ?_
                      refine xV (eL Tryz.isAgg3 (q0 rfl)) rfl rfl ?_
                      refine xV (e_idx pk Tryz.underlying22 Tryz.sizeOf3 (q0 rfl) (q0 rfl) (fun _ => ⟨hpk, hpt⟩)) rfl rfl ?_
                      refine xV (eL Tryz.isAgg3 (q0 rfl)) rfl rfl ?_
                      refine xV (e_ge (q0 rfl) (q0 rfl)) rfl rfl ?_
                      refine XN ?_
                      refine thenJ_normal ?_
                      refine H_cond rfl (fun hb2 => ?_) (fun hb2 => ?_)
                      · refine H_seq ?_
                        refine R0 ?_
                        refine xV (e_as (v := .int _ _) (q0 rfl)) rfl rfl ?_
                        refine XN ?_
                        refine thenJ_normal ?_
                        refine H_ret ?_
                        refine blockJ_ret ?_
                        refine thenJ_ret ?_
                        exact ret1 (v := .int _ _) rfl rfl rfl fun w' hw => ⟨ret_int (by rw [hck, show decide (tx ≤ (countP s.spots 4 e.place : Int)) = true from hb2]; rfl), hw.1⟩
                      · refine H_skip ?_
                        refine blockJ_normal ?_
                        refine thenJ_normal ?_
                        refine H_seq ?_
                        refine R0 ?_
                        refine xV (e_as (v := .int _ _) (q0 rfl)) rfl rfl ?_
                        refine XN ?_
                        refine thenJ_normal ?_
                        refine H_ret ?_
                        exact ret1 (v := .int _ _) rfl rfl rfl fun w' hw => ⟨ret_int (by rw [hck, show decide (tx ≤ (countP s.spots 4 e.place : Int)) = false from hb2]; rfl), hw.1⟩
                  · refine H_seq ?_
                    refine R0 ?_
                    refine xV (e_eq (q0 rfl) (q0 rfl)) rfl rfl ?_
                    refine xV (e_as (v := .bool _) (q0 rfl)) rfl rfl ?_
                    refine XN ?_
                    refine thenJ_normal ?_
                    refine H_cond rfl (fun h8 => ?_) (fun h8 => ?_)
                    · have hk8 : e.kind = 8 := by simpa using h8
                      have hck := ck8 (tr := f.trucks) hk8 hx
                      refine H_seq ?_
                      refine R0 ?_
                      refine xV (e_fld Tryz.underlying68 rfl Tryz.sizeOf3 rfl (q0 rfl)) rfl rfl ?_
                      refine xV (eL Tryz.isAgg3 (q0 rfl)) rfl rfl ?_
                      refine xV (e_eq (q0 rfl) (q0 rfl)) rfl rfl ?_
                      refine xV (e_mv (v := .bool _) (q0 rfl)) rfl rfl ?_
                      refine xVF (e_fld Tryz.underlying68 rfl Tryz.sizeOf3 rfl (q0 rfl)) rfl rfl rfl rfl ?_
                      refine xVF (eL Tryz.isAgg3 (q1 rfl)) rfl rfl rfl rfl ?_
                      refine xVF (e_eq (q1 rfl) (q0 rfl)) rfl rfl rfl rfl ?_
                      refine xV (e_or (q0 rfl) rfl (fun h => by first | rfl | (rw [h]; rfl))) rfl rfl ?_
                      refine XN ?_
                      refine thenJ_normal ?_
                      refine H_cond rfl (fun hb => ?_) (fun hb => ?_)
                      · refine H_seq ?_
                        refine R0 ?_
                        refine xV (e_as (v := .int _ _) (q0 rfl)) rfl rfl ?_
                        refine XN ?_
                        refine thenJ_normal ?_
                        refine H_ret ?_
                        refine blockJ_ret ?_
                        refine thenJ_ret ?_
                        exact ret1 (v := .int _ _) rfl rfl rfl fun w' hw => ⟨ret_int (by rw [hck, show (decide (x.where_ = 3) || decide (x.where_ = 5)) = true from hb]; rfl), hw.1⟩
                      · refine H_skip ?_
                        refine blockJ_normal ?_
                        refine thenJ_normal ?_
                        refine H_seq ?_
                        refine R0 ?_
                        refine xV (e_as (v := .int _ _) (q0 rfl)) rfl rfl ?_
                        refine XN ?_
                        refine thenJ_normal ?_
                        refine H_ret ?_
                        exact ret1 (v := .int _ _) rfl rfl rfl fun w' hw => ⟨ret_int (by rw [hck, show (decide (x.where_ = 3) || decide (x.where_ = 5)) = false from hb]; rfl), hw.1⟩
                    · refine H_seq ?_
                      refine R0 ?_
                      refine xV (e_eq (q0 rfl) (q0 rfl)) rfl rfl ?_
                      refine xV (e_as (v := .bool _) (q0 rfl)) rfl rfl ?_
                      refine XN ?_
                      refine thenJ_normal ?_
                      refine H_cond rfl (fun h9 => ?_) (fun h9 => ?_)
                      · have hk9 : e.kind = 9 := by simpa using h9
                        have hck := ck9 (tr := f.trucks) hk9 hx
                        refine H_seq ?_
                        refine R0 ?_
                        refine xV (e_fld Tryz.underlying68 rfl Tryz.sizeOf3 rfl (q0 rfl)) rfl rfl ?_
                        refine xV (eL Tryz.isAgg3 (q0 rfl)) rfl rfl ?_
                        refine xV (e_eq (q0 rfl) (q0 rfl)) rfl rfl ?_
                        refine xV (e_mv (v := .bool _) (q0 rfl)) rfl rfl ?_
                        refine xVF (e_fld Tryz.underlying68 rfl Tryz.sizeOf3 rfl (q0 rfl)) rfl rfl rfl rfl ?_
                        refine xVF (eL Tryz.isAgg3 (q1 rfl)) rfl rfl rfl rfl ?_
                        refine xVF (e_eq (q1 rfl) (q0 rfl)) rfl rfl rfl rfl ?_
                        refine xV (e_or (q0 rfl) rfl (fun h => by first | rfl | (rw [h]; rfl))) rfl rfl ?_
                        refine XN ?_
                        refine thenJ_normal ?_
                        refine H_cond rfl (fun hb => ?_) (fun hb => ?_)
                        · refine H_seq ?_
                          refine R0 ?_
                          refine xV (e_as (v := .int _ _) (q0 rfl)) rfl rfl ?_
                          refine XN ?_
                          refine thenJ_normal ?_
                          refine H_ret ?_
                          refine blockJ_ret ?_
                          refine thenJ_ret ?_
                          exact ret1 (v := .int _ _) rfl rfl rfl fun w' hw => ⟨ret_int (by rw [hck, show (decide (x.where_ = 5) || decide (x.where_ = 6)) = true from hb]; rfl), hw.1⟩
                        · refine H_skip ?_
                          refine blockJ_normal ?_
                          refine thenJ_normal ?_
                          refine H_seq ?_
                          refine R0 ?_
                          refine xV (e_as (v := .int _ _) (q0 rfl)) rfl rfl ?_
                          refine XN ?_
                          refine thenJ_normal ?_
                          refine H_ret ?_
                          exact ret1 (v := .int _ _) rfl rfl rfl fun w' hw => ⟨ret_int (by rw [hck, show (decide (x.where_ = 5) || decide (x.where_ = 6)) = false from hb]; rfl), hw.1⟩
                      · exfalso
                        simp at h1 h2 h3 h4 h5 h6 h7 h8 h9
                        omega

end Go.Proofs.Cus

/-
  The walks: the reference's state, made and turned.
-/
namespace Go.Proofs.Cus
open Go Go.RowKit Go.Proofs.E

/-- where a state of the reference lies -/
structure RX where
  A : Option Addr
  c : Nat
  B : Option Addr
  d : Nat
def RX.val (x : RX) (r : RS) : List Value := rsV x.A r.spots.length x.c x.B r.trips.length x.d
abbrev rsItems (x : RX) (r : RS) : List E.Item := [spRow x.A x.c r.spots, rtRow x.B x.d r.trips]
abbrev rsBox (b : Nat) (cs : List Value) : E.Item := box b 89 cs
def RX0 : RX := ⟨none, 0, none, 0⟩

theorem rbegin_w (f : Fl) (a : FA) (n : Nat) (hn : f.bikes = n) (hn1 : n ≤ 1000) (w : World) : Calls Tryz.prog 59 #[.agg (f.cells a).toArray] w fun e w' => ∃ x : RX, e = .returned (.agg (x.val (beginR n)).toArray) ∧ Mem w (rsItems x (beginR n)) w' := by
  refine H_enter Tryz.func59 rfl Tryz.ntmps59 rfl ?_
  refine H_seq ?_
  refine R0 ?_
  refine X_box (v := .agg _) rfl rfl fun b1 => ?_
  refine X_alloc Tryz.zeroValue89 rfl fun b2 => ?_
  refine XN ?_
  refine thenJ_normal ?_
  refine H_seq ?_
  refine R0 ?_
  refine xV (e_build Tryz.underlying89 fl89 Tryz.zeroValue89 E.p0 rfl) rfl rfl ?_
  refine X_alloc Tryz.zeroValue89 rfl fun b3 => ?_
  refine X_st (v := .agg _) rfl rfl Tryz.sizeOf89 ?_
  refine XN ?_
  refine thenJ_normal ?_
  refine H_seq ?_
  refine H_seq ?_
  refine R0 ?_
  refine xV (e_as (v := .int _ _) (q0 rfl)) rfl rfl ?_
  refine XN ?_
  refine thenJ_normal ?_
  refine H_block ?_
  refine H_loop [4, 6, 7, 8, 9, 10, 11, 12, 13, 14, 15, 16, 17] (fun s : Nat × Option Addr × Nat => [(4, .int .i64 s.1)]) (fun s => [spRow s.2.1 s.2.2 (List.replicate s.1 shopS), rsBox b3 (rsV s.2.1 (List.replicate s.1 shopS).length s.2.2 none 0 0), rsBox b2 (rsV none 0 0 none 0 0), box b1 24 (f.cells a)]) (fun s => s.1 ≤ n) (fun s => n - s.1) (0, none, 0) ⟨rfl, trivial⟩ (fun w hw => hw.nilRow _ _ _ rfl) rfl (Nat.zero_le _) ?_
  rintro ⟨k, A, c⟩ g hk
  simp only at hk
  refine H_seq ?_
  refine H_seq ?_
  refine R0 ?_
  refine xV (e_mv (v := .int _ _) (q0 rfl)) rfl rfl ?_
  refine xV (e_fld Tryz.underlying24 rfl Tryz.sizeOf3 rfl (q0 rfl)) rfl rfl ?_
  refine xV (eL Tryz.isAgg3 (q0 rfl)) rfl rfl ?_
  refine xV (e_lt (q0 rfl) (q0 rfl)) rfl rfl ?_
  refine XN ?_
  refine thenJ_normal ?_
  refine H_cond rfl (fun hlt => ?_) (fun hlt => ?_)
  · have hlt' : k < n := by simp at hlt; omega
    have hrep : List.replicate k shopS ++ [shopS] = List.replicate (k + 1) shopS := by rw [List.replicate_succ']
    refine H_skip ?_
    refine thenJ_normal ?_
    refine H_seq ?_
    refine H_block ?_
    refine R0 ?_
    refine xV (e_fld Tryz.underlying89 rfl Tryz.sizeOf52 rfl (q0 rfl)) rfl rfl ?_
    refine xV (eL Tryz.isAgg52 (q0 rfl)) rfl rfl ?_
    refine xV (e_build Tryz.underlying68 fl68 Tryz.zeroValue68 (pt (v := .int _ _) rfl E.p0) rfl) rfl rfl ?_
    refine X_push (k := 4) (i := Tryz.t68) 0 (shopS) Tryz.underlying52 (by kernel_rfl) rfl rfl rfl rfl Tryz.sizeOf68 Tryz.zeroValue68 rfl rfl rfl rfl rfl rfl ⟨by simp; omega, by decide⟩ rfl rfl fun B A1 c1 => ?_
    rw [hrep]
    refine xV (e_fld Tryz.underlying89 rfl Tryz.sizeOf52 rfl (q0 rfl)) rfl rfl ?_
    refine X_st (v := .slice _ _ _) rfl rfl Tryz.sizeOf52 ?_
    refine XN ?_
    refine blockJ_normal ?_
    refine thenJ_normal ?_
    refine R0 ?_
    refine xV (e_mv (v := .int _ _) (q0 rfl)) rfl rfl ?_
    refine xV (e_add (q0 rfl) (q0 rfl) (fun _ => ⟨rfl, by omega, by omega⟩)) rfl rfl ?_
    refine xV (e_as (v := .int _ _) (q0 rfl)) rfl rfl ?_
    refine XN ?_
    exact loopJ_normal (k + 1, A1, c1) (by repeat (first | exact agree_self | exact agree_over | refine agree_upd rfl ?_ | refine agree_updL rfl ?_ | refine agree_over2 rfl ?_)) ⟨rfl, trivial⟩ (fun w hw => hw) rfl (by show k + 1 ≤ n; omega) (by show n - (k + 1) < n - k; omega)
  · have hkn : k = n := by simp at hlt; omega
    subst hkn
    refine H_exit ?_
    refine thenJ_exit ?_
    refine loopJ_exit ?_
    refine blockJ_hit ?_
    refine thenJ_normal ?_
    refine H_seq ?_
    refine R0 ?_
    refine xV (eS Tryz.isAgg89 Tryz.sizeOf89 (q0 rfl)) rfl rfl ?_
    refine X_st (v := .agg _) rfl rfl Tryz.sizeOf89 ?_
    refine XN ?_
    refine thenJ_normal ?_
    refine H_ret ?_
    exact ret_of rfl (resc1 2 rfl rfl Tryz.isAgg89 Tryz.sizeOf89 rfl rfl) fun w' hw => ⟨⟨A, c, none, 0⟩, rfl, ((hw.pick [0] (by decide)).nilRow 139 4 RT.cells rfl).mv1⟩

set_option maxRecDepth 20000 in
theorem copied_w (A : Option Addr) (n c : Nat) (B : Option Addr) (m d : Nat) (r : RS) (w : World) (hs : SpotsAt w A n r.spots) (ht : TripsAt w B m r.trips) (hn : n ≤ 10000) (hm : m ≤ 10000) :
    Calls Tryz.prog 90 #[.agg (rsV A n c B m d).toArray] w fun e w' => ∃ x : RX, e = .returned (.agg (x.val r).toArray) ∧ Mem w (rsItems x r) w' := by
  have hl1 := hs.1
  have hl2 := ht.1
  refine H_enter Tryz.func90 rfl Tryz.ntmps90 rfl ?_
  refine H_seq ?_
  refine R0 ?_
  refine X_box (v := .agg _) rfl rfl fun b1 => ?_
  refine X_alloc Tryz.zeroValue89 rfl fun b2 => ?_
  refine XN ?_
  refine thenJ_normal ?_
  refine H_seq ?_
  refine H_cut [3, 4, 5, 6, 7, 8, 9, 10, 11] (fun _ : RX => []) (fun x => [spRow x.A x.c r.spots, rtRow x.B x.d r.trips, rsBox b2 (x.val r), rsBox b1 (rsV A n c B m d)]) (fun _ => True) ?_ ?_
  · refine RAd 1 rfl (by decide +kernel) ?_
    refine aV 1 (by decide +kernel) rfl (e_fld Tryz.underlying89 rfl Tryz.sizeOf52 rfl (q0 rfl)) rfl ?_
    refine aV 2 (by decide +kernel) rfl (eL Tryz.isAgg52 (q0 rfl)) rfl ?_
    refine aV 5 (by decide +kernel) rfl (e_fld Tryz.underlying89 rfl Tryz.sizeOf87 rfl (q0 rfl)) rfl ?_
    refine aV 6 (by decide +kernel) rfl (eL Tryz.isAgg87 (q0 rfl)) rfl ?_
    refine rdy2 (i := 0) (j := 4) (by decide +kernel) (sub_drop 1) ?_ ?_
    · refine aL rfl (f_slit0 Sp.cells Tryz.underlying52 Tryz.sizeOf68 rfl fun A0 c0 => ?_)
      refine rdy2 (i := 3) (j := 4) (by decide +kernel) (sub_drop 2) ?_ ?_
      · refine aL rfl (f_append (k := 4) (i := Tryz.t68) (enc := Sp.cells) 0 Tryz.underlying52 (by kernel_rfl) rfl rfl rfl rfl (fun _ => rfl) (fun _ => rfl) rfl rfl rfl (fun w hw => hs.mem hw) ⟨by simp; omega, by decide⟩ rfl fun A3 c3 => ?_)
        refine rdy1 (i := 4) (by decide +kernel) (sub_drop 2) ?_
        refine aL rfl (f_slit0 RT.cells Tryz.underlying87 Tryz.sizeOf139 rfl fun A4 c4 => ?_)
        refine aI 1 ?_
        refine rdy1 (i := 7) (by decide +kernel) (sub_drop 3) ?_
        (first | refine aL rfl (f_append (k := 4) (i := Tryz.t139) (enc := RT.cells) 0 Tryz.underlying87 (by kernel_rfl) rfl rfl rfl rfl (fun _ => rfl) (fun _ => rfl) rfl rfl rfl (fun w hw => ht.mem hw) ⟨by simp; omega, by decide⟩ rfl fun A7 c7 => ?_) | refine aL rfl (f_append (k := 4) (i := Tryz.t139) (enc := RT.cells) 1 Tryz.underlying87 (by kernel_rfl) rfl rfl rfl rfl (fun _ => rfl) (fun _ => rfl) rfl rfl rfl (fun w hw => ht.mem hw) ⟨by simp; omega, by decide⟩ rfl fun A7 c7 => ?_))
        refine aV 8 (by decide +kernel) rfl (e_build Tryz.underlying89 fl89 Tryz.zeroValue89 (pt (v := .slice _ _ _) rfl (pt (v := .slice _ _ _) rfl E.p0)) rfl) rfl ?_
        refine rdy1 (i := 9) (by decide +kernel) (sub_drop 3) ?_
        refine aL rfl (f_st (v := .agg _) rfl rfl Tryz.sizeOf89 ?_)
        refine aZ (by decide +kernel) (sub_drop 3) ?_
        exact cutJ_normal (⟨A3, c3, A7, c7⟩ : RX) (by repeat (first | exact agree_self | exact agree_over | refine agree_upd rfl ?_ | refine agree_updL rfl ?_ | refine agree_over2 rfl ?_)) trivial (fun w hw => hw) rfl trivial
      · refine aL rfl (f_slit0 RT.cells Tryz.underlying87 Tryz.sizeOf139 rfl fun A4 c4 => ?_)
        refine aI 1 ?_
        refine rdy1 (i := 3) (by decide +kernel) (sub_drop 3) ?_
        refine aL rfl (f_append (k := 4) (i := Tryz.t68) (enc := Sp.cells) 0 Tryz.underlying52 (by kernel_rfl) rfl rfl rfl rfl (fun _ => rfl) (fun _ => rfl) rfl rfl rfl (fun w hw => hs.mem hw) ⟨by simp; omega, by decide⟩ rfl fun A3 c3 => ?_)
        refine rdy1 (i := 7) (by decide +kernel) (sub_drop 3) ?_
        (first | refine aL rfl (f_append (k := 4) (i := Tryz.t139) (enc := RT.cells) 0 Tryz.underlying87 (by kernel_rfl) rfl rfl rfl rfl (fun _ => rfl) (fun _ => rfl) rfl rfl rfl (fun w hw => ht.mem hw) ⟨by simp; omega, by decide⟩ rfl fun A7 c7 => ?_) | refine aL rfl (f_append (k := 4) (i := Tryz.t139) (enc := RT.cells) 1 Tryz.underlying87 (by kernel_rfl) rfl rfl rfl rfl (fun _ => rfl) (fun _ => rfl) rfl rfl rfl (fun w hw => ht.mem hw) ⟨by simp; omega, by decide⟩ rfl fun A7 c7 => ?_))
        refine aV 8 (by decide +kernel) rfl (e_build Tryz.underlying89 fl89 Tryz.zeroValue89 (pt (v := .slice _ _ _) rfl (pt (v := .slice _ _ _) rfl E.p0)) rfl) rfl ?_
        refine rdy1 (i := 9) (by decide +kernel) (sub_drop 3) ?_
        refine aL rfl (f_st (v := .agg _) rfl rfl Tryz.sizeOf89 ?_)
        refine aZ (by decide +kernel) (sub_drop 3) ?_
        exact cutJ_normal (⟨A3, c3, A7, c7⟩ : RX) (by repeat (first | exact agree_self | exact agree_over | refine agree_upd rfl ?_ | refine agree_updL rfl ?_ | refine agree_over2 rfl ?_)) trivial (fun w hw => hw) rfl trivial
    · refine aL rfl (f_slit0 RT.cells Tryz.underlying87 Tryz.sizeOf139 rfl fun A4 c4 => ?_)
      refine rdy1 (i := 0) (by decide +kernel) (sub_drop 2) ?_
      refine aL rfl (f_slit0 Sp.cells Tryz.underlying52 Tryz.sizeOf68 rfl fun A0 c0 => ?_)
      refine rdy1 (i := 3) (by decide +kernel) (sub_drop 3) ?_
      refine aL rfl (f_append (k := 4) (i := Tryz.t68) (enc := Sp.cells) 0 Tryz.underlying52 (by kernel_rfl) rfl rfl rfl rfl (fun _ => rfl) (fun _ => rfl) rfl rfl rfl (fun w hw => hs.mem hw) ⟨by simp; omega, by decide⟩ rfl fun A3 c3 => ?_)
      refine rdy1 (i := 7) (by decide +kernel) (sub_drop 3) ?_
      (first | refine aL rfl (f_append (k := 4) (i := Tryz.t139) (enc := RT.cells) 0 Tryz.underlying87 (by kernel_rfl) rfl rfl rfl rfl (fun _ => rfl) (fun _ => rfl) rfl rfl rfl (fun w hw => ht.mem hw) ⟨by simp; omega, by decide⟩ rfl fun A7 c7 => ?_) | refine aL rfl (f_append (k := 4) (i := Tryz.t139) (enc := RT.cells) 1 Tryz.underlying87 (by kernel_rfl) rfl rfl rfl rfl (fun _ => rfl) (fun _ => rfl) rfl rfl rfl (fun w hw => ht.mem hw) ⟨by simp; omega, by decide⟩ rfl fun A7 c7 => ?_))
      refine aV 8 (by decide +kernel) rfl (e_build Tryz.underlying89 fl89 Tryz.zeroValue89 (pt (v := .slice _ _ _) rfl (pt (v := .slice _ _ _) rfl E.p0)) rfl) rfl ?_
      refine rdy1 (i := 9) (by decide +kernel) (sub_drop 3) ?_
      refine aL rfl (f_st (v := .agg _) rfl rfl Tryz.sizeOf89 ?_)
      refine aZ (by decide +kernel) (sub_drop 3) ?_
      exact cutJ_normal (⟨A3, c3, A7, c7⟩ : RX) (by repeat (first | exact agree_self | exact agree_over | refine agree_upd rfl ?_ | refine agree_updL rfl ?_ | refine agree_over2 rfl ?_)) trivial (fun w hw => hw) rfl trivial
  · intro x g _
    refine thenJ_normal ?_
    refine H_ret ?_
    exact ret_of rfl (resc1 2 rfl rfl Tryz.isAgg89 Tryz.sizeOf89 rfl rfl) fun w' hw => ⟨x, rfl, hw.pick [0, 1] (by decide)⟩

end Go.Proofs.Cus

/-
  The walks: the reference's state after an event.
-/
namespace Go.Proofs.Cus
open Go Go.RowKit Go.Proofs.E

set_option maxRecDepth 20000 in
theorem put_w (A : Option Addr) (n c : Nat) (B : Option Addr) (m d : Nat) (s : PS) (r : RS) (bike : Int) (k : Nat) (to : Sp) (w : World) (hs : SpotsAt w A n r.spots) (ht : TripsAt w B m r.trips) (hn : n ≤ 10000) (hm : m ≤ 10000) (hR : Rel n s r) (hb : bike = (k : Int)) (hk : k < n) :
    Calls Tryz.prog 89 #[.agg (rsV A n c B m d).toArray, .int .i64 bike, .agg to.cells.toArray] w fun e w' => ∃ x : RX, e = .returned (.agg (x.val (putR r k to)).toArray) ∧ Mem w (rsItems x (putR r k to)) w' := by
  subst hb
  have hl1 := hs.1
  have hl2 := ht.1
  obtain ⟨x, hxk⟩ : ∃ x, r.spots[k]? = some x := ⟨_, List.getElem?_eq_getElem (by omega)⟩
  have hg : r.spots.getD k default = x := by rw [List.getD_eq_getElem?_getD, hxk]; rfl
  have hxk' := hxk
  rw [hR.spots] at hxk'
  refine H_enter Tryz.func89 rfl Tryz.ntmps89 rfl ?_
  refine H_seq ?_
  refine R0 ?_
  refine X_box (v := .agg _) rfl rfl fun b3 => ?_
  refine X_box (v := .agg _) rfl rfl fun b5 => ?_
  refine X_alloc Tryz.zeroValue89 rfl fun b6 => ?_
  refine XN ?_
  refine thenJ_normal ?_
  refine H_seq ?_
  refine R0 ?_
  refine xV (eS Tryz.isAgg89 Tryz.sizeOf89 (q0 rfl)) rfl rfl ?_
  refine xCX (en Tryz.call90 (ha1 (q0 rfl))) (fun w hw => copied_w A n c B m d r w (hs.mem hw) (ht.mem hw) hn hm) rfl (fun _ => rfl) fun y => ?_
  refine X_alloc Tryz.zeroValue89 rfl fun b7 => ?_
  refine X_st (v := .agg _) rfl rfl Tryz.sizeOf89 ?_
  refine XN ?_
  refine thenJ_normal ?_
  refine H_seq ?_
  refine H_seq ?_
  refine H_know (fun w hw => rowT_at (j := 1) hw rfl (by omega)) fun ⟨yb, hyb⟩ => ?_
  obtain ⟨yA, yc, yB, yd⟩ := y
  simp only at hyb
  subst hyb
  refine R0 ?_
  refine xV (e_fld Tryz.underlying89 rfl Tryz.sizeOf52 rfl (q0 rfl)) rfl rfl ?_
  refine xV (eL Tryz.isAgg52 (q0 rfl)) rfl rfl ?_
  refine xV (e_mv (v := .int _ _) (q0 rfl)) rfl rfl ?_
  refine xV (e_idx _ Tryz.underlying52 Tryz.sizeOf68 (q0 rfl) (q0 rfl) (fun _ => ⟨rfl, by omega⟩)) rfl rfl ?_
  refine xV (e_fld Tryz.underlying68 rfl Tryz.sizeOf3 rfl (q0 rfl)) rfl rfl ?_
  refine xV (eL Tryz.isAgg3 (q0 rfl)) rfl rfl ?_
  refine xV (e_eq (q0 rfl) (q0 rfl)) rfl rfl ?_
  refine XN ?_
  refine thenJ_normal ?_
  refine H_cond rfl (fun h3 => ?_) (fun h3 => ?_)
  · have hx3 : x.where_ = 3 := by simpa using h3
    obtain ⟨i, p, hfi, hpm, hti, hpb⟩ := hR.ride hxk' hx3
    have hv : findI r.trips x.ride = (i : Int) := by unfold findI; rw [hfi]
    have him : i < r.trips.length := (List.getElem?_eq_some_iff.1 hti).1
    refine H_know (fun w hw => rowT_at (j := 2) hw rfl (by omega)) fun ⟨yb2, hyb2⟩ => ?_
    simp only at hyb2
    subst hyb2
    have hput : putR r k to = ⟨r.spots.set k to, r.trips.set i ⟨x.ride, p.rider, p.bike, false⟩⟩ := by
      unfold putR; rw [hg, if_pos hx3, hfi]; simp only [Option.getD_some]; unfold closeT; rw [hti]
    rw [hput]
    refine E.RT rfl rfl (by decide +kernel) ?_
    refine xV (e_fld Tryz.underlying89 rfl Tryz.sizeOf87 rfl (q0 rfl)) rfl rfl ?_
    refine xV (eL Tryz.isAgg87 (q0 rfl)) rfl rfl ?_
    refine xV (eS Tryz.isAgg89 Tryz.sizeOf89 (q0 rfl)) rfl rfl ?_
    refine xV (e_fld Tryz.underlying89 rfl Tryz.sizeOf52 rfl (q0 rfl)) rfl rfl ?_
    refine xV (eL Tryz.isAgg52 (q0 rfl)) rfl rfl ?_
    refine xV (e_mv (v := .int _ _) (q0 rfl)) rfl rfl ?_
    refine xV (e_idx _ Tryz.underlying52 Tryz.sizeOf68 (q0 rfl) (q0 rfl) (fun _ => ⟨rfl, by omega⟩)) rfl rfl ?_
    refine xV (e_fld Tryz.underlying68 rfl Tryz.sizeOf3 rfl (q0 rfl)) rfl rfl ?_
    refine xV (eL Tryz.isAgg3 (q0 rfl)) rfl rfl ?_
    refine xC (en Tryz.call86 (ha2 (q0 rfl) (q0 rfl))) (fun _ w hm => find_w A n c B m d r.trips x.ride w (ht.mem hm)) rfl rfl ?_
    rw [hv]
    refine xV (e_idx i Tryz.underlying87 Tryz.sizeOf139 (q0 rfl) (q0 rfl) (fun _ => ⟨rfl, him⟩)) rfl rfl ?_
    refine xV (e_fld Tryz.underlying139 rfl Tryz.sizeOf4 rfl (q0 rfl)) rfl rfl ?_
    refine XN ?_
    refine thenJ_normal ?_
    refine X_eff (f_storeR 2 (off := 3) ⟨x.ride, p.rider, p.bike, false⟩ rfl rfl Tryz.sizeOf4 rfl rfl rfl hti rfl rfl ?_)
    refine XN ?_
    refine thenJ_normal ?_
    refine H_seq ?_
    refine R0 ?_
    refine xV (e_fld Tryz.underlying89 rfl Tryz.sizeOf52 rfl (q0 rfl)) rfl rfl ?_
    refine xV (eL Tryz.isAgg52 (q0 rfl)) rfl rfl ?_
    refine xV (e_mv (v := .int _ _) (q0 rfl)) rfl rfl ?_
    refine xV (eS Tryz.isAgg68 Tryz.sizeOf68 (q0 rfl)) rfl rfl ?_
    refine xV (e_idx _ Tryz.underlying52 Tryz.sizeOf68 (q0 rfl) (q0 rfl) (fun _ => ⟨rfl, by omega⟩)) rfl rfl ?_
    refine X_eff (f_storeR0 1 to rfl rfl Tryz.sizeOf68 rfl rfl rfl hxk rfl rfl ?_)
    refine XN ?_
    refine thenJ_normal ?_
    refine H_seq ?_
    refine R0 ?_
    refine xV (eS Tryz.isAgg89 Tryz.sizeOf89 (q0 rfl)) rfl rfl ?_
    refine X_st (v := .agg _) rfl rfl Tryz.sizeOf89 ?_
    refine XN ?_
    refine thenJ_normal ?_
    refine H_ret ?_
    exact ret_of rfl (resc1 3 rfl rfl Tryz.isAgg89 Tryz.sizeOf89 rfl rfl) fun w' hw => ⟨⟨_, yc, _, yd⟩, by simp [RX.val]; rfl, hw.pick [1, 2] (by decide)⟩
  · have hx3 : ¬ x.where_ = 3 := by simpa using h3
    have hput : putR r k to = ⟨r.spots.set k to, r.trips⟩ := by
      unfold putR; rw [hg, if_neg hx3]
    rw [hput]
    refine H_skip ?_
    refine thenJ_normal ?_
    refine H_seq ?_
    refine R0 ?_
    refine xV (e_fld Tryz.underlying89 rfl Tryz.sizeOf52 rfl (q0 rfl)) rfl rfl ?_
    refine xV (eL Tryz.isAgg52 (q0 rfl)) rfl rfl ?_
    refine xV (e_mv (v := .int _ _) (q0 rfl)) rfl rfl ?_
    refine xV (eS Tryz.isAgg68 Tryz.sizeOf68 (q0 rfl)) rfl rfl ?_
    refine xV (e_idx _ Tryz.underlying52 Tryz.sizeOf68 (q0 rfl) (q0 rfl) (fun _ => ⟨rfl, by omega⟩)) rfl rfl ?_
    refine X_eff (f_storeR0 1 to rfl rfl Tryz.sizeOf68 rfl rfl rfl hxk rfl rfl ?_)
    refine XN ?_
    refine thenJ_normal ?_
    refine H_seq ?_
    refine R0 ?_
    refine xV (eS Tryz.isAgg89 Tryz.sizeOf89 (q0 rfl)) rfl rfl ?_
    refine X_st (v := .agg _) rfl rfl Tryz.sizeOf89 ?_
    refine XN ?_
    refine thenJ_normal ?_
    refine H_ret ?_
    exact ret_of rfl (resc1 3 rfl rfl Tryz.isAgg89 Tryz.sizeOf89 rfl rfl) fun w' hw => ⟨⟨_, yc, yB, yd⟩, by simp [RX.val]; rfl, hw.pick [1, 2] (by decide)⟩

end Go.Proofs.Cus

/-
  The walks: the reference's state after an event.
-/
namespace Go.Proofs.Cus
open Go Go.RowKit Go.Proofs.E

theorem ap1 {r : RS} {e : Ev} (h : e.kind = 1) : applyR r e = putR r e.bike.toNat ⟨1, e.place, 0, false⟩ := by unfold applyR; simp only; rw [if_pos h]
theorem ap2 {r : RS} {e : Ev} (h : e.kind = 2) : applyR r e = putR r e.bike.toNat ⟨2, e.place, 0, false⟩ := by unfold applyR; simp only; rw [if_neg (by omega), if_pos h]
theorem ap7 {r : RS} {e : Ev} (h : e.kind = 7) : applyR r e = putR r e.bike.toNat ⟨4, e.place, 0, false⟩ := by unfold applyR; simp only; rw [if_neg (by omega), if_neg (by omega), if_pos h]
theorem ap8 {r : RS} {e : Ev} (h : e.kind = 8) : applyR r e = putR r e.bike.toNat ⟨5, 0, 0, false⟩ := by unfold applyR; simp only; rw [if_neg (by omega), if_neg (by omega), if_neg (by omega), if_pos h]
theorem ap9 {r : RS} {e : Ev} (h : e.kind = 9) : applyR r e = putR r e.bike.toNat ⟨6, 0, 0, false⟩ := by unfold applyR; simp only; rw [if_neg (by omega), if_neg (by omega), if_neg (by omega), if_neg (by omega), if_pos h]
theorem ap3 {r : RS} {e : Ev} (h : e.kind = 3) : applyR r e = { spots := r.spots.set e.bike.toNat ⟨3, 0, e.ride, false⟩, trips := r.trips ++ [⟨e.ride, e.rider, e.bike, true⟩] } := by unfold applyR; simp only; rw [if_neg (by omega), if_neg (by omega), if_neg (by omega), if_neg (by omega), if_neg (by omega), if_pos h]
theorem ap4 {r : RS} {e : Ev} (h : e.kind = 4) {i : Nat} {t : RT} (hi : findT r.trips e.ride = some i) (ht : r.trips[i]? = some t) : applyR r e = { spots := (r.spots.set t.bike.toNat (r.spots.getD e.bike.toNat default)).set e.bike.toNat ⟨3, 0, e.ride, false⟩, trips := r.trips.set i { t with bike := e.bike } } := by
  unfold applyR; simp only; rw [if_neg (by omega), if_neg (by omega), if_neg (by omega), if_neg (by omega), if_neg (by omega), if_neg (by omega), if_pos h, hi, Option.getD_some]
  have : r.trips.getD i default = t := by rw [List.getD_eq_getElem?_getD, ht]; rfl
  rw [this]
theorem ap5 {r : RS} {e : Ev} (h : e.kind = 5) : applyR r e = { r with spots := r.spots.set e.bike.toNat { (r.spots.getD e.bike.toNat default) with paused := true } } := by unfold applyR; simp only; rw [if_neg (by omega), if_neg (by omega), if_neg (by omega), if_neg (by omega), if_neg (by omega), if_neg (by omega), if_neg (by omega), if_pos h]
theorem ap6 {r : RS} {e : Ev} (h : e.kind = 6) : applyR r e = { r with spots := r.spots.set e.bike.toNat { (r.spots.getD e.bike.toNat default) with paused := false } } := by unfold applyR; simp only; rw [if_neg (by omega), if_neg (by omega), if_neg (by omega), if_neg (by omega), if_neg (by omega), if_neg (by omega), if_neg (by omega), if_neg (by omega), if_pos h]

attribute [local irreducible] putR
set_option maxRecDepth 20000 in
theorem apply_w (A : Option Addr) (n c : Nat) (B : Option Addr) (m d : Nat) (tr : List Int) (s : PS) (r : RS) (e : Ev) (w : World) (hs : SpotsAt w A n r.spots) (ht : TripsAt w B m r.trips) (hn : n ≤ 10000) (hm : m ≤ 10000) (hR : Rel n s r) (hb : 0 ≤ e.bike ∧ e.bike < n) (hc : checkP tr s e = 0) (hkd : 1 ≤ e.kind ∧ e.kind ≤ 9) :
    Calls Tryz.prog 61 #[.agg (rsV A n c B m d).toArray, .agg e.cells.toArray] w fun q w' => ∃ x : RX, q = .returned (.agg (x.val (applyR r e)).toArray) ∧ Mem w (rsItems x (applyR r e)) w' := by
  have hl1 := hs.1
  have hl2 := ht.1
  obtain ⟨k, hk⟩ : ∃ k : Nat, e.bike = k := ⟨e.bike.toNat, by omega⟩
  have hkt : e.bike.toNat = k := by omega
  have hkn : k < n := by omega
  obtain ⟨x, hxk⟩ : ∃ x, r.spots[k]? = some x := ⟨_, List.getElem?_eq_getElem (by omega)⟩
  have hg : r.spots.getD k default = x := by rw [List.getD_eq_getElem?_getD, hxk]; rfl
  have hxk' := hxk
  rw [hR.spots] at hxk'
  have hx : s.spots.getD e.bike.toNat default = x := by rw [hkt, List.getD_eq_getElem?_getD, hxk']; rfl
  refine H_enter Tryz.func61 rfl Tryz.ntmps61 rfl ?_
  refine H_seq ?_
  refine R0 ?_
  refine X_box (v := .agg _) rfl rfl fun b2 => ?_
  refine X_box (v := .agg _) rfl rfl fun b3 => ?_
  refine X_alloc Tryz.zeroValue89 rfl fun b4 => ?_
  refine XN ?_
  refine thenJ_normal ?_
  refine H_seq ?_
  refine H_seq ?_
  refine R0 ?_
  refine xV (e_fld Tryz.underlying57 rfl Tryz.sizeOf3 rfl (q0 rfl)) rfl rfl ?_
  refine xV (eL Tryz.isAgg3 (q0 rfl)) rfl rfl ?_
  refine XN ?_
  refine thenJ_normal ?_
  refine H_block ?_
  refine H_seq ?_
  refine R0 ?_
  refine xV (e_eq (q0 rfl) (q0 rfl)) rfl rfl ?_
  refine xV (e_as (v := .bool _) (q0 rfl)) rfl rfl ?_
  refine XN ?_
  refine thenJ_normal ?_
  refine H_cond rfl (fun h1 => ?_) (fun h1 => ?_)
  · rw [ap1 (by simpa using h1), hkt]
    refine H_seq ?_
    refine R0 ?_
    refine xV (eS Tryz.isAgg89 Tryz.sizeOf89 (q0 rfl)) rfl rfl ?_
    refine xV (e_fld Tryz.underlying57 rfl Tryz.sizeOf3 rfl (q0 rfl)) rfl rfl ?_
    refine xV (eL Tryz.isAgg3 (q0 rfl)) rfl rfl ?_
    refine xV (e_fld Tryz.underlying57 rfl Tryz.sizeOf3 rfl (q0 rfl)) rfl rfl ?_
    refine xV (eL Tryz.isAgg3 (q0 rfl)) rfl rfl ?_
    refine xV (e_build Tryz.underlying68 fl68 Tryz.zeroValue68 (pt (v := .int _ _) rfl (pt (v := .int _ _) rfl E.p0)) rfl) rfl rfl ?_
    refine xCX (en Tryz.call89 (ha3 (q0 rfl) (q0 rfl) (q0 rfl))) (fun w hw => put_w A n c B m d s r e.bike k ⟨1, e.place, 0, false⟩ w (hs.mem hw) (ht.mem hw) hn hm hR hk hkn) rfl (fun _ => rfl) fun y => ?_
    refine X_st (v := .agg _) rfl rfl Tryz.sizeOf89 ?_
    refine XN ?_
    refine thenJ_normal ?_
    refine H_ret ?_
    refine blockJ_ret ?_
    refine thenJ_ret ?_
    exact ret_of rfl (resc1 2 rfl rfl Tryz.isAgg89 Tryz.sizeOf89 rfl rfl) fun w' hw => ⟨y, rfl, hw.pick [0, 1] (by decide)⟩
  · refine H_seq ?_
    refine R0 ?_
    refine xV (e_eq (q0 rfl) (q0 rfl)) rfl rfl ?_
    refine xV (e_as (v := .bool _) (q0 rfl)) rfl rfl ?_
    refine XN ?_
    refine thenJ_normal ?_
    refine H_cond rfl (fun h2 => ?_) (fun h2 => ?_)
    · rw [ap2 (by simpa using h2), hkt]
      refine H_seq ?_
      refine R0 ?_
      refine xV (eS Tryz.isAgg89 Tryz.sizeOf89 (q0 rfl)) rfl rfl ?_
      refine xV (e_fld Tryz.underlying57 rfl Tryz.sizeOf3 rfl (q0 rfl)) rfl rfl ?_
      refine xV (eL Tryz.isAgg3 (q0 rfl)) rfl rfl ?_
      refine xV (e_fld Tryz.underlying57 rfl Tryz.sizeOf3 rfl (q0 rfl)) rfl rfl ?_
      refine xV (eL Tryz.isAgg3 (q0 rfl)) rfl rfl ?_
      refine xV (e_build Tryz.underlying68 fl68 Tryz.zeroValue68 (pt (v := .int _ _) rfl (pt (v := .int _ _) rfl E.p0)) rfl) rfl rfl ?_
      refine xCX (en Tryz.call89 (ha3 (q0 rfl) (q0 rfl) (q0 rfl))) (fun w hw => put_w A n c B m d s r e.bike k ⟨2, e.place, 0, false⟩ w (hs.mem hw) (ht.mem hw) hn hm hR hk hkn) rfl (fun _ => rfl) fun y => ?_
      refine X_st (v := .agg _) rfl rfl Tryz.sizeOf89 ?_
      refine XN ?_
      refine thenJ_normal ?_
      refine H_ret ?_
      refine blockJ_ret ?_
      refine thenJ_ret ?_
      exact ret_of rfl (resc1 2 rfl rfl Tryz.isAgg89 Tryz.sizeOf89 rfl rfl) fun w' hw => ⟨y, rfl, hw.pick [0, 1] (by decide)⟩
    · refine H_seq ?_
      refine R0 ?_
      refine xV (e_eq (q0 rfl) (q0 rfl)) rfl rfl ?_
      refine xV (e_as (v := .bool _) (q0 rfl)) rfl rfl ?_
      refine XN ?_
      refine thenJ_normal ?_
      refine H_cond rfl (fun h7 => ?_) (fun h7 => ?_)
      · rw [ap7 (by simpa using h7), hkt]
        refine H_seq ?_
        refine R0 ?_
        refine xV (eS Tryz.isAgg89 Tryz.sizeOf89 (q0 rfl)) rfl rfl ?_
        refine xV (e_fld Tryz.underlying57 rfl Tryz.sizeOf3 rfl (q0 rfl)) rfl rfl ?_
        refine xV (eL Tryz.isAgg3 (q0 rfl)) rfl rfl ?_
        refine xV (e_fld Tryz.underlying57 rfl Tryz.sizeOf3 rfl (q0 rfl)) rfl rfl ?_
        refine xV (eL Tryz.isAgg3 (q0 rfl)) rfl rfl ?_
        refine xV (e_build Tryz.underlying68 fl68 Tryz.zeroValue68 (pt (v := .int _ _) rfl (pt (v := .int _ _) rfl E.p0)) rfl) rfl rfl ?_
        refine xCX (en Tryz.call89 (ha3 (q0 rfl) (q0 rfl) (q0 rfl))) (fun w hw => put_w A n c B m d s r e.bike k ⟨4, e.place, 0, false⟩ w (hs.mem hw) (ht.mem hw) hn hm hR hk hkn) rfl (fun _ => rfl) fun y => ?_
        refine X_st (v := .agg _) rfl rfl Tryz.sizeOf89 ?_
        refine XN ?_
        refine thenJ_normal ?_
        refine H_ret ?_
        refine blockJ_ret ?_
        refine thenJ_ret ?_
        exact ret_of rfl (resc1 2 rfl rfl Tryz.isAgg89 Tryz.sizeOf89 rfl rfl) fun w' hw => ⟨y, rfl, hw.pick [0, 1] (by decide)⟩
      · refine H_seq ?_
        refine R0 ?_
        refine xV (e_eq (q0 rfl) (q0 rfl)) rfl rfl ?_
        refine xV (e_as (v := .bool _) (q0 rfl)) rfl rfl ?_
        refine XN ?_
        refine thenJ_normal ?_
        refine H_cond rfl (fun h8 => ?_) (fun h8 => ?_)
        · rw [ap8 (by simpa using h8), hkt]
          refine H_seq ?_
          refine R0 ?_
          refine xV (eS Tryz.isAgg89 Tryz.sizeOf89 (q0 rfl)) rfl rfl ?_
          refine xV (e_fld Tryz.underlying57 rfl Tryz.sizeOf3 rfl (q0 rfl)) rfl rfl ?_
          refine xV (eL Tryz.isAgg3 (q0 rfl)) rfl rfl ?_
          refine xV (e_build Tryz.underlying68 fl68 Tryz.zeroValue68 (pt (v := .int _ _) rfl E.p0) rfl) rfl rfl ?_
          refine xCX (en Tryz.call89 (ha3 (q0 rfl) (q0 rfl) (q0 rfl))) (fun w hw => put_w A n c B m d s r e.bike k ⟨5, 0, 0, false⟩ w (hs.mem hw) (ht.mem hw) hn hm hR hk hkn) rfl (fun _ => rfl) fun y => ?_
          refine X_st (v := .agg _) rfl rfl Tryz.sizeOf89 ?_
          refine XN ?_
          refine thenJ_normal ?_
          refine H_ret ?_
          refine blockJ_ret ?_
          refine thenJ_ret ?_
          exact ret_of rfl (resc1 2 rfl rfl Tryz.isAgg89 Tryz.sizeOf89 rfl rfl) fun w' hw => ⟨y, rfl, hw.pick [0, 1] (by decide)⟩
        · refine H_seq ?_
          refine R0 ?_
          refine xV (e_eq (q0 rfl) (q0 rfl)) rfl rfl ?_
          refine xV (e_as (v := .bool _) (q0 rfl)) rfl rfl ?_
          refine XN ?_
          refine thenJ_normal ?_
          refine H_cond rfl (fun h9 => ?_) (fun h9 => ?_)
          · rw [ap9 (by simpa using h9), hkt]
            refine H_seq ?_
            refine R0 ?_
            refine xV (eS Tryz.isAgg89 Tryz.sizeOf89 (q0 rfl)) rfl rfl ?_
            refine xV (e_fld Tryz.underlying57 rfl Tryz.sizeOf3 rfl (q0 rfl)) rfl rfl ?_
            refine xV (eL Tryz.isAgg3 (q0 rfl)) rfl rfl ?_
            refine xV (e_build Tryz.underlying68 fl68 Tryz.zeroValue68 (pt (v := .int _ _) rfl E.p0) rfl) rfl rfl ?_
            refine xCX (en Tryz.call89 (ha3 (q0 rfl) (q0 rfl) (q0 rfl))) (fun w hw => put_w A n c B m d s r e.bike k ⟨6, 0, 0, false⟩ w (hs.mem hw) (ht.mem hw) hn hm hR hk hkn) rfl (fun _ => rfl) fun y => ?_
            refine X_st (v := .agg _) rfl rfl Tryz.sizeOf89 ?_
            refine XN ?_
            refine thenJ_normal ?_
            refine H_ret ?_
            refine blockJ_ret ?_
            refine thenJ_ret ?_
            exact ret_of rfl (resc1 2 rfl rfl Tryz.isAgg89 Tryz.sizeOf89 rfl rfl) fun w' hw => ⟨y, rfl, hw.pick [0, 1] (by decide)⟩
          · refine H_skip ?_
            refine blockJ_normal ?_
            refine thenJ_normal ?_
            refine H_seq ?_
            refine R0 ?_
            refine xV (eS Tryz.isAgg89 Tryz.sizeOf89 (q0 rfl)) rfl rfl ?_
            refine xCX (en Tryz.call90 (ha1 (q0 rfl))) (fun w hw => copied_w A n c B m d r w (hs.mem hw) (ht.mem hw) hn hm) rfl (fun _ => rfl) fun y => ?_
            refine X_alloc Tryz.zeroValue89 rfl fun b5 => ?_
            refine X_st (v := .agg _) rfl rfl Tryz.sizeOf89 ?_
            refine XN ?_
            refine thenJ_normal ?_
            refine H_seq ?_
            refine H_seq ?_
            refine H_know (fun w hw => rowT_at (j := 1) hw rfl (by omega)) fun ⟨yb, hyb⟩ => ?_
            obtain ⟨yA, yc, yB, yd⟩ := y
            simp only at hyb
            subst hyb
            refine R0 ?_
            refine xV (e_fld Tryz.underlying57 rfl Tryz.sizeOf3 rfl (q0 rfl)) rfl rfl ?_
            refine xV (eL Tryz.isAgg3 (q0 rfl)) rfl rfl ?_
            refine XN ?_
            refine thenJ_normal ?_
            refine H_block ?_
            refine H_seq ?_
            refine R0 ?_
            refine xV (e_eq (q0 rfl) (q0 rfl)) rfl rfl ?_
            refine xV (e_as (v := .bool _) (q0 rfl)) rfl rfl ?_
            refine XN ?_
            refine thenJ_normal ?_
            refine H_cond rfl (fun h3 => ?_) (fun h3 => ?_)
            · rw [ap3 (by simpa using h3), hkt]
              refine H_seq ?_
              refine R0 ?_
              refine xV (e_fld Tryz.underlying89 rfl Tryz.sizeOf52 rfl (q0 rfl)) rfl rfl ?_
              refine xV (eL Tryz.isAgg52 (q0 rfl)) rfl rfl ?_
              refine xV (e_fld Tryz.underlying57 rfl Tryz.sizeOf3 rfl (q0 rfl)) rfl rfl ?_
              refine xV (eL Tryz.isAgg3 (q0 rfl)) rfl rfl ?_
              refine xV (e_fld Tryz.underlying57 rfl Tryz.sizeOf3 rfl (q0 rfl)) rfl rfl ?_
              refine xV (eL Tryz.isAgg3 (q0 rfl)) rfl rfl ?_
              refine xV (e_build Tryz.underlying68 fl68 Tryz.zeroValue68 (pt (v := .int _ _) rfl (pt (v := .int _ _) rfl E.p0)) rfl) rfl rfl ?_
              refine xV (e_idx k Tryz.underlying52 Tryz.sizeOf68 (q0 rfl) (q0 rfl) (fun _ => ⟨hk, by omega⟩)) rfl rfl ?_
              refine X_eff (f_storeR0 1 ⟨3, 0, e.ride, false⟩ rfl rfl Tryz.sizeOf68 rfl rfl rfl hxk rfl rfl ?_)
              refine XN ?_
              refine thenJ_normal ?_
              refine R0 ?_
              refine xV (e_fld Tryz.underlying89 rfl Tryz.sizeOf87 rfl (q0 rfl)) rfl rfl ?_
              refine xV (eL Tryz.isAgg87 (q0 rfl)) rfl rfl ?_
              refine xV (e_fld Tryz.underlying57 rfl Tryz.sizeOf3 rfl (q0 rfl)) rfl rfl ?_
              refine xV (eL Tryz.isAgg3 (q0 rfl)) rfl rfl ?_
              refine xV (e_fld Tryz.underlying57 rfl Tryz.sizeOf3 rfl (q0 rfl)) rfl rfl ?_
              refine xV (eL Tryz.isAgg3 (q0 rfl)) rfl rfl ?_
              refine xV (e_fld Tryz.underlying57 rfl Tryz.sizeOf3 rfl (q0 rfl)) rfl rfl ?_
              refine xV (eL Tryz.isAgg3 (q0 rfl)) rfl rfl ?_
              refine xV (e_build Tryz.underlying139 fl139 Tryz.zeroValue139 (pt (v := .int _ _) rfl (pt (v := .int _ _) rfl (pt (v := .int _ _) rfl (pt (v := .bool _) rfl E.p0)))) rfl) rfl rfl ?_
              refine X_push (k := 4) (i := Tryz.t139) 2 (⟨e.ride, e.rider, e.bike, true⟩) Tryz.underlying87 (by kernel_rfl) rfl rfl rfl rfl Tryz.sizeOf139 Tryz.zeroValue139 rfl rfl rfl rfl rfl rfl ⟨by omega, by decide⟩ rfl rfl fun PB A1 c1 => ?_
              refine xV (e_fld Tryz.underlying89 rfl Tryz.sizeOf87 rfl (q0 rfl)) rfl rfl ?_
              refine X_st (v := .slice _ _ _) rfl rfl Tryz.sizeOf87 ?_
              refine XN ?_
              refine blockJ_normal ?_
              refine thenJ_normal ?_
              refine H_seq ?_
              refine R0 ?_
              refine xV (eS Tryz.isAgg89 Tryz.sizeOf89 (q0 rfl)) rfl rfl ?_
              refine X_st (v := .agg _) rfl rfl Tryz.sizeOf89 ?_
              refine XN ?_
              refine thenJ_normal ?_
              refine H_ret ?_
              exact ret_of rfl (resc1 3 rfl rfl Tryz.isAgg89 Tryz.sizeOf89 rfl rfl) fun w' hw => ⟨⟨_, yc, A1, c1⟩, by simp [RX.val]; rfl, hw.pick [1, 2] (by decide)⟩
            · refine H_seq ?_
              refine R0 ?_
              refine xV (e_eq (q0 rfl) (q0 rfl)) rfl rfl ?_
              refine xV (e_as (v := .bool _) (q0 rfl)) rfl rfl ?_
              refine XN ?_
              refine thenJ_normal ?_
              refine H_cond rfl (fun h4 => ?_) (fun h4 => ?_)
              · have hk4 : e.kind = 4 := by simpa using h4
                have hck := ck4 (tr := tr) hk4 hx
                rw [hc] at hck
                rcases hR.look e.ride with ⟨hl, _⟩ | ⟨i, p, hl, hpm, hfi, hti, hb0, hb1, hpa⟩
                · rw [hl] at hck; cases hck
                · rw [hl] at hck
                  simp only at hck
                  obtain ⟨pr, pb, pp⟩ := p
                  simp only at hb0 hb1 hpa hti hck
                  obtain ⟨j, rfl⟩ : ∃ j : Nat, pb = j := ⟨pb.toNat, by omega⟩
                  have hv : findI r.trips e.ride = (i : Int) := by unfold findI; rw [hfi]
                  have him : i < m := by have := (List.getElem?_eq_some_iff.1 hti).1; omega
                  obtain ⟨ob, ooff, ox, rfl, hobl, hoi, hor⟩ := ht.at_ him
                  rw [hti] at hoi
                  cases hoi
                  obtain ⟨sb, soff, sx, rfl, hsbl, hsi, hsr⟩ := hs.at_ hkn
                  rw [hxk] at hsi
                  cases hsi
                  obtain ⟨xj, hxj⟩ : ∃ xj, r.spots[j]? = some xj := ⟨_, List.getElem?_eq_getElem (by omega)⟩
                  have hjk : j ≠ k := fun ejk => by
                    obtain ⟨_, z, hz, z3, _⟩ := hR.inv.bike _ hpm
                    simp only [Int.toNat_natCast] at hz
                    rw [ejk, hxk'] at hz
                    cases hz
                    split at hck
                    · cases hck
                    · rename_i hpk; exact parked_no3 (by simpa using hpk) z3
                  have hxk2 : (r.spots.set j x)[k]? = some x := by rw [List.getElem?_set, if_neg hjk]; exact hxk
                  rw [ap4 hk4 hfi hti, hkt, Int.toNat_natCast, hg]
                  refine H_seq ?_
                  refine R0 ?_
                  refine xV (eS Tryz.isAgg89 Tryz.sizeOf89 (q0 rfl)) rfl rfl ?_
                  refine xV (e_fld Tryz.underlying57 rfl Tryz.sizeOf3 rfl (q0 rfl)) rfl rfl ?_
                  refine xV (eL Tryz.isAgg3 (q0 rfl)) rfl rfl ?_
                  refine xC (en Tryz.call86 (ha2 (q0 rfl) (q0 rfl))) (fun _ w hm => find_w _ n c _ m d r.trips e.ride w (ht.mem hm)) rfl rfl ?_
                  rw [hv]
                  refine X_know (fun w hw => rowT_at (j := 2) hw rfl (by omega)) fun ⟨yb2, hyb2⟩ => ?_
                  simp only at hyb2
                  subst hyb2
                  refine xV (e_as (v := .int _ _) (q0 rfl)) rfl rfl ?_
                  refine XN ?_
                  refine thenJ_normal ?_
                  refine H_seq ?_
                  refine E.RT rfl rfl (by decide +kernel) ?_
                  refine xV (e_fld Tryz.underlying89 rfl Tryz.sizeOf52 rfl (q0 rfl)) rfl rfl ?_
                  refine xV (eL Tryz.isAgg52 (q0 rfl)) rfl rfl ?_
                  refine xV (e_fld Tryz.underlying89 rfl Tryz.sizeOf87 rfl (q0 rfl)) rfl rfl ?_
                  refine xV (eL Tryz.isAgg87 (q0 rfl)) rfl rfl ?_
                  refine xV (e_mv (v := .int _ _) (q0 rfl)) rfl rfl ?_
                  refine xV (e_idx _ Tryz.underlying87 Tryz.sizeOf139 (q0 rfl) (q0 rfl) (fun _ => ⟨rfl, by omega⟩)) rfl rfl ?_
                  refine xV (e_fld Tryz.underlying139 rfl Tryz.sizeOf3 rfl (q0 rfl)) rfl rfl ?_
                  refine xV (eL Tryz.isAgg3 (q0 rfl)) rfl rfl ?_
                  refine xV (e_fld Tryz.underlying89 rfl Tryz.sizeOf52 rfl (q0 rfl)) rfl rfl ?_
                  refine xV (eL Tryz.isAgg52 (q0 rfl)) rfl rfl ?_
                  refine xV (e_fld Tryz.underlying57 rfl Tryz.sizeOf3 rfl (q0 rfl)) rfl rfl ?_
                  refine xV (eL Tryz.isAgg3 (q0 rfl)) rfl rfl ?_
                  refine xV (e_idx k Tryz.underlying52 Tryz.sizeOf68 (q0 rfl) (q0 rfl) (fun _ => ⟨hk, hkn⟩)) rfl rfl ?_
                  refine xV (eS Tryz.isAgg68 Tryz.sizeOf68 (q0 rfl)) rfl rfl ?_
                  refine xV (e_idx j Tryz.underlying52 Tryz.sizeOf68 (q0 rfl) (q0 rfl) (fun _ => ⟨rfl, by omega⟩)) rfl rfl ?_
                  refine XN ?_
                  refine thenJ_normal ?_
                  refine X_eff (f_storeR0 1 x rfl rfl Tryz.sizeOf68 rfl rfl rfl hxj rfl rfl ?_)
                  refine XN ?_
                  refine thenJ_normal ?_
                  refine H_seq ?_
                  refine R0 ?_
                  refine xV (e_fld Tryz.underlying89 rfl Tryz.sizeOf52 rfl (q0 rfl)) rfl rfl ?_
                  refine xV (eL Tryz.isAgg52 (q0 rfl)) rfl rfl ?_
                  refine xV (e_fld Tryz.underlying57 rfl Tryz.sizeOf3 rfl (q0 rfl)) rfl rfl ?_
                  refine xV (eL Tryz.isAgg3 (q0 rfl)) rfl rfl ?_
                  refine xV (e_fld Tryz.underlying57 rfl Tryz.sizeOf3 rfl (q0 rfl)) rfl rfl ?_
                  refine xV (eL Tryz.isAgg3 (q0 rfl)) rfl rfl ?_
                  refine xV (e_build Tryz.underlying68 fl68 Tryz.zeroValue68 (pt (v := .int _ _) rfl (pt (v := .int _ _) rfl E.p0)) rfl) rfl rfl ?_
                  refine xV (e_idx k Tryz.underlying52 Tryz.sizeOf68 (q0 rfl) (q0 rfl) (fun _ => ⟨hk, by omega⟩)) rfl rfl ?_
                  refine X_eff (f_storeR0 1 ⟨3, 0, e.ride, false⟩ rfl rfl Tryz.sizeOf68 rfl rfl rfl hxk2 rfl rfl ?_)
                  refine XN ?_
                  refine thenJ_normal ?_
                  refine R0 ?_
                  refine xV (e_fld Tryz.underlying89 rfl Tryz.sizeOf87 rfl (q0 rfl)) rfl rfl ?_
                  refine xV (eL Tryz.isAgg87 (q0 rfl)) rfl rfl ?_
                  refine xV (e_mv (v := .int _ _) (q0 rfl)) rfl rfl ?_
                  refine xV (e_fld Tryz.underlying57 rfl Tryz.sizeOf3 rfl (q0 rfl)) rfl rfl ?_
                  refine xV (eL Tryz.isAgg3 (q0 rfl)) rfl rfl ?_
                  refine xV (e_idx i Tryz.underlying87 Tryz.sizeOf139 (q0 rfl) (q0 rfl) (fun _ => ⟨rfl, by omega⟩)) rfl rfl ?_
                  refine xV (e_fld Tryz.underlying139 rfl Tryz.sizeOf3 rfl (q0 rfl)) rfl rfl ?_
                  refine X_eff (f_storeR 2 (off := 2) ⟨e.ride, pr, e.bike, true⟩ rfl rfl Tryz.sizeOf3 rfl rfl rfl hti rfl rfl ?_)
                  refine XN ?_
                  refine blockJ_normal ?_
                  refine thenJ_normal ?_
                  refine H_seq ?_
                  refine R0 ?_
                  refine xV (eS Tryz.isAgg89 Tryz.sizeOf89 (q0 rfl)) rfl rfl ?_
                  refine X_st (v := .agg _) rfl rfl Tryz.sizeOf89 ?_
                  refine XN ?_
                  refine thenJ_normal ?_
                  refine H_ret ?_
                  exact ret_of rfl (resc1 3 rfl rfl Tryz.isAgg89 Tryz.sizeOf89 rfl rfl) fun w' hw => ⟨⟨_, yc, _, yd⟩, by simp [RX.val]; rfl, hw.pick [1, 2] (by decide)⟩
              · refine H_seq ?_
                refine R0 ?_
                refine xV (e_eq (q0 rfl) (q0 rfl)) rfl rfl ?_
                refine xV (e_as (v := .bool _) (q0 rfl)) rfl rfl ?_
                refine XN ?_
                refine thenJ_normal ?_
                refine H_cond rfl (fun h5 => ?_) (fun h5 => ?_)
                · rw [ap5 (by simpa using h5), hkt, hg]
                  refine R0 ?_
                  refine xV (e_fld Tryz.underlying89 rfl Tryz.sizeOf52 rfl (q0 rfl)) rfl rfl ?_
                  refine xV (eL Tryz.isAgg52 (q0 rfl)) rfl rfl ?_
                  refine xV (e_fld Tryz.underlying57 rfl Tryz.sizeOf3 rfl (q0 rfl)) rfl rfl ?_
                  refine xV (eL Tryz.isAgg3 (q0 rfl)) rfl rfl ?_
                  refine xV (e_idx k Tryz.underlying52 Tryz.sizeOf68 (q0 rfl) (q0 rfl) (fun _ => ⟨hk, by omega⟩)) rfl rfl ?_
                  refine xV (e_fld Tryz.underlying68 rfl Tryz.sizeOf4 rfl (q0 rfl)) rfl rfl ?_
                  refine X_eff (f_storeR 1 (off := 3) { x with paused := true } rfl rfl Tryz.sizeOf4 rfl rfl rfl hxk rfl rfl ?_)
                  refine XN ?_
                  refine blockJ_normal ?_
                  refine thenJ_normal ?_
                  refine H_seq ?_
                  refine R0 ?_
                  refine xV (eS Tryz.isAgg89 Tryz.sizeOf89 (q0 rfl)) rfl rfl ?_
                  refine X_st (v := .agg _) rfl rfl Tryz.sizeOf89 ?_
                  refine XN ?_
                  refine thenJ_normal ?_
                  refine H_ret ?_
                  exact ret_of rfl (resc1 3 rfl rfl Tryz.isAgg89 Tryz.sizeOf89 rfl rfl) fun w' hw => ⟨⟨_, yc, yB, yd⟩, by simp [RX.val]; rfl, hw.pick [1, 2] (by decide)⟩
                · refine H_seq ?_
                  refine R0 ?_
                  refine xV (e_eq (q0 rfl) (q0 rfl)) rfl rfl ?_
                  refine xV (e_as (v := .bool _) (q0 rfl)) rfl rfl ?_
                  refine XN ?_
                  refine thenJ_normal ?_
                  refine H_cond rfl (fun h6 => ?_) (fun h6 => ?_)
                  · rw [ap6 (by simpa using h6), hkt, hg]
                    refine R0 ?_
                    refine xV (e_fld Tryz.underlying89 rfl Tryz.sizeOf52 rfl (q0 rfl)) rfl rfl ?_
                    refine xV (eL Tryz.isAgg52 (q0 rfl)) rfl rfl ?_
                    refine xV (e_fld Tryz.underlying57 rfl Tryz.sizeOf3 rfl (q0 rfl)) rfl rfl ?_
                    refine xV (eL Tryz.isAgg3 (q0 rfl)) rfl rfl ?_
                    refine xV (e_idx k Tryz.underlying52 Tryz.sizeOf68 (q0 rfl) (q0 rfl) (fun _ => ⟨hk, by omega⟩)) rfl rfl ?_
                    refine xV (e_fld Tryz.underlying68 rfl Tryz.sizeOf4 rfl (q0 rfl)) rfl rfl ?_
                    refine X_eff (f_storeR 1 (off := 3) { x with paused := false } rfl rfl Tryz.sizeOf4 rfl rfl rfl hxk rfl rfl ?_)
                    refine XN ?_
                    refine blockJ_normal ?_
                    refine thenJ_normal ?_
                    refine H_seq ?_
                    refine R0 ?_
                    refine xV (eS Tryz.isAgg89 Tryz.sizeOf89 (q0 rfl)) rfl rfl ?_
                    refine X_st (v := .agg _) rfl rfl Tryz.sizeOf89 ?_
                    refine XN ?_
                    refine thenJ_normal ?_
                    refine H_ret ?_
                    exact ret_of rfl (resc1 3 rfl rfl Tryz.isAgg89 Tryz.sizeOf89 rfl rfl) fun w' hw => ⟨⟨_, yc, yB, yd⟩, by simp [RX.val]; rfl, hw.pick [1, 2] (by decide)⟩
                  · exfalso
                    simp at h1 h2 h3 h4 h5 h6 h7 h8 h9
                    omega

end Go.Proofs.Cus

/-
  The walks: the reference's run, and what it tells.
-/
namespace Go.Proofs.Cus
open Go Go.RowKit Go.Proofs.E

theorem step_err {f : Fl} {s : PS} {e : Ev} (h : errR f s e ≠ 0) : stepR f s e = (s, some (errR f s e)) := by
  by_cases h0 : evErr f e = 0
  · by_cases h1 : e.kind = 10
    · exact absurd (by unfold errR; rw [if_neg (fun h => h h0), if_pos h1]) h
    · have he : errR f s e = checkP f.trucks s e := by unfold errR; rw [if_neg (fun h => h h0), if_neg h1]
      rw [he] at h ⊢
      unfold stepR
      rw [if_neg (fun ⟨_, h⟩ => h1 h)]
      simp only
      rw [if_pos h0, if_neg h]
  · have he : errR f s e = evErr f e := by unfold errR; rw [if_pos h0]
    rw [he]
    unfold stepR
    rw [if_neg (fun ⟨h, _⟩ => h0 h)]
    simp only
    rw [if_neg h0, if_neg h0]
theorem step_do {f : Fl} {s : PS} {e : Ev} (h : errR f s e = 0) (hk : e.kind ≠ 10) : stepR f s e = (doP s e, some 0) ∧ evErr f e = 0 ∧ checkP f.trucks s e = 0 := by
  unfold errR at h
  by_cases h0 : evErr f e = 0
  · rw [if_neg (by rw [h0]; decide), if_neg hk] at h
    refine ⟨?_, h0, h⟩
    unfold stepR
    rw [if_neg (fun ⟨_, h⟩ => hk h)]
    simp only
    rw [if_pos h0, h, if_pos rfl]
  · rw [if_pos h0] at h; exact absurd h h0
theorem step_beat {f : Fl} {s : PS} {e : Ev} (h : errR f s e = 0) (hk : e.kind = 10) : stepR f s e = (s, none) := by
  unfold errR at h
  by_cases h0 : evErr f e = 0
  · unfold stepR; rw [if_pos ⟨h0, hk⟩]
  · rw [if_pos h0] at h; exact absurd h h0
theorem runR_fst {σ τ : Type} {f : Fl} {cb : σ → PS → Ev → Int → σ} {cb2 : τ → PS → Ev → Int → τ} : ∀ (l : List Ev) (s : PS) (z : σ) (y : τ), (runR f cb l (s, z)).1 = (runR f cb2 l (s, y)).1
  | [], _, _, _ => rfl
  | e :: l, s, z, y => by
    show (runR f cb l (tellR cb z e (stepR f s e))).1 = (runR f cb2 l (tellR cb2 y e (stepR f s e))).1
    have h1 : ∀ p : PS × σ, p = (p.1, p.2) := fun _ => rfl
    have h2 : ∀ p : PS × τ, p = (p.1, p.2) := fun _ => rfl
    rw [h1 (tellR cb z e (stepR f s e)), h2 (tellR cb2 y e (stepR f s e)), tellR_fst, tellR_fst]
    exact runR_fst l _ _ _

/-- the run, step by step: the states, what is accepted, what is rejected -/
structure Steps (f : Fl) (ys : List Ev) (S : Nat → PS) (Ac : Nat → List Ev) (Rj_ : Nat → List Rj) : Prop where
  s0 : S 0 = beginP (nbOf f)
  a0 : Ac 0 = []
  r0 : Rj_ 0 = []
  st : ∀ k e, ys[k]? = some e → S (k + 1) = (stepR f (S k) e).1 ∧ Ac (k + 1) = (match (stepR f (S k) e).2 with | some er => if er = 0 then Ac k ++ [e] else Ac k | none => Ac k) ∧ Rj_ (k + 1) = (match (stepR f (S k) e).2 with | some er => if er ≠ 0 then Rj_ k ++ [⟨e.device, e.seq, er⟩] else Rj_ k | none => Rj_ k)
theorem steps_of (f : Fl) (ys : List Ev) : ∃ S Ac Rj_, Steps f ys S Ac Rj_ ∧ (∀ k, S k = (runR f nobCb (ys.take k) (beginP (nbOf f), ())).1) ∧ Ac ys.length = (runR f accCb ys (beginP (nbOf f), [])).2 ∧ Rj_ ys.length = (runR f rejCb ys (beginP (nbOf f), [])).2 := by
  refine ⟨fun k => (runR f nobCb (ys.take k) (beginP (nbOf f), ())).1, fun k => (runR f accCb (ys.take k) (beginP (nbOf f), [])).2, fun k => (runR f rejCb (ys.take k) (beginP (nbOf f), [])).2, ⟨rfl, rfl, rfl, fun k e he => ?_⟩, fun _ => rfl, by simp only [List.take_length], by simp only [List.take_length]⟩
  rw [runR_snoc ys _ k e he, runR_snoc ys _ k e he, runR_snoc ys _ k e he]
  rw [runR_fst (cb2 := nobCb) (y := ()) (ys.take k) (beginP (nbOf f)) ([] : List Ev), runR_fst (cb2 := nobCb) (y := ()) (ys.take k) (beginP (nbOf f)) ([] : List Rj)]
  generalize stepR f (runR f nobCb (ys.take k) (beginP (nbOf f), ())).1 e = q
  obtain ⟨q1, q2⟩ := q
  cases q2 with
  | none => exact ⟨rfl, rfl, rfl⟩
  | some er => exact ⟨rfl, rfl, rfl⟩
theorem Steps.len {f : Fl} {ys : List Ev} {S : Nat → PS} {Ac : Nat → List Ev} {Rj_ : Nat → List Rj} (h : Steps f ys S Ac Rj_) : ∀ k, k ≤ ys.length → (Ac k).length ≤ k ∧ (Rj_ k).length ≤ k
  | 0, _ => by rw [h.a0, h.r0]; simp
  | k + 1, hk => by
    obtain ⟨e, he⟩ : ∃ e, ys[k]? = some e := ⟨_, List.getElem?_eq_getElem (by omega)⟩
    obtain ⟨h1, h2⟩ := h.len k (by omega)
    obtain ⟨_, h3, h4⟩ := h.st k e he
    rw [h3, h4]
    constructor
    · split
      · split
        · simp; omega
        · omega
      · omega
    · split
      · split
        · simp; omega
        · omega
      · omega

structure RunX where
  x : RX
  r : RS
  aA : Option Addr
  ac : Nat
  rA : Option Addr
  rc : Nat
set_option maxRecDepth 20000 in
theorem rrun_w (f : Fl) (a : FA) (A : Option Addr) (n c : Nat) (xs : List Ev) (w : World) (hf : FlAt w f a) (hx : EvsAt w A n xs) (hn : n ≤ 1000) (hok : flErr f = 0) (hpl : PlOk xs) :
    Calls Tryz.prog 41 #[.agg (f.cells a).toArray, .slice A n c] w fun q w' => ∃ y : { y : RunX // Rel (nbOf f) (runR f nobCb (setOf xs) (beginP (nbOf f), ())).1 y.r }, q = .returned (.tuple #[.agg (y.1.x.val y.1.r).toArray, .slice y.1.aA (accOf f xs).length y.1.ac, .slice y.1.rA (rejOf f xs).length y.1.rc]) ∧ Mem w (rsItems y.1.x y.1.r ++ [evRow y.1.aA y.1.ac (accOf f xs), rjRow y.1.rA y.1.rc (rejOf f xs)]) w' := by
  obtain ⟨hbk, -⟩ := flErr_ok hok
  have hnb := nb_eq hok
  have hys : ∀ e ∈ setOf xs, -9223372036854775808 ≤ e.place ∧ e.place ≤ 9223372036854775807 := fun e he => hpl e ((set_isSet xs).mem e |>.1 he).1
  have hylen := setOf_len xs
  have hxl := hx.1
  have hao : accOf f xs = (runR f accCb (setOf xs) (beginP (nbOf f), [])).2 := by unfold accOf; rw [if_pos hok]
  have hro : rejOf f xs = (runR f rejCb (setOf xs) (beginP (nbOf f), [])).2 := by unfold rejOf; rw [if_pos hok]
  obtain ⟨S, Ac, Rj_, hst, hS, hA, hRj⟩ := steps_of f (setOf xs)
  rw [hao, hro, ← hA, ← hRj]
  have hSn := hS (setOf xs).length
  rw [List.take_length] at hSn
  rw [← hSn]
  have hlen := hst.len
  clear hS hA hRj hao hro hSn
  generalize hys0 : setOf xs = ys at *
  refine H_enter Tryz.func41 rfl Tryz.ntmps41 rfl ?_
  refine H_seq ?_
  refine R0 ?_
  refine X_box (v := .agg _) rfl rfl fun b2 => ?_
  refine X_alloc Tryz.zeroValue89 rfl fun b4 => ?_
  refine xV (e_as (v := .slice _ _ _) (q0 rfl)) rfl rfl ?_
  refine xV (e_as (v := .slice _ _ _) (q0 rfl)) rfl rfl ?_
  refine XN ?_
  refine thenJ_normal ?_
  refine H_seq ?_
  refine R0 ?_
  refine xV (e_mv (v := .slice _ _ _) (q0 rfl)) rfl rfl ?_
  refine xCX (en Tryz.call58 (ha1 (q0 rfl))) (fun w hw => rset_w A n c xs w (hx.mem hw) (by omega)) rfl (fun _ => rfl) fun Y => ?_
  rw [hys0]
  refine xV (e_as (v := .slice _ _ _) (q0 rfl)) rfl rfl ?_
  refine XN ?_
  refine thenJ_normal ?_
  refine H_seq ?_
  refine R0 ?_
  refine xV (eS Tryz.isAgg24 Tryz.sizeOf24 (q0 rfl)) rfl rfl ?_
  refine xCX (en Tryz.call59 (ha1 (q0 rfl))) (fun w hw => rbegin_w f a (nbOf f) hnb (by omega) w) rfl (fun _ => rfl) fun x0 => ?_
  refine X_alloc Tryz.zeroValue89 rfl fun b8 => ?_
  refine X_st (v := .agg _) rfl rfl Tryz.sizeOf89 ?_
  refine XN ?_
  refine thenJ_normal ?_
  refine H_seq ?_
  refine R0 ?_
  refine X_eff (f_slit0 Ev.cells Tryz.underlying25 Tryz.sizeOf57 rfl fun aA0 ac0 => ?_)
  refine xV (e_as (v := .slice _ _ _) (q0 rfl)) rfl rfl ?_
  refine XN ?_
  refine thenJ_normal ?_
  refine H_seq ?_
  refine R0 ?_
  refine X_eff (f_slit0 Rj.cells Tryz.underlying90 Tryz.sizeOf111 rfl fun rA0 rc0 => ?_)
  refine xV (e_as (v := .slice _ _ _) (q0 rfl)) rfl rfl ?_
  refine XN ?_
  refine thenJ_normal ?_
  refine H_seq ?_
  refine H_seq ?_
  refine R0 ?_
  refine xV (e_as (v := .int _ _) (q0 rfl)) rfl rfl ?_
  refine XN ?_
  refine thenJ_normal ?_
  refine H_block ?_
  refine H_loop [9, 10, 11, 12, 13, 20, 21, 22, 23, 24, 25, 26, 27, 28, 29, 30, 31, 32, 33, 34, 35, 36, 37, 38, 39, 40, 41, 42, 43, 44, 45, 46, 47, 48, 49, 50, 51, 52, 53, 54] (fun q : Nat × RunX => [(11, .int .i64 q.1), (9, .slice q.2.aA (Ac q.1).length q.2.ac), (10, .slice q.2.rA (Rj_ q.1).length q.2.rc)]) (fun q => [rjRow q.2.rA q.2.rc (Rj_ q.1), evRow q.2.aA q.2.ac (Ac q.1), rsBox b8 (q.2.x.val q.2.r), spRow q.2.x.A q.2.x.c q.2.r.spots, rtRow q.2.x.B q.2.x.d q.2.r.trips, evRow Y.1 Y.2 ys, rsBox b4 (rsV none 0 0 none 0 0), box b2 24 (f.cells a)]) (fun q => q.1 ≤ ys.length ∧ Rel (nbOf f) (S q.1) q.2.r ∧ q.2.r.trips.length ≤ q.1) (fun q => ys.length - q.1) (0, ⟨x0, beginR (nbOf f), aA0, ac0, rA0, rc0⟩) ⟨rfl, by show _ = Value.slice aA0 (Ac 0).length ac0; rw [hst.a0]; rfl, by show _ = Value.slice rA0 (Rj_ 0).length rc0; rw [hst.r0]; rfl, trivial⟩ (fun w hw => by show Mem _ (rjRow rA0 rc0 (Rj_ 0) :: evRow aA0 ac0 (Ac 0) :: _) w; rw [hst.a0, hst.r0]; exact hw) rfl ⟨Nat.zero_le _, by show Rel _ (S 0) _; rw [hst.s0]; exact Rel.begin _, Nat.le_refl _⟩ ?_
  rintro ⟨k, ⟨⟨zA, zc, zB, zd⟩, r, aA, ac, rA, rc⟩⟩ g ⟨hk, hR, htl⟩
  simp only at hk hR htl
  refine H_seq ?_
  refine H_seq ?_
  refine R0 ?_
  refine xV (e_mv (v := .int _ _) (q0 rfl)) rfl rfl ?_
  refine xV (e_mv (v := .slice _ _ _) (q0 rfl)) rfl rfl ?_
  refine xV (e_len Tryz.underlying25 (q0 rfl)) rfl rfl ?_
  refine xV (e_lt (q0 rfl) (q0 rfl)) rfl rfl ?_
  refine XN ?_
  refine thenJ_normal ?_
  refine H_cond rfl (fun hlt => ?_) (fun hlt => ?_)
  · have hlt' : k < ys.length := by simpa using hlt
    obtain ⟨e, he⟩ : ∃ e, ys[k]? = some e := ⟨_, List.getElem?_eq_getElem hlt'⟩
    obtain ⟨hs1, hs2, hs3⟩ := hst.st k e he
    obtain ⟨hal, hrl⟩ := hlen k hk
    have hplc := hys e (List.mem_of_getElem? he)
    have hsl : r.spots.length = nbOf f := by rw [hR.spots]; exact hR.inv.len
    have hR2 : Rel r.spots.length (S k) r := by rw [hsl]; exact hR
    refine H_know (fun w hw => rowT_at (j := 5) hw rfl (by omega)) fun ⟨yb, hyb⟩ => ?_
    obtain ⟨Y1, Y2⟩ := Y
    simp only at hyb
    subst hyb
    refine H_skip ?_
    refine thenJ_normal ?_
    refine H_seq ?_
    refine H_block ?_
    refine H_seq ?_
    refine R0 ?_
    refine xV (e_mv (v := .slice _ _ _) (q0 rfl)) rfl rfl ?_
    refine xV (e_mv (v := .int _ _) (q0 rfl)) rfl rfl ?_
    refine xV (e_idx _ Tryz.underlying25 Tryz.sizeOf57 (q0 rfl) (q0 rfl) (fun _ => ⟨rfl, by omega⟩)) rfl rfl ?_
    refine xV (eS Tryz.isAgg57 Tryz.sizeOf57 (q0 rfl)) rfl rfl ?_
    refine X_alloc Tryz.zeroValue57 rfl fun b12 => ?_
    refine X_st (v := .agg _) rfl rfl Tryz.sizeOf57 ?_
    refine XN ?_
    refine thenJ_normal ?_
    refine H_seq ?_
    refine H_seq ?_
    refine R0 ?_
    refine xV (eS Tryz.isAgg24 Tryz.sizeOf24 (q0 rfl)) rfl rfl ?_
    refine xV (eS Tryz.isAgg89 Tryz.sizeOf89 (q0 rfl)) rfl rfl ?_
    refine xV (eS Tryz.isAgg57 Tryz.sizeOf57 (q0 rfl)) rfl rfl ?_
    refine xC (en Tryz.call60 (ha3 (q0 rfl) (q0 rfl) (q0 rfl))) (fun _ w hm => fault_w f a zA r.spots.length zc zB r.trips.length zd (S k) r e w (hf.mem hm) (slAt_row hm (j := 4) rfl (fun _ => rfl) (by omega)) (slAt_row hm (j := 5) rfl (fun _ => rfl) (by omega)) hR2 (by omega) hplc) rfl rfl ?_
    refine xV (e_as (v := .int _ _) (q0 rfl)) rfl rfl ?_
    refine XN ?_
    refine thenJ_normal ?_
    refine H_seq ?_
    refine R0 ?_
    refine xV (e_mv (v := .int _ _) (q0 rfl)) rfl rfl ?_
    refine xV (e_ne (q0 rfl) (q0 rfl)) rfl rfl ?_
    refine XN ?_
    refine thenJ_normal ?_
    refine H_cond rfl (fun h0 => ?_) (fun h0 => ?_)
    · have h0' : errR f (S k) e ≠ 0 := by simpa using h0
      rw [step_err h0'] at hs1 hs2 hs3
      simp only [h0', if_false] at hs1 hs2 hs3
      rw [if_pos h0'] at hs3
      refine H_seq ?_
      refine R0 ?_
      refine xV (e_mv (v := .slice _ _ _) (q0 rfl)) rfl rfl ?_
      refine xV (e_fld Tryz.underlying57 rfl Tryz.sizeOf3 rfl (q0 rfl)) rfl rfl ?_
      refine xV (eL Tryz.isAgg3 (q0 rfl)) rfl rfl ?_
      refine xV (e_fld Tryz.underlying57 rfl Tryz.sizeOf3 rfl (q0 rfl)) rfl rfl ?_
      refine xV (eL Tryz.isAgg3 (q0 rfl)) rfl rfl ?_
      refine xV (e_mv (v := .int _ _) (q0 rfl)) rfl rfl ?_
      refine xV (e_build Tryz.underlying111 fl111 Tryz.zeroValue111 (pt (v := .int _ _) rfl (pt (v := .int _ _) rfl (pt (v := .int _ _) rfl E.p0))) rfl) rfl rfl ?_
      refine X_push (k := 3) (i := Tryz.t111) 1 (⟨e.device, e.seq, errR f (S k) e⟩) Tryz.underlying90 (by kernel_rfl) rfl rfl rfl rfl Tryz.sizeOf111 Tryz.zeroValue111 rfl rfl rfl rfl rfl rfl ⟨by simp only; omega, by decide⟩ rfl rfl fun PB A1 c1 => ?_
      refine xV (e_as (v := .slice _ _ _) (q0 rfl)) rfl rfl ?_
      refine XN ?_
      refine thenJ_normal ?_
      refine H_exit ?_
      refine thenJ_exit ?_
      refine blockJ_hit ?_
      refine thenJ_normal ?_
      refine R0 ?_
      refine xV (e_mv (v := .int _ _) (q0 rfl)) rfl rfl ?_
      refine xV (e_add (q0 rfl) (q0 rfl) (fun _ => ⟨rfl, by omega, by omega⟩)) rfl rfl ?_
      refine xV (e_as (v := .int _ _) (q0 rfl)) rfl rfl ?_
      refine XN ?_
      exact loopJ_normal (k + 1, ⟨⟨zA, zc, zB, zd⟩, r, aA, ac, A1, c1⟩) (by repeat (first | exact agree_self | exact agree_over | refine agree_upd rfl ?_ | refine agree_updL rfl ?_ | refine agree_over2 rfl ?_)) ⟨rfl, by show _ = Value.slice aA (Ac (k + 1)).length ac; rw [hs2]; rfl, by show _ = Value.slice A1 (Rj_ (k + 1)).length c1; rw [hs3]; rfl, trivial⟩ (fun w hw => by show Mem _ (rjRow A1 c1 (Rj_ (k + 1)) :: evRow aA ac (Ac (k + 1)) :: _) w; rw [hs2, hs3]; exact hw.tail) rfl ⟨by show k + 1 ≤ _; omega, by show Rel _ (S (k + 1)) r; rw [hs1]; exact hR, by show r.trips.length ≤ k + 1; omega⟩ (by show ys.length - (k + 1) < ys.length - k; omega)
    · have h0' : errR f (S k) e = 0 := by simpa using h0
      refine H_skip ?_
      refine thenJ_normal ?_
      refine H_seq ?_
      refine R0 ?_
      refine xV (e_fld Tryz.underlying57 rfl Tryz.sizeOf3 rfl (q0 rfl)) rfl rfl ?_
      refine xV (eL Tryz.isAgg3 (q0 rfl)) rfl rfl ?_
      refine xV (e_ne (q0 rfl) (q0 rfl)) rfl rfl ?_
      refine XN ?_
      refine thenJ_normal ?_
      refine H_cond rfl (fun h10 => ?_) (fun h10 => ?_)
      · have h10' : e.kind ≠ 10 := by simpa using h10
        obtain ⟨hst2, hev, hck⟩ := step_do h0' h10'
        obtain ⟨_, hbike, hp7, hkd, _⟩ := evErr_ok hev
        rw [hst2] at hs1 hs2 hs3
        simp only [if_true] at hs1 hs2 hs3
        rw [if_neg (by decide)] at hs3
        have hap := hR.apply (f := f) (by omega) hck
        have htl2 : (applyR r e).trips.length ≤ r.trips.length + 1 := applyR_len r e
        refine H_seq ?_
        refine R0 ?_
        refine xV (eS Tryz.isAgg89 Tryz.sizeOf89 (q0 rfl)) rfl rfl ?_
        refine xV (eS Tryz.isAgg57 Tryz.sizeOf57 (q0 rfl)) rfl rfl ?_
        refine xCX (en Tryz.call61 (ha2 (q0 rfl) (q0 rfl))) (fun w hw => apply_w zA r.spots.length zc zB r.trips.length zd f.trucks (S k) r e w (slAt_row hw (j := 4) rfl (fun _ => rfl) (by omega)) (slAt_row hw (j := 5) rfl (fun _ => rfl) (by omega)) (by omega) (by omega) hR2 (by omega) hck (by omega)) rfl (fun _ => rfl) fun y => ?_
        refine X_st (v := .agg _) rfl rfl Tryz.sizeOf89 ?_
        refine XN ?_
        refine thenJ_normal ?_
        refine R0 ?_
        refine xV (e_mv (v := .slice _ _ _) (q0 rfl)) rfl rfl ?_
        refine xV (eS Tryz.isAgg57 Tryz.sizeOf57 (q0 rfl)) rfl rfl ?_
        refine X_push (k := 9) (i := Tryz.t57) 4 (e) Tryz.underlying25 (by kernel_rfl) rfl rfl rfl rfl Tryz.sizeOf57 Tryz.zeroValue57 rfl rfl rfl rfl rfl rfl ⟨by simp only; omega, by decide⟩ rfl rfl fun PB A1 c1 => ?_
        refine xV (e_as (v := .slice _ _ _) (q0 rfl)) rfl rfl ?_
        refine XN ?_
        refine blockJ_normal ?_
        refine thenJ_normal ?_
        refine R0 ?_
        refine xV (e_mv (v := .int _ _) (q0 rfl)) rfl rfl ?_
        refine xV (e_add (q0 rfl) (q0 rfl) (fun _ => ⟨rfl, by omega, by omega⟩)) rfl rfl ?_
        refine xV (e_as (v := .int _ _) (q0 rfl)) rfl rfl ?_
        refine XN ?_
        exact loopJ_normal (k + 1, ⟨y, applyR r e, A1, c1, rA, rc⟩) (by repeat (first | exact agree_self | exact agree_over | refine agree_upd rfl ?_ | refine agree_updL rfl ?_ | refine agree_over2 rfl ?_)) ⟨rfl, by show _ = Value.slice A1 (Ac (k + 1)).length c1; rw [hs2]; rfl, by show _ = Value.slice rA (Rj_ (k + 1)).length rc; rw [hs3]; rfl, trivial⟩ (fun w hw => by show Mem _ (rjRow rA rc (Rj_ (k + 1)) :: evRow A1 c1 (Ac (k + 1)) :: _) w; rw [hs2, hs3]; exact hw.pick [3, 4, 5, 0, 1, 8, 9, 10] (by decide)) rfl ⟨by show k + 1 ≤ _; omega, by show Rel _ (S (k + 1)) (applyR r e); rw [hs1]; exact hap, by show (applyR r e).trips.length ≤ k + 1; omega⟩ (by show ys.length - (k + 1) < ys.length - k; omega)
      · have h10' : e.kind = 10 := by simpa using h10
        rw [step_beat h0' h10'] at hs1 hs2 hs3
        simp only at hs1 hs2 hs3
        refine H_skip ?_
        refine blockJ_normal ?_
        refine thenJ_normal ?_
        refine R0 ?_
        refine xV (e_mv (v := .int _ _) (q0 rfl)) rfl rfl ?_
        refine xV (e_add (q0 rfl) (q0 rfl) (fun _ => ⟨rfl, by omega, by omega⟩)) rfl rfl ?_
        refine xV (e_as (v := .int _ _) (q0 rfl)) rfl rfl ?_
        refine XN ?_
        exact loopJ_normal (k + 1, ⟨⟨zA, zc, zB, zd⟩, r, aA, ac, rA, rc⟩) (by repeat (first | exact agree_self | exact agree_over | refine agree_upd rfl ?_ | refine agree_updL rfl ?_ | refine agree_over2 rfl ?_)) ⟨rfl, by show _ = Value.slice aA (Ac (k + 1)).length ac; rw [hs2]; rfl, by show _ = Value.slice rA (Rj_ (k + 1)).length rc; rw [hs3]; rfl, trivial⟩ (fun w hw => by show Mem _ (rjRow rA rc (Rj_ (k + 1)) :: evRow aA ac (Ac (k + 1)) :: _) w; rw [hs2, hs3]; exact hw.tail) rfl ⟨by show k + 1 ≤ _; omega, by show Rel _ (S (k + 1)) r; rw [hs1]; exact hR, by show r.trips.length ≤ k + 1; omega⟩ (by show ys.length - (k + 1) < ys.length - k; omega)
  · have hend : k = ys.length := by simp at hlt; omega
    subst hend
    refine H_exit ?_
    refine thenJ_exit ?_
    refine loopJ_exit ?_
    refine blockJ_hit ?_
    refine thenJ_normal ?_
    refine H_seq ?_
    refine R0 ?_
    refine xV (eS Tryz.isAgg89 Tryz.sizeOf89 (q0 rfl)) rfl rfl ?_
    refine xV (e_mv (v := .slice _ _ _) (q0 rfl)) rfl rfl ?_
    refine xV (e_mv (v := .slice _ _ _) (q0 rfl)) rfl rfl ?_
    refine X_st (v := .agg _) rfl rfl Tryz.sizeOf89 ?_
    refine xV (e_as (v := .slice _ _ _) (q0 rfl)) rfl rfl ?_
    refine xV (e_as (v := .slice _ _ _) (q0 rfl)) rfl rfl ?_
    refine XN ?_
    refine thenJ_normal ?_
    refine H_ret ?_
    exact ret_of rfl (resc3 6 rfl rfl rfl rfl Tryz.isAgg89 Tryz.sizeOf89 rfl rfl) fun w' hw => ⟨⟨⟨⟨zA, zc, zB, zd⟩, r, aA, ac, rA, rc⟩, hR⟩, rfl, hw.pick [3, 4, 1, 0] (by decide)⟩

end Go.Proofs.Cus

/-
  The walks: what the reference answers: accepted, rejected, spots, at.
-/
namespace Go.Proofs.Cus
open Go Go.RowKit Go.Proofs.E

attribute [local irreducible] accOf rejOf flErr
theorem raccepted_w (f : Fl) (a : FA) (A : Option Addr) (n c : Nat) (xs : List Ev) (w : World) (hf : FlAt w f a) (hx : EvsAt w A n xs) (hn : n ≤ 1000) (hpl : PlOk xs) :
    Calls Tryz.prog 23 #[.agg (f.cells a).toArray, .slice A n c] w fun r w' => ∃ x : Option Addr × Nat, r = .returned (.tuple #[.slice x.1 (accOf f xs).length x.2, .int .i64 (flErr f)]) ∧ Mem w [evRow x.1 x.2 (accOf f xs)] w' := by
  refine H_enter Tryz.func23 rfl Tryz.ntmps23 rfl ?_
  refine H_seq ?_
  refine R0 ?_
  refine X_box (v := .agg _) rfl rfl fun b2 => ?_
  refine xV (e_as (v := .slice _ _ _) (q0 rfl)) rfl rfl ?_
  refine xV (e_as (v := .int _ _) (q0 rfl)) rfl rfl ?_
  refine XN ?_
  refine thenJ_normal ?_
  refine H_seq ?_
  refine H_seq ?_
  refine R0 ?_
  refine xV (eS Tryz.isAgg24 Tryz.sizeOf24 (q0 rfl)) rfl rfl ?_
  refine xC (en Tryz.call40 (ha1 (q0 rfl))) (fun _ w hm => rfleet_w f a w (hf.mem hm)) rfl rfl ?_
  refine xV (e_as (v := .int _ _) (q0 rfl)) rfl rfl ?_
  refine XN ?_
  refine thenJ_normal ?_
  refine H_seq ?_
  refine R0 ?_
  refine xV (e_mv (v := .int _ _) (q0 rfl)) rfl rfl ?_
  refine xV (e_ne (q0 rfl) (q0 rfl)) rfl rfl ?_
  refine XN ?_
  refine thenJ_normal ?_
  refine H_cond rfl (fun h => ?_) (fun h => ?_)
  · have hacc : accOf f xs = [] := by unfold accOf; rw [if_neg (by simpa using h)]
    rw [hacc]
    refine H_seq ?_
    refine R0 ?_
    refine xV (e_mv (v := .int _ _) (q0 rfl)) rfl rfl ?_
    refine xV (e_as (v := .slice _ _ _) (q0 rfl)) rfl rfl ?_
    refine xV (e_as (v := .int _ _) (q0 rfl)) rfl rfl ?_
    refine XN ?_
    refine thenJ_normal ?_
    refine H_ret ?_
    refine thenJ_ret ?_
    exact ret2 (v := .slice _ _ _) (x := .int _ _) rfl rfl rfl rfl fun w' hw => ⟨(none, 0), rfl, (mem_nil.2 hw.1).nilRow _ _ _ rfl⟩
  · have hok : flErr f = 0 := by simpa using h
    rw [hok]
    refine H_skip ?_
    refine thenJ_normal ?_
    refine H_seq ?_
    refine R0 ?_
    refine xV (eS Tryz.isAgg24 Tryz.sizeOf24 (q0 rfl)) rfl rfl ?_
    refine xV (e_mv (v := .slice _ _ _) (q0 rfl)) rfl rfl ?_
    refine xCX (en Tryz.call41 (ha2 (q0 rfl) (q0 rfl))) (fun w hw => rrun_w f a A n c xs w (hf.mem hw) (hx.mem hw) hn hok hpl) rfl (fun _ => rfl) fun y => ?_
    refine xV (e_mv (q0 rfl)) rfl rfl ?_
    refine xV (e_ext (q0 rfl) rfl) rfl rfl ?_
    refine xV (e_ext (q0 rfl) rfl) rfl rfl ?_
    refine xV (e_ext (q0 rfl) rfl) rfl rfl ?_
    refine X_alloc Tryz.zeroValue89 rfl fun b7 => ?_
    refine X_st (v := .agg _) rfl rfl Tryz.sizeOf89 ?_
    refine xV (e_as (v := .slice _ _ _) (q0 rfl)) rfl rfl ?_
    refine xV (e_as (v := .slice _ _ _) (q0 rfl)) rfl rfl ?_
    refine XN ?_
    refine thenJ_normal ?_
    refine H_seq ?_
    refine R0 ?_
    refine xV (e_mv (v := .slice _ _ _) (q0 rfl)) rfl rfl ?_
    refine xV (e_as (v := .slice _ _ _) (q0 rfl)) rfl rfl ?_
    refine xV (e_as (v := .int _ _) (q0 rfl)) rfl rfl ?_
    refine XN ?_
    refine thenJ_normal ?_
    refine H_ret ?_
    exact ret2 (v := .slice _ _ _) (x := .int _ _) rfl rfl rfl rfl fun w' hw => ⟨(y.1.aA, y.1.ac), rfl, hw.pick [3] (by decide)⟩
theorem rspots_w (f : Fl) (a : FA) (A : Option Addr) (n c : Nat) (xs : List Ev) (w : World) (hf : FlAt w f a) (hx : EvsAt w A n xs) (hn : n ≤ 1000) (hpl : PlOk xs) :
    Calls Tryz.prog 24 #[.agg (f.cells a).toArray, .slice A n c] w fun r w' => ∃ x : Option Addr × Nat, r = .returned (.tuple #[.slice x.1 (spotsOf f xs).length x.2, .int .i64 (flErr f)]) ∧ Mem w [spRow x.1 x.2 (spotsOf f xs)] w' := by
  refine H_enter Tryz.func24 rfl Tryz.ntmps24 rfl ?_
  refine H_seq ?_
  refine R0 ?_
  refine X_box (v := .agg _) rfl rfl fun b2 => ?_
  refine xV (e_as (v := .slice _ _ _) (q0 rfl)) rfl rfl ?_
  refine xV (e_as (v := .int _ _) (q0 rfl)) rfl rfl ?_
  refine XN ?_
  refine thenJ_normal ?_
  refine H_seq ?_
  refine H_seq ?_
  refine R0 ?_
  refine xV (eS Tryz.isAgg24 Tryz.sizeOf24 (q0 rfl)) rfl rfl ?_
  refine xC (en Tryz.call40 (ha1 (q0 rfl))) (fun _ w hm => rfleet_w f a w (hf.mem hm)) rfl rfl ?_
  refine xV (e_as (v := .int _ _) (q0 rfl)) rfl rfl ?_
  refine XN ?_
  refine thenJ_normal ?_
  refine H_seq ?_
  refine R0 ?_
  refine xV (e_mv (v := .int _ _) (q0 rfl)) rfl rfl ?_
  refine xV (e_ne (q0 rfl) (q0 rfl)) rfl rfl ?_
  refine XN ?_
  refine thenJ_normal ?_
  refine H_cond rfl (fun h => ?_) (fun h => ?_)
  · have hacc : spotsOf f xs = [] := by unfold spotsOf; rw [if_neg (by simpa using h)]
    rw [hacc]
    refine H_seq ?_
    refine R0 ?_
    refine xV (e_mv (v := .int _ _) (q0 rfl)) rfl rfl ?_
    refine xV (e_as (v := .slice _ _ _) (q0 rfl)) rfl rfl ?_
    refine xV (e_as (v := .int _ _) (q0 rfl)) rfl rfl ?_
    refine XN ?_
    refine thenJ_normal ?_
    refine H_ret ?_
    refine thenJ_ret ?_
    exact ret2 (v := .slice _ _ _) (x := .int _ _) rfl rfl rfl rfl fun w' hw => ⟨(none, 0), rfl, (mem_nil.2 hw.1).nilRow _ _ _ rfl⟩
  · have hok : flErr f = 0 := by simpa using h
    have hso : spotsOf f xs = (runR f nobCb (setOf xs) (beginP (nbOf f), ())).1.spots := by unfold spotsOf; rw [if_pos hok]
    rw [hok]
    refine H_skip ?_
    refine thenJ_normal ?_
    refine H_seq ?_
    refine R0 ?_
    refine xV (eS Tryz.isAgg24 Tryz.sizeOf24 (q0 rfl)) rfl rfl ?_
    refine xV (e_mv (v := .slice _ _ _) (q0 rfl)) rfl rfl ?_
    refine xCX (en Tryz.call41 (ha2 (q0 rfl) (q0 rfl))) (fun w hw => rrun_w f a A n c xs w (hf.mem hw) (hx.mem hw) hn hok hpl) rfl (fun _ => rfl) fun y => ?_
    obtain ⟨⟨⟨zA, zc, zB, zd⟩, r, aA, ac, rA, rc⟩, hR⟩ := y
    simp only at hR
    have hso2 : spotsOf f xs = r.spots := by rw [hso]; exact hR.spots.symm
    rw [hso2]
    refine xV (e_mv (q0 rfl)) rfl rfl ?_
    refine xV (e_ext (q0 rfl) rfl) rfl rfl ?_
    refine xV (e_ext (q0 rfl) rfl) rfl rfl ?_
    refine xV (e_ext (q0 rfl) rfl) rfl rfl ?_
    refine X_alloc Tryz.zeroValue89 rfl fun b7 => ?_
    refine X_st (v := .agg _) rfl rfl Tryz.sizeOf89 ?_
    refine xV (e_as (v := .slice _ _ _) (q0 rfl)) rfl rfl ?_
    refine xV (e_as (v := .slice _ _ _) (q0 rfl)) rfl rfl ?_
    refine XN ?_
    refine thenJ_normal ?_
    refine H_seq ?_
    refine R0 ?_
    refine xV (e_fld Tryz.underlying89 rfl Tryz.sizeOf52 rfl (q0 rfl)) rfl rfl ?_
    refine xV (eL Tryz.isAgg52 (q0 rfl)) rfl rfl ?_
    refine xV (e_as (v := .slice _ _ _) (q0 rfl)) rfl rfl ?_
    refine xV (e_as (v := .int _ _) (q0 rfl)) rfl rfl ?_
    refine XN ?_
    refine thenJ_normal ?_
    refine H_ret ?_
    exact ret2 (v := .slice _ _ _) (x := .int _ _) rfl rfl rfl rfl fun w' hw => ⟨(zA, zc), rfl, hw.pick [1] (by decide)⟩
attribute [local irreducible] spotsOf setOf

end Go.Proofs.Cus
