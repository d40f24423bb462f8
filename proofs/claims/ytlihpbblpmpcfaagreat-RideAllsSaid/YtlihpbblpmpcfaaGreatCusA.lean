import Derived.Test.YtlihpbblpmpcfaaGreatCusS
import Derived.Test.YtlihpbblpmpcfaaGreatEng2
import Derived.Test.YtlihpbblpmpcfaaGreatProg
import Derived.KernelRfl
set_option linter.unusedVariables false
set_option linter.unusedSimpArgs false
/-
  The walks: fleets and events, each by itself.
-/
namespace Go.Proofs.Cus
open Go Go.RowKit Go.Proofs.E

abbrev IntsAt (w : World) (A : Option Addr) (n : Nat) (xs : List Int) : Prop := SlAt w 1 encInt A n xs
def Ev.cells (e : Ev) : List Value := [.int .i64 e.device, .int .i64 e.seq, .int .i64 e.at_, .int .i64 e.late, .int .i64 e.kind, .int .i64 e.bike, .int .i64 e.place, .int .i64 e.rider, .int .i64 e.ride]
/-- where a fleet's lists lie -/
structure FA where
  dA : Option Addr
  dn : Nat
  dc : Nat
  tA : Option Addr
  tn : Nat
  tc : Nat
def Fl.cells (f : Fl) (a : FA) : List Value := [.int .i64 f.bikes, .int .i64 f.riders, .int .i64 f.devices, .slice a.dA a.dn a.dc, .slice a.tA a.tn a.tc]
structure FlAt (w : World) (f : Fl) (a : FA) : Prop where
  docks : IntsAt w a.dA a.dn f.docks
  trucks : IntsAt w a.tA a.tn f.trucks
theorem FlAt.mem {w0 w : World} {L : List E.Item} {f : Fl} {a : FA} (h : FlAt w0 f a) (hm : Mem w0 L w) : FlAt w f a := ⟨h.docks.mem hm, h.trucks.mem hm⟩

theorem within_w (n low high : Int) (w : World) : Calls Tryz.prog 63 #[.int .i64 n, .int .i64 low, .int .i64 high] w fun e w' => e = .returned (.bool (within n low high)) ∧ Bel w w' := by
  refine H_enter Tryz.func63 rfl Tryz.ntmps63 rfl ?_
  refine H_seq ?_
  refine R0 ?_
  refine xV (e_as (v := .bool _) (q0 rfl)) rfl rfl ?_
  refine XN ?_
  refine thenJ_normal ?_
  refine H_seq ?_
  refine R0 ?_
  refine xV (e_mv (v := .int _ _) (q0 rfl)) rfl rfl ?_
  refine xV (e_mv (v := .int _ _) (q0 rfl)) rfl rfl ?_
  refine xV (e_le (q0 rfl) (q0 rfl)) rfl rfl ?_
  refine xV (e_mv (v := .bool _) (q0 rfl)) rfl rfl ?_
  refine xVT (e_mv (v := .int _ _) (q0 rfl)) rfl rfl rfl rfl ?_
  refine xVT (e_mv (v := .int _ _) (q0 rfl)) rfl rfl rfl rfl ?_
  refine xVT (e_le (q1 rfl) (q1 rfl)) rfl rfl rfl rfl ?_
  refine xV (e_and (q0 rfl) rfl (fun h => by first | rfl | (rw [h]; rfl))) rfl rfl ?_
  refine xV (e_as (v := .bool _) (q0 rfl)) rfl rfl ?_
  refine XN ?_
  refine thenJ_normal ?_
  refine H_ret ?_
  exact ret1 (v := .bool _) rfl rfl rfl fun w' hw => ⟨rfl, hw.1⟩
theorem between_w (n low high : Int) (w : World) : Calls Tryz.prog 56 #[.int .i64 n, .int .i64 low, .int .i64 high] w fun e w' => e = .returned (.bool (within n low high)) ∧ Bel w w' := by
  refine H_enter Tryz.func56 rfl Tryz.ntmps56 rfl ?_
  refine H_seq ?_
  refine R0 ?_
  refine xV (e_as (v := .bool _) (q0 rfl)) rfl rfl ?_
  refine XN ?_
  refine thenJ_normal ?_
  refine H_seq ?_
  refine R0 ?_
  refine xV (e_mv (v := .int _ _) (q0 rfl)) rfl rfl ?_
  refine xV (e_mv (v := .int _ _) (q0 rfl)) rfl rfl ?_
  refine xV (e_ge (q0 rfl) (q0 rfl)) rfl rfl ?_
  refine xV (e_mv (v := .bool _) (q0 rfl)) rfl rfl ?_
  refine xVT (e_mv (v := .int _ _) (q0 rfl)) rfl rfl rfl rfl ?_
  refine xVT (e_mv (v := .int _ _) (q0 rfl)) rfl rfl rfl rfl ?_
  refine xVT (e_le (q1 rfl) (q1 rfl)) rfl rfl rfl rfl ?_
  refine xV (e_and (q0 rfl) rfl (fun h => by first | rfl | (rw [h]; rfl))) rfl rfl ?_
  refine xV (e_as (v := .bool _) (q0 rfl)) rfl rfl ?_
  refine XN ?_
  refine thenJ_normal ?_
  refine H_ret ?_
  exact ret1 (v := .bool _) rfl rfl rfl fun w' hw => ⟨rfl, hw.1⟩

theorem take_snoc {α : Type} (l : List α) (k : Nat) (v : α) (h : l[k]? = some v) : l.take (k + 1) = l.take k ++ [v] := by
  rw [List.take_add_one, h]; rfl
attribute [local irreducible] within allIn

theorem all_w (A : Option Addr) (n c : Nat) (xs : List Int) (most : Int) (w : World) (hx : IntsAt w A n xs) :
    Calls Tryz.prog 64 #[.slice A n c, .int .i64 most] w fun e w' => e = .returned (.bool (allIn xs most)) ∧ Bel w w' := by
  have hl := hx.1
  have hn := hx.2.1
  refine H_enter Tryz.func64 rfl Tryz.ntmps64 rfl ?_
  refine H_seq ?_
  refine R0 ?_
  refine xV (e_as (v := .bool _) (q0 rfl)) rfl rfl ?_
  refine XN ?_
  refine thenJ_normal ?_
  refine H_seq ?_
  refine H_seq ?_
  refine R0 ?_
  refine xV (e_mv (v := .slice _ _ _) (q0 rfl)) rfl rfl ?_
  refine xV (e_len Tryz.underlying22 (q0 rfl)) rfl rfl ?_
  refine xV (e_mv (v := .int _ _) (q0 rfl)) rfl rfl ?_
  refine XN ?_
  refine thenJ_normal ?_
  refine H_block ?_
  refine H_loop [4, 6, 9, 10, 11, 12, 13, 14, 15, 16, 17] (fun k : Nat => [(9, .int .i64 k)]) (fun _ => _) (fun k => k ≤ n ∧ (xs.take k).all (fun m => within m 1 most) = true) (fun k => n - k) 0 ⟨rfl, trivial⟩ (fun _ h => h) rfl ⟨Nat.zero_le _, rfl⟩ ?_
  rintro k g ⟨hk, hall⟩
  refine H_seq ?_
  refine R0 ?_
  refine xV (e_lt (q0 rfl) (q0 rfl)) rfl rfl ?_
  refine XN ?_
  refine thenJ_normal ?_
  refine H_seq ?_
  refine H_cond rfl (fun hlt => ?_) (fun hlt => ?_)
  · simp at hlt
    obtain ⟨b, off, x, rfl, hbl, hxk, hrx⟩ := hx.at_ hlt
    refine H_skip ?_
    refine thenJ_normal ?_
    refine H_seq ?_
    refine H_block ?_
    refine H_seq ?_
    refine R0 ?_
    refine xV (e_idx _ Tryz.underlying22 Tryz.sizeOf3 (q0 rfl) (q0 rfl) (fun _ => ⟨rfl, by omega⟩)) rfl rfl ?_
    refine xV (eL Tryz.isAgg3 (q0 rfl)) rfl rfl ?_
    refine xV (e_as (v := .int _ _) (q0 rfl)) rfl rfl ?_
    refine XN ?_
    refine thenJ_normal ?_
    refine H_seq ?_
    refine R0 ?_
    refine xV (e_mv (v := .int _ _) (q0 rfl)) rfl rfl ?_
    refine xV (e_mv (v := .int _ _) (q0 rfl)) rfl rfl ?_
    refine xC (en Tryz.call63 (ha3 (q0 rfl) (q0 rfl) (q0 rfl))) (fun _ w _ => within_w x 1 most w) rfl rfl ?_
    refine xV (e_not (q0 rfl)) rfl rfl ?_
    refine XN ?_
    refine thenJ_normal ?_
    refine H_cond rfl (fun hb => ?_) (fun hb => ?_)
    · refine H_seq ?_
      refine R0 ?_
      refine xV (e_as (v := .bool _) (q0 rfl)) rfl rfl ?_
      refine XN ?_
      refine thenJ_normal ?_
      refine H_ret ?_
      refine blockJ_ret ?_
      refine thenJ_ret ?_
      refine loopJ_ret ?_
      refine blockJ_ret ?_
      refine thenJ_ret ?_
      exact ret1 (v := .bool _) rfl rfl rfl fun w' hw => ⟨ret_bool (by
        unfold allIn
        rw [eq_comm, List.all_eq_false]
        exact ⟨x, List.mem_of_getElem? hxk, by simpa using hb⟩), hw.1⟩
    · refine H_skip ?_
      refine blockJ_normal ?_
      refine thenJ_normal ?_
      refine R0 ?_
      refine xV (e_add (q0 rfl) (q0 rfl) (fun _ => ⟨rfl, by omega, by omega⟩)) rfl rfl ?_
      refine xV (e_mv (v := .int _ _) (q0 rfl)) rfl rfl ?_
      refine XN ?_
      exact loopJ_normal (k + 1) (by repeat (first | exact agree_self | exact agree_over | refine agree_upd rfl ?_ | refine agree_updL rfl ?_ | refine agree_over2 rfl ?_)) ⟨rfl, trivial⟩ (fun _ h => h) rfl ⟨by omega, by rw [take_snoc _ _ _ hxk, List.all_append, hall]; simpa using hb⟩ (by show n - (k + 1) < n - k; omega)
  · obtain rfl : k = n := by simp at hlt; omega
    refine H_exit ?_
    refine thenJ_exit ?_
    refine loopJ_exit ?_
    refine blockJ_hit ?_
    refine thenJ_normal ?_
    refine H_seq ?_
    refine R0 ?_
    refine xV (e_as (v := .bool _) (q0 rfl)) rfl rfl ?_
    refine XN ?_
    refine thenJ_normal ?_
    refine H_ret ?_
    exact ret1 (v := .bool _) rfl rfl rfl fun w' hw => ⟨ret_bool (by unfold allIn; rw [← hall, List.take_of_length_le (by omega)]), hw.1⟩
theorem rall_w (A : Option Addr) (n c : Nat) (xs : List Int) (most : Int) (w : World) (hx : IntsAt w A n xs) :
    Calls Tryz.prog 57 #[.slice A n c, .int .i64 most] w fun e w' => e = .returned (.bool (allIn xs most)) ∧ Bel w w' := by
  have hl := hx.1
  have hn := hx.2.1
  refine H_enter Tryz.func57 rfl Tryz.ntmps57 rfl ?_
  refine H_seq ?_
  refine R0 ?_
  refine xV (e_as (v := .bool _) (q0 rfl)) rfl rfl ?_
  refine XN ?_
  refine thenJ_normal ?_
  refine H_seq ?_
  refine H_seq ?_
  refine R0 ?_
  refine xV (e_as (v := .int _ _) (q0 rfl)) rfl rfl ?_
  refine XN ?_
  refine thenJ_normal ?_
  refine H_block ?_
  refine H_loop [4, 5, 6, 7, 8, 9, 10, 11, 12, 13, 14, 15, 16, 17, 18] (fun k : Nat => [(5, .int .i64 k)]) (fun _ => _) (fun k => k ≤ n ∧ (xs.take k).all (fun m => within m 1 most) = true) (fun k => n - k) 0 ⟨rfl, trivial⟩ (fun _ h => h) rfl ⟨Nat.zero_le _, rfl⟩ ?_
  rintro k g ⟨hk, hall⟩
  refine H_seq ?_
  refine H_seq ?_
  refine R0 ?_
  refine xV (e_mv (v := .int _ _) (q0 rfl)) rfl rfl ?_
  refine xV (e_mv (v := .slice _ _ _) (q0 rfl)) rfl rfl ?_
  refine xV (e_len Tryz.underlying22 (q0 rfl)) rfl rfl ?_
  refine xV (e_lt (q0 rfl) (q0 rfl)) rfl rfl ?_
  refine XN ?_
  refine thenJ_normal ?_
  refine H_cond rfl (fun hlt => ?_) (fun hlt => ?_)
  · simp at hlt
    obtain ⟨b, off, x, rfl, hbl, hxk, hrx⟩ := hx.at_ hlt
    refine H_skip ?_
    refine thenJ_normal ?_
    refine H_seq ?_
    refine H_block ?_
    refine H_seq ?_
    refine R0 ?_
    refine xV (e_mv (v := .slice _ _ _) (q0 rfl)) rfl rfl ?_
    refine xV (e_mv (v := .int _ _) (q0 rfl)) rfl rfl ?_
    refine xV (e_idx _ Tryz.underlying22 Tryz.sizeOf3 (q0 rfl) (q0 rfl) (fun _ => ⟨rfl, by omega⟩)) rfl rfl ?_
    refine xV (eL Tryz.isAgg3 (q0 rfl)) rfl rfl ?_
    refine xV (e_mv (v := .int _ _) (q0 rfl)) rfl rfl ?_
    refine xC (en Tryz.call56 (ha3 (q0 rfl) (q0 rfl) (q0 rfl))) (fun _ w _ => between_w x 1 most w) rfl rfl ?_
    refine xV (e_not (q0 rfl)) rfl rfl ?_
    refine XN ?_
    refine thenJ_normal ?_
    refine H_cond rfl (fun hb => ?_) (fun hb => ?_)
    · refine H_seq ?_
      refine R0 ?_
      refine xV (e_as (v := .bool _) (q0 rfl)) rfl rfl ?_
      refine XN ?_
      refine thenJ_normal ?_
      refine H_ret ?_
      refine blockJ_ret ?_
      refine thenJ_ret ?_
      refine loopJ_ret ?_
      refine blockJ_ret ?_
      refine thenJ_ret ?_
      exact ret1 (v := .bool _) rfl rfl rfl fun w' hw => ⟨ret_bool (by
        unfold allIn
        rw [eq_comm, List.all_eq_false]
        exact ⟨x, List.mem_of_getElem? hxk, by simpa using hb⟩), hw.1⟩
    · refine H_skip ?_
      refine blockJ_normal ?_
      refine thenJ_normal ?_
      refine R0 ?_
      refine xV (e_mv (v := .int _ _) (q0 rfl)) rfl rfl ?_
      refine xV (e_add (q0 rfl) (q0 rfl) (fun _ => ⟨rfl, by omega, by omega⟩)) rfl rfl ?_
      refine xV (e_as (v := .int _ _) (q0 rfl)) rfl rfl ?_
      refine XN ?_
      exact loopJ_normal (k + 1) (by repeat (first | exact agree_self | exact agree_over | refine agree_upd rfl ?_ | refine agree_updL rfl ?_ | refine agree_over2 rfl ?_)) ⟨rfl, trivial⟩ (fun _ h => h) rfl ⟨by omega, by rw [take_snoc _ _ _ hxk, List.all_append, hall]; simpa using hb⟩ (by show n - (k + 1) < n - k; omega)
  · obtain rfl : k = n := by simp at hlt; omega
    refine H_exit ?_
    refine thenJ_exit ?_
    refine loopJ_exit ?_
    refine blockJ_hit ?_
    refine thenJ_normal ?_
    refine H_seq ?_
    refine R0 ?_
    refine xV (e_as (v := .bool _) (q0 rfl)) rfl rfl ?_
    refine XN ?_
    refine thenJ_normal ?_
    refine H_ret ?_
    exact ret1 (v := .bool _) rfl rfl rfl fun w' hw => ⟨ret_bool (by unfold allIn; rw [← hall, List.take_of_length_le (by omega)]), hw.1⟩
theorem fleet_w (f : Fl) (a : FA) (w : World) (hx : FlAt w f a) : Calls Tryz.prog 48 #[.agg (f.cells a).toArray] w fun e w' => e = .returned (.int .i64 (flErr f)) ∧ Bel w w' := by
  have hl := hx.docks.1
  have hl2 := hx.trucks.1
  refine H_enter Tryz.func48 rfl Tryz.ntmps48 rfl ?_
  refine H_seq ?_
  refine R0 ?_
  refine X_box (v := .agg _) rfl rfl fun b1 => ?_
  refine xV (e_as (v := .int _ _) (q0 rfl)) rfl rfl ?_
  refine XN ?_
  refine thenJ_normal ?_
  refine H_seq ?_
  refine H_seq ?_
  refine R0 ?_
  refine xV (e_fld Tryz.underlying24 rfl Tryz.sizeOf3 rfl (q0 rfl)) rfl rfl ?_
  refine xV (eL Tryz.isAgg3 (q0 rfl)) rfl rfl ?_
  refine xC (en Tryz.call63 (ha3 (q0 rfl) (q0 rfl) (q0 rfl))) (fun _ w _ => within_w f.bikes 1 128 w) rfl rfl ?_
  refine xV (e_not (q0 rfl)) rfl rfl ?_
  refine xV (e_mv (v := .bool _) (q0 rfl)) rfl rfl ?_
  refine xVF (e_fld Tryz.underlying24 rfl Tryz.sizeOf3 rfl (q0 rfl)) rfl rfl rfl rfl ?_
  refine xVF (eL Tryz.isAgg3 (q1 rfl)) rfl rfl rfl rfl ?_
  refine xCF (en Tryz.call63 (ha3 (q1 (v := .int _ _) rfl) (q0 rfl) (q0 rfl))) (fun _ w _ => within_w f.riders 1 128 w) rfl rfl rfl rfl ?_
  refine xVF (e_not (q1 rfl)) rfl rfl rfl rfl ?_
  refine xV (e_or (q0 rfl) rfl (fun h => by first | rfl | (rw [h]; rfl))) rfl rfl ?_
  refine xV (e_mv (v := .bool _) (q0 rfl)) rfl rfl ?_
  refine xVF (e_fld Tryz.underlying24 rfl Tryz.sizeOf3 rfl (q0 rfl)) rfl rfl rfl rfl ?_
  refine xVF (eL Tryz.isAgg3 (q1 rfl)) rfl rfl rfl rfl ?_
  refine xCF (en Tryz.call63 (ha3 (q1 (v := .int _ _) rfl) (q0 rfl) (q0 rfl))) (fun _ w _ => within_w f.devices 1 256 w) rfl rfl rfl rfl ?_
  refine xVF (e_not (q1 rfl)) rfl rfl rfl rfl ?_
  refine xV (e_or (q0 rfl) rfl (fun h => by first | rfl | (rw [h]; rfl))) rfl rfl ?_
  refine XN ?_
  refine thenJ_normal ?_
  refine H_cond rfl (fun h1 => ?_) (fun h1 => ?_)
  · refine H_seq ?_
    refine R0 ?_
    refine xV (e_as (v := .int _ _) (q0 rfl)) rfl rfl ?_
    refine XN ?_
    refine thenJ_normal ?_
    refine H_ret ?_
    refine thenJ_ret ?_
    exact ret1 (v := .int _ _) rfl rfl rfl fun w' hw => ⟨ret_int (by unfold flErr; rw [if_pos h1]), hw.1⟩
  · refine H_skip ?_
    refine thenJ_normal ?_
    refine H_seq ?_
    refine H_seq ?_
    refine R0 ?_
    refine xV (e_fld Tryz.underlying24 rfl Tryz.sizeOf22 rfl (q0 rfl)) rfl rfl ?_
    refine xV (eL Tryz.isAgg22 (q0 rfl)) rfl rfl ?_
    refine xV (e_len Tryz.underlying22 (q0 rfl)) rfl rfl ?_
    refine xV (e_gt (q0 rfl) (q0 rfl)) rfl rfl ?_
    refine xV (e_mv (v := .bool _) (q0 rfl)) rfl rfl ?_
    refine xVF (e_fld Tryz.underlying24 rfl Tryz.sizeOf22 rfl (q0 rfl)) rfl rfl rfl rfl ?_
    refine xVF (eL Tryz.isAgg22 (q1 rfl)) rfl rfl rfl rfl ?_
    refine xVF (e_len Tryz.underlying22 (q1 rfl)) rfl rfl rfl rfl ?_
    refine xVF (e_gt (q1 rfl) (q0 rfl)) rfl rfl rfl rfl ?_
    refine xV (e_or (q0 rfl) rfl (fun h => by first | rfl | (rw [h]; rfl))) rfl rfl ?_
    refine XN ?_
    refine thenJ_normal ?_
    refine H_cond rfl (fun h2 => ?_) (fun h2 => ?_)
    · refine H_seq ?_
      refine R0 ?_
      refine xV (e_as (v := .int _ _) (q0 rfl)) rfl rfl ?_
      refine XN ?_
      refine thenJ_normal ?_
      refine H_ret ?_
      refine thenJ_ret ?_
      exact ret1 (v := .int _ _) rfl rfl rfl fun w' hw => ⟨ret_int (by unfold flErr; rw [if_neg (by rw [h1]; decide), if_pos (by simp at h2; omega)]), hw.1⟩
    · refine H_skip ?_
      refine thenJ_normal ?_
      refine H_seq ?_
      refine H_seq ?_
      refine R0 ?_
      refine xV (e_fld Tryz.underlying24 rfl Tryz.sizeOf22 rfl (q0 rfl)) rfl rfl ?_
      refine xV (eL Tryz.isAgg22 (q0 rfl)) rfl rfl ?_
      refine xC (en Tryz.call64 (ha2 (q0 rfl) (q0 rfl))) (fun _ w hm => all_w a.dA a.dn a.dc f.docks 32 w (hx.docks.mem hm)) rfl rfl ?_
      refine xV (e_not (q0 rfl)) rfl rfl ?_
      refine xV (e_mv (v := .bool _) (q0 rfl)) rfl rfl ?_
      refine xVF (e_fld Tryz.underlying24 rfl Tryz.sizeOf22 rfl (q0 rfl)) rfl rfl rfl rfl ?_
      refine xVF (eL Tryz.isAgg22 (q1 rfl)) rfl rfl rfl rfl ?_
      refine xCF (en Tryz.call64 (ha2 (q1 (v := .slice _ _ _) rfl) (q0 rfl))) (fun _ w hm => all_w a.tA a.tn a.tc f.trucks 32 w (hx.trucks.mem hm)) rfl rfl rfl rfl ?_
      refine xVF (e_not (q1 rfl)) rfl rfl rfl rfl ?_
      refine xV (e_or (q0 rfl) rfl (fun h => by first | rfl | (rw [h]; rfl))) rfl rfl ?_
      refine XN ?_
      refine thenJ_normal ?_
      refine H_cond rfl (fun h3 => ?_) (fun h3 => ?_)
      · refine H_seq ?_
        refine R0 ?_
        refine xV (e_as (v := .int _ _) (q0 rfl)) rfl rfl ?_
        refine XN ?_
        refine thenJ_normal ?_
        refine H_ret ?_
        refine thenJ_ret ?_
        exact ret1 (v := .int _ _) rfl rfl rfl fun w' hw => ⟨ret_int (by unfold flErr; rw [if_neg (by rw [h1]; decide), if_neg (by simp at h2; omega), if_pos h3]), hw.1⟩
      · refine H_skip ?_
        refine thenJ_normal ?_
        refine H_seq ?_
        refine R0 ?_
        refine xV (e_as (v := .int _ _) (q0 rfl)) rfl rfl ?_
        refine XN ?_
        refine thenJ_normal ?_
        refine H_ret ?_
        exact ret1 (v := .int _ _) rfl rfl rfl fun w' hw => ⟨ret_int (by unfold flErr; rw [if_neg (by rw [h1]; decide), if_neg (by simp at h2; omega), if_neg (by rw [h3]; decide)]), hw.1⟩
theorem rfleet_w (f : Fl) (a : FA) (w : World) (hx : FlAt w f a) : Calls Tryz.prog 40 #[.agg (f.cells a).toArray] w fun e w' => e = .returned (.int .i64 (flErr f)) ∧ Bel w w' := by
  have hl := hx.docks.1
  have hl2 := hx.trucks.1
  refine H_enter Tryz.func40 rfl Tryz.ntmps40 rfl ?_
  refine H_seq ?_
  refine R0 ?_
  refine X_box (v := .agg _) rfl rfl fun b1 => ?_
  refine xV (e_as (v := .int _ _) (q0 rfl)) rfl rfl ?_
  refine XN ?_
  refine thenJ_normal ?_
  refine H_seq ?_
  refine H_seq ?_
  refine R0 ?_
  refine xV (e_fld Tryz.underlying24 rfl Tryz.sizeOf3 rfl (q0 rfl)) rfl rfl ?_
  refine xV (eL Tryz.isAgg3 (q0 rfl)) rfl rfl ?_
  refine xC (en Tryz.call56 (ha3 (q0 rfl) (q0 rfl) (q0 rfl))) (fun _ w _ => between_w f.bikes 1 128 w) rfl rfl ?_
  refine xV (e_not (q0 rfl)) rfl rfl ?_
  refine xV (e_mv (v := .bool _) (q0 rfl)) rfl rfl ?_
  refine xVF (e_fld Tryz.underlying24 rfl Tryz.sizeOf3 rfl (q0 rfl)) rfl rfl rfl rfl ?_
  refine xVF (eL Tryz.isAgg3 (q1 rfl)) rfl rfl rfl rfl ?_
  refine xCF (en Tryz.call56 (ha3 (q1 (v := .int _ _) rfl) (q0 rfl) (q0 rfl))) (fun _ w _ => between_w f.riders 1 128 w) rfl rfl rfl rfl ?_
  refine xVF (e_not (q1 rfl)) rfl rfl rfl rfl ?_
  refine xV (e_or (q0 rfl) rfl (fun h => by first | rfl | (rw [h]; rfl))) rfl rfl ?_
  refine xV (e_mv (v := .bool _) (q0 rfl)) rfl rfl ?_
  refine xVF (e_fld Tryz.underlying24 rfl Tryz.sizeOf3 rfl (q0 rfl)) rfl rfl rfl rfl ?_
  refine xVF (eL Tryz.isAgg3 (q1 rfl)) rfl rfl rfl rfl ?_
  refine xCF (en Tryz.call56 (ha3 (q1 (v := .int _ _) rfl) (q0 rfl) (q0 rfl))) (fun _ w _ => between_w f.devices 1 256 w) rfl rfl rfl rfl ?_
  refine xVF (e_not (q1 rfl)) rfl rfl rfl rfl ?_
  refine xV (e_or (q0 rfl) rfl (fun h => by first | rfl | (rw [h]; rfl))) rfl rfl ?_
  refine XN ?_
  refine thenJ_normal ?_
  refine H_cond rfl (fun h1 => ?_) (fun h1 => ?_)
  · refine H_seq ?_
    refine R0 ?_
    refine xV (e_as (v := .int _ _) (q0 rfl)) rfl rfl ?_
    refine XN ?_
    refine thenJ_normal ?_
    refine H_ret ?_
    refine thenJ_ret ?_
    exact ret1 (v := .int _ _) rfl rfl rfl fun w' hw => ⟨ret_int (by unfold flErr; rw [if_pos h1]), hw.1⟩
  · refine H_skip ?_
    refine thenJ_normal ?_
    refine H_seq ?_
    refine H_seq ?_
    refine R0 ?_
    refine xV (e_fld Tryz.underlying24 rfl Tryz.sizeOf22 rfl (q0 rfl)) rfl rfl ?_
    refine xV (eL Tryz.isAgg22 (q0 rfl)) rfl rfl ?_
    refine xV (e_len Tryz.underlying22 (q0 rfl)) rfl rfl ?_
    refine xV (e_gt (q0 rfl) (q0 rfl)) rfl rfl ?_
    refine xV (e_mv (v := .bool _) (q0 rfl)) rfl rfl ?_
    refine xVF (e_fld Tryz.underlying24 rfl Tryz.sizeOf22 rfl (q0 rfl)) rfl rfl rfl rfl ?_
    refine xVF (eL Tryz.isAgg22 (q1 rfl)) rfl rfl rfl rfl ?_
    refine xVF (e_len Tryz.underlying22 (q1 rfl)) rfl rfl rfl rfl ?_
    refine xVF (e_gt (q1 rfl) (q0 rfl)) rfl rfl rfl rfl ?_
    refine xV (e_or (q0 rfl) rfl (fun h => by first | rfl | (rw [h]; rfl))) rfl rfl ?_
    refine XN ?_
    refine thenJ_normal ?_
    refine H_cond rfl (fun h2 => ?_) (fun h2 => ?_)
    · refine H_seq ?_
      refine R0 ?_
      refine xV (e_as (v := .int _ _) (q0 rfl)) rfl rfl ?_
      refine XN ?_
      refine thenJ_normal ?_
      refine H_ret ?_
      refine thenJ_ret ?_
      exact ret1 (v := .int _ _) rfl rfl rfl fun w' hw => ⟨ret_int (by unfold flErr; rw [if_neg (by rw [h1]; decide), if_pos (by simp at h2; omega)]), hw.1⟩
    · refine H_skip ?_
      refine thenJ_normal ?_
      refine H_seq ?_
      refine H_seq ?_
      refine R0 ?_
      refine xV (e_fld Tryz.underlying24 rfl Tryz.sizeOf22 rfl (q0 rfl)) rfl rfl ?_
      refine xV (eL Tryz.isAgg22 (q0 rfl)) rfl rfl ?_
      refine xC (en Tryz.call57 (ha2 (q0 rfl) (q0 rfl))) (fun _ w hm => rall_w a.dA a.dn a.dc f.docks 32 w (hx.docks.mem hm)) rfl rfl ?_
      refine xV (e_not (q0 rfl)) rfl rfl ?_
      refine xV (e_mv (v := .bool _) (q0 rfl)) rfl rfl ?_
      refine xVF (e_fld Tryz.underlying24 rfl Tryz.sizeOf22 rfl (q0 rfl)) rfl rfl rfl rfl ?_
      refine xVF (eL Tryz.isAgg22 (q1 rfl)) rfl rfl rfl rfl ?_
      refine xCF (en Tryz.call57 (ha2 (q1 (v := .slice _ _ _) rfl) (q0 rfl))) (fun _ w hm => rall_w a.tA a.tn a.tc f.trucks 32 w (hx.trucks.mem hm)) rfl rfl rfl rfl ?_
      refine xVF (e_not (q1 rfl)) rfl rfl rfl rfl ?_
      refine xV (e_or (q0 rfl) rfl (fun h => by first | rfl | (rw [h]; rfl))) rfl rfl ?_
      refine XN ?_
      refine thenJ_normal ?_
      refine H_cond rfl (fun h3 => ?_) (fun h3 => ?_)
      · refine H_seq ?_
        refine R0 ?_
        refine xV (e_as (v := .int _ _) (q0 rfl)) rfl rfl ?_
        refine XN ?_
        refine thenJ_normal ?_
        refine H_ret ?_
        refine thenJ_ret ?_
        exact ret1 (v := .int _ _) rfl rfl rfl fun w' hw => ⟨ret_int (by unfold flErr; rw [if_neg (by rw [h1]; decide), if_neg (by simp at h2; omega), if_pos h3]), hw.1⟩
      · refine H_skip ?_
        refine thenJ_normal ?_
        refine H_seq ?_
        refine R0 ?_
        refine xV (e_as (v := .int _ _) (q0 rfl)) rfl rfl ?_
        refine XN ?_
        refine thenJ_normal ?_
        refine H_ret ?_
        exact ret1 (v := .int _ _) rfl rfl rfl fun w' hw => ⟨ret_int (by unfold flErr; rw [if_neg (by rw [h1]; decide), if_neg (by simp at h2; omega), if_neg (by rw [h3]; decide)]), hw.1⟩

end Go.Proofs.Cus

/-
  The walks: an event's errors. (Printed by mk_cb.py.)
-/
namespace Go.Proofs.Cus
open Go Go.RowKit Go.Proofs.E

theorem flErr_ok {f : Fl} (h : flErr f = 0) : (1 ≤ f.bikes ∧ f.bikes ≤ 128) ∧ (0 ≤ f.riders ∧ f.riders ≤ 1000) ∧ (1 ≤ f.devices ∧ f.devices ≤ 256) ∧ f.docks.length ≤ 32 ∧ f.trucks.length ≤ 8 ∧ allIn f.docks 32 = true ∧ allIn f.trucks 32 = true := by
  unfold flErr at h
  split at h
  · cases h
  · rename_i h1
    split at h
    · cases h
    · rename_i h2
      split at h
      · cases h
      · rename_i h3
        simp [within] at h1 h3
        refine ⟨?_, ?_, ?_, ?_, ?_, h3.1, h3.2⟩ <;> omega

attribute [local irreducible] within allIn flErr
theorem placed_w (f : Fl) (a : FA) (e : Ev) (w : World) (hx : FlAt w f a) (hp : -9223372036854775808 ≤ e.place ∧ e.place ≤ 9223372036854775807) : Calls Tryz.prog 73 #[.agg (f.cells a).toArray, .agg e.cells.toArray] w fun r w' => r = .returned (.bool (placed f e)) ∧ Bel w w' := by
  have hl := hx.docks.1
  have hl2 := hx.trucks.1
  have hn2 := hx.trucks.2.1
  refine H_enter Tryz.func73 rfl Tryz.ntmps73 rfl ?_
  refine H_seq ?_
  refine R0 ?_
  refine X_box (v := .agg _) rfl rfl fun b2 => ?_
  refine X_box (v := .agg _) rfl rfl fun b3 => ?_
  refine xV (e_as (v := .bool _) (q0 rfl)) rfl rfl ?_
  refine XN ?_
  refine thenJ_normal ?_
  refine H_seq ?_
  refine H_seq ?_
  refine R0 ?_
  refine xV (e_fld Tryz.underlying57 rfl Tryz.sizeOf3 rfl (q0 rfl)) rfl rfl ?_
  refine xV (eL Tryz.isAgg3 (q0 rfl)) rfl rfl ?_
  refine XN ?_
  refine thenJ_normal ?_
  refine H_block ?_
  refine H_seq ?_
  refine R0 ?_
  refine xV (e_eq (q0 rfl) (q0 rfl)) rfl rfl ?_
  refine xV (e_as (v := .bool _) (q0 rfl)) rfl rfl ?_
  refine XN ?_
  refine thenJ_normal ?_
  refine H_cond rfl (fun h1 => ?_) (fun h1 => ?_)
  · have hk1 : e.kind = 1 := by simpa using h1
    by_cases hin : (decide (0 ≤ e.place) && decide (e.place.tdiv 32 < (a.dn : Int))) = true
    case neg =>
      have hd : (decide (0 ≤ e.place) && decide (e.place.tdiv 32 < (a.dn : Int))) = false := by simpa using hin
      refine H_seq ?_
      refine R1 rfl (by decide +kernel) ?_
      refine xV (e_fld Tryz.underlying57 rfl Tryz.sizeOf3 rfl (q0 rfl)) rfl rfl ?_
      refine xV (eL Tryz.isAgg3 (q0 rfl)) rfl rfl ?_
      refine xV (e_quoT (q0 rfl) (q0 rfl) (fun _ => by omega)) rfl rfl ?_
      refine xV (e_fld Tryz.underlying57 rfl Tryz.sizeOf3 rfl (q0 rfl)) rfl rfl ?_
      refine xV (eL Tryz.isAgg3 (q0 rfl)) rfl rfl ?_
      refine xV (e_remT (q0 rfl) (q0 rfl) (fun _ => by omega)) rfl rfl ?_
      refine xV (e_as (v := .int _ _) (q0 rfl)) rfl rfl ?_
      refine xV (e_as (v := .int _ _) (q0 rfl)) rfl rfl ?_
      refine XN ?_
      refine thenJ_normal ?_
      refine H_seq ?_
      refine R0 ?_
      refine xV (e_fld Tryz.underlying57 rfl Tryz.sizeOf3 rfl (q0 rfl)) rfl rfl ?_
      refine xV (eL Tryz.isAgg3 (q0 rfl)) rfl rfl ?_
      refine xV (e_ge (q0 rfl) (q0 rfl)) rfl rfl ?_
      refine xV (e_mv (v := .bool _) (q0 rfl)) rfl rfl ?_
      refine xVT (e_mv (v := .int _ _) (q0 rfl)) rfl rfl rfl rfl ?_
      refine xVT (e_fld Tryz.underlying24 rfl Tryz.sizeOf22 rfl (q0 rfl)) rfl rfl rfl rfl ?_
      refine xVT (eL Tryz.isAgg22 (q1 rfl)) rfl rfl rfl rfl ?_
      refine xVT (e_len Tryz.underlying22 (q1 rfl)) rfl rfl rfl rfl ?_
      refine xVT (e_lt (q1 rfl) (q1 rfl)) rfl rfl rfl rfl ?_
      refine xV (e_and (q0 rfl) rfl (fun h => by first | rfl | (rw [h]; rfl))) rfl rfl ?_
      refine xV (e_mv (v := .bool _) (q0 rfl)) rfl rfl ?_
      refine xVT (e_dead (v := .int .i64 0) (hd)) rfl rfl rfl rfl ?_
      refine xVT (e_dead (v := .pointer none) (hd)) rfl rfl rfl rfl ?_
      refine xVT (e_dead (v := .slice none 0 0) (hd)) rfl rfl rfl rfl ?_
      refine xVT (e_dead (v := .int .i64 0) (hd)) rfl rfl rfl rfl ?_
      refine xVT (e_dead (v := .pointer none) (hd)) rfl rfl rfl rfl ?_
      refine xVT (e_dead (v := .int .i64 0) (hd)) rfl rfl rfl rfl ?_
      refine xVT (e_dead (v := .bool false) (hd)) rfl rfl rfl rfl ?_
      refine xV (e_and (q0 rfl) rfl (fun h => by first | rfl | (rw [h]; rfl))) rfl rfl ?_
      refine xV (e_as (v := .bool _) (q0 rfl)) rfl rfl ?_
      refine XN ?_
      refine thenJ_normal ?_
      refine H_ret ?_
      refine blockJ_ret ?_
      refine thenJ_ret ?_
      exact ret1 (v := .bool _) rfl rfl rfl fun w' hw => ⟨ret_bool (by unfold placed; rw [if_pos hk1, hl, hd]; rfl), hw.1⟩
    case pos =>
      have h0 : 0 ≤ e.place := by simp at hin; exact hin.1
      have hlt : e.place.tdiv 32 < (a.dn : Int) := by simp at hin; exact hin.2
      have hq : 0 ≤ e.place.tdiv 32 := Int.tdiv_nonneg h0 (by decide)
      have hj : e.place.tdiv 32 = ((e.place.tdiv 32).toNat : Int) := by omega
      have hjn : (e.place.tdiv 32).toNat < a.dn := by omega
      obtain ⟨dA, dn, dc, tA, tn, tc⟩ := a
      obtain ⟨b, off, x, hA, hbl, hxk, hrx⟩ := hx.docks.at_ hjn
      simp only at hA
      subst hA
      refine H_seq ?_
      refine R1 rfl (by decide +kernel) ?_
      refine xV (e_fld Tryz.underlying57 rfl Tryz.sizeOf3 rfl (q0 rfl)) rfl rfl ?_
      refine xV (eL Tryz.isAgg3 (q0 rfl)) rfl rfl ?_
      refine xV (e_quoT (q0 rfl) (q0 rfl) (fun _ => by omega)) rfl rfl ?_
      refine xV (e_fld Tryz.underlying57 rfl Tryz.sizeOf3 rfl (q0 rfl)) rfl rfl ?_
      refine xV (eL Tryz.isAgg3 (q0 rfl)) rfl rfl ?_
      refine xV (e_remT (q0 rfl) (q0 rfl) (fun _ => by omega)) rfl rfl ?_
      refine xV (e_as (v := .int _ _) (q0 rfl)) rfl rfl ?_
      refine xV (e_as (v := .int _ _) (q0 rfl)) rfl rfl ?_
      refine XN ?_
      refine thenJ_normal ?_
      refine H_seq ?_
      refine R0 ?_
      refine xV (e_fld Tryz.underlying57 rfl Tryz.sizeOf3 rfl (q0 rfl)) rfl rfl ?_
      refine xV (eL Tryz.isAgg3 (q0 rfl)) rfl rfl ?_
      refine xV (e_ge (q0 rfl) (q0 rfl)) rfl rfl ?_
      refine xV (e_mv (v := .bool _) (q0 rfl)) rfl rfl ?_
      refine xVT (e_mv (v := .int _ _) (q0 rfl)) rfl rfl rfl rfl ?_
      refine xVT (e_fld Tryz.underlying24 rfl Tryz.sizeOf22 rfl (q0 rfl)) rfl rfl rfl rfl ?_
      refine xVT (eL Tryz.isAgg22 (q1 rfl)) rfl rfl rfl rfl ?_
      refine xVT (e_len Tryz.underlying22 (q1 rfl)) rfl rfl rfl rfl ?_
      refine xVT (e_lt (q1 rfl) (q1 rfl)) rfl rfl rfl rfl ?_
      refine xV (e_and (q0 rfl) rfl (fun h => by first | rfl | (rw [h]; rfl))) rfl rfl ?_
      refine xV (e_mv (v := .bool _) (q0 rfl)) rfl rfl ?_
      refine xVT (e_mv (v := .int _ _) (q0 rfl)) rfl rfl rfl rfl ?_
      refine xVT (e_fld Tryz.underlying24 rfl Tryz.sizeOf22 rfl (q0 rfl)) rfl rfl rfl rfl ?_
      refine xVT (eL Tryz.isAgg22 (q1 rfl)) rfl rfl rfl rfl ?_
      refine xVT (e_mv (v := .int _ _) (q0 rfl)) rfl rfl rfl rfl ?_
      refine xVT (e_idx (e.place.tdiv 32).toNat Tryz.underlying22 Tryz.sizeOf3 (q1 rfl) (q1 rfl) (fun _ => ⟨hj, hjn⟩)) rfl rfl rfl rfl ?_
      refine xVT (eL Tryz.isAgg3 (q1 rfl)) rfl rfl rfl rfl ?_
      refine xVT (e_lt (q1 rfl) (q1 rfl)) rfl rfl rfl rfl ?_
      refine xV (e_and (q0 rfl) rfl (fun h => by first | rfl | (rw [h]; rfl))) rfl rfl ?_
      refine xV (e_as (v := .bool _) (q0 rfl)) rfl rfl ?_
      refine XN ?_
      refine thenJ_normal ?_
      refine H_ret ?_
      refine blockJ_ret ?_
      refine thenJ_ret ?_
      exact ret1 (v := .bool _) rfl rfl rfl fun w' hw => ⟨ret_bool (by unfold placed; rw [if_pos hk1, List.getD_eq_getElem?_getD, hxk, hl]; rfl), hw.1⟩
  · have hk1 : ¬ e.kind = 1 := by simpa using h1
    refine H_seq ?_
    refine R0 ?_
    refine xV (e_eq (q0 rfl) (q0 rfl)) rfl rfl ?_
    refine xV (e_as (v := .bool _) (q0 rfl)) rfl rfl ?_
    refine XN ?_
    refine thenJ_normal ?_
    refine H_cond rfl (fun h2 => ?_) (fun h2 => ?_)
    · refine H_seq ?_
      refine R0 ?_
      refine xV (e_fld Tryz.underlying57 rfl Tryz.sizeOf3 rfl (q0 rfl)) rfl rfl ?_
      refine xV (eL Tryz.isAgg3 (q0 rfl)) rfl rfl ?_
      refine xC (en Tryz.call63 (ha3 (q0 rfl) (q0 rfl) (q0 rfl))) (fun _ w _ => within_w e.place 0 63 w) rfl rfl ?_
      refine xV (e_as (v := .bool _) (q0 rfl)) rfl rfl ?_
      refine XN ?_
      refine thenJ_normal ?_
      refine H_ret ?_
      refine blockJ_ret ?_
      refine thenJ_ret ?_
      exact ret1 (v := .bool _) rfl rfl rfl fun w' hw => ⟨ret_bool (by unfold placed; rw [if_neg hk1, if_pos (by simpa using h2)]), hw.1⟩
    · refine H_seq ?_
      refine R0 ?_
      refine xV (e_eq (q0 rfl) (q0 rfl)) rfl rfl ?_
      refine xV (e_as (v := .bool _) (q0 rfl)) rfl rfl ?_
      refine XN ?_
      refine thenJ_normal ?_
      refine H_cond rfl (fun h7 => ?_) (fun h7 => ?_)
      · refine H_seq ?_
        refine R0 ?_
        refine xV (e_fld Tryz.underlying57 rfl Tryz.sizeOf3 rfl (q0 rfl)) rfl rfl ?_
        refine xV (eL Tryz.isAgg3 (q0 rfl)) rfl rfl ?_
        refine xV (e_fld Tryz.underlying24 rfl Tryz.sizeOf22 rfl (q0 rfl)) rfl rfl ?_
        refine xV (eL Tryz.isAgg22 (q0 rfl)) rfl rfl ?_
        refine xV (e_len Tryz.underlying22 (q0 rfl)) rfl rfl ?_
        refine xV (e_sub (q0 rfl) (q0 rfl) (fun _ => ⟨rfl, by omega, by omega⟩)) rfl rfl ?_
        refine xC (en Tryz.call63 (ha3 (q0 rfl) (q0 rfl) (q0 rfl))) (fun _ w _ => within_w e.place 0 ((a.tn : Int) - 1) w) rfl rfl ?_
        refine xV (e_as (v := .bool _) (q0 rfl)) rfl rfl ?_
        refine XN ?_
        refine thenJ_normal ?_
        refine H_ret ?_
        refine blockJ_ret ?_
        refine thenJ_ret ?_
        exact ret1 (v := .bool _) rfl rfl rfl fun w' hw => ⟨ret_bool (by unfold placed; rw [if_neg hk1, if_neg (by simpa using h2), if_pos (by simpa using h7), hl2]), hw.1⟩
      · refine H_skip ?_
        refine blockJ_normal ?_
        refine thenJ_normal ?_
        refine H_seq ?_
        refine R0 ?_
        refine xV (e_fld Tryz.underlying57 rfl Tryz.sizeOf3 rfl (q0 rfl)) rfl rfl ?_
        refine xV (eL Tryz.isAgg3 (q0 rfl)) rfl rfl ?_
        refine xV (e_eq (q0 rfl) (q0 rfl)) rfl rfl ?_
        refine xV (e_as (v := .bool _) (q0 rfl)) rfl rfl ?_
        refine XN ?_
        refine thenJ_normal ?_
        refine H_ret ?_
        exact ret1 (v := .bool _) rfl rfl rfl fun w' hw => ⟨ret_bool (by unfold placed; rw [if_neg hk1, if_neg (by simpa using h2), if_neg (by simpa using h7)]), hw.1⟩
theorem rplaced_w (f : Fl) (a : FA) (e : Ev) (w : World) (hx : FlAt w f a) (hp : -9223372036854775808 ≤ e.place ∧ e.place ≤ 9223372036854775807) : Calls Tryz.prog 95 #[.agg (f.cells a).toArray, .agg e.cells.toArray] w fun r w' => r = .returned (.bool (placed f e)) ∧ Bel w w' := by
  have hl := hx.docks.1
  have hl2 := hx.trucks.1
  have hn2 := hx.trucks.2.1
  refine H_enter Tryz.func95 rfl Tryz.ntmps95 rfl ?_
  refine H_seq ?_
  refine R0 ?_
  refine X_box (v := .agg _) rfl rfl fun b2 => ?_
  refine X_box (v := .agg _) rfl rfl fun b3 => ?_
  refine xV (e_as (v := .bool _) (q0 rfl)) rfl rfl ?_
  refine XN ?_
  refine thenJ_normal ?_
  refine H_seq ?_
  refine H_seq ?_
  refine R0 ?_
  refine xV (e_fld Tryz.underlying57 rfl Tryz.sizeOf3 rfl (q0 rfl)) rfl rfl ?_
  refine xV (eL Tryz.isAgg3 (q0 rfl)) rfl rfl ?_
  refine XN ?_
  refine thenJ_normal ?_
  refine H_block ?_
  refine H_seq ?_
  refine R0 ?_
  refine xV (e_eq (q0 rfl) (q0 rfl)) rfl rfl ?_
  refine xV (e_as (v := .bool _) (q0 rfl)) rfl rfl ?_
  refine XN ?_
  refine thenJ_normal ?_
  refine H_cond rfl (fun h1 => ?_) (fun h1 => ?_)
  · have hk1 : e.kind = 1 := by simpa using h1
    by_cases hin : (decide (0 ≤ e.place) && decide (e.place.tdiv 32 < (a.dn : Int))) = true
    case neg =>
      have hd : (decide (0 ≤ e.place) && decide (e.place.tdiv 32 < (a.dn : Int))) = false := by simpa using hin
      refine H_seq ?_
      refine R1 rfl (by decide +kernel) ?_
      refine xV (e_fld Tryz.underlying57 rfl Tryz.sizeOf3 rfl (q0 rfl)) rfl rfl ?_
      refine xV (eL Tryz.isAgg3 (q0 rfl)) rfl rfl ?_
      refine xV (e_quoT (q0 rfl) (q0 rfl) (fun _ => by omega)) rfl rfl ?_
      refine xV (e_fld Tryz.underlying57 rfl Tryz.sizeOf3 rfl (q0 rfl)) rfl rfl ?_
      refine xV (eL Tryz.isAgg3 (q0 rfl)) rfl rfl ?_
      refine xV (e_remT (q0 rfl) (q0 rfl) (fun _ => by omega)) rfl rfl ?_
      refine xV (e_as (v := .int _ _) (q0 rfl)) rfl rfl ?_
      refine xV (e_as (v := .int _ _) (q0 rfl)) rfl rfl ?_
      refine XN ?_
      refine thenJ_normal ?_
      refine H_seq ?_
      refine R0 ?_
      refine xV (e_fld Tryz.underlying57 rfl Tryz.sizeOf3 rfl (q0 rfl)) rfl rfl ?_
      refine xV (eL Tryz.isAgg3 (q0 rfl)) rfl rfl ?_
      refine xV (e_ge (q0 rfl) (q0 rfl)) rfl rfl ?_
      refine xV (e_mv (v := .bool _) (q0 rfl)) rfl rfl ?_
      refine xVT (e_mv (v := .int _ _) (q0 rfl)) rfl rfl rfl rfl ?_
      refine xVT (e_fld Tryz.underlying24 rfl Tryz.sizeOf22 rfl (q0 rfl)) rfl rfl rfl rfl ?_
      refine xVT (eL Tryz.isAgg22 (q1 rfl)) rfl rfl rfl rfl ?_
      refine xVT (e_len Tryz.underlying22 (q1 rfl)) rfl rfl rfl rfl ?_
      refine xVT (e_lt (q1 rfl) (q1 rfl)) rfl rfl rfl rfl ?_
      refine xV (e_and (q0 rfl) rfl (fun h => by first | rfl | (rw [h]; rfl))) rfl rfl ?_
      refine xV (e_mv (v := .bool _) (q0 rfl)) rfl rfl ?_
      refine xVT (e_dead (v := .int .i64 0) (hd)) rfl rfl rfl rfl ?_
      refine xVT (e_dead (v := .pointer none) (hd)) rfl rfl rfl rfl ?_
      refine xVT (e_dead (v := .slice none 0 0) (hd)) rfl rfl rfl rfl ?_
      refine xVT (e_dead (v := .int .i64 0) (hd)) rfl rfl rfl rfl ?_
      refine xVT (e_dead (v := .pointer none) (hd)) rfl rfl rfl rfl ?_
      refine xVT (e_dead (v := .int .i64 0) (hd)) rfl rfl rfl rfl ?_
      refine xVT (e_dead (v := .bool false) (hd)) rfl rfl rfl rfl ?_
      refine xV (e_and (q0 rfl) rfl (fun h => by first | rfl | (rw [h]; rfl))) rfl rfl ?_
      refine xV (e_as (v := .bool _) (q0 rfl)) rfl rfl ?_
      refine XN ?_
      refine thenJ_normal ?_
      refine H_ret ?_
      refine blockJ_ret ?_
      refine thenJ_ret ?_
      exact ret1 (v := .bool _) rfl rfl rfl fun w' hw => ⟨ret_bool (by unfold placed; rw [if_pos hk1, hl, hd]; rfl), hw.1⟩
    case pos =>
      have h0 : 0 ≤ e.place := by simp at hin; exact hin.1
      have hlt : e.place.tdiv 32 < (a.dn : Int) := by simp at hin; exact hin.2
      have hq : 0 ≤ e.place.tdiv 32 := Int.tdiv_nonneg h0 (by decide)
      have hj : e.place.tdiv 32 = ((e.place.tdiv 32).toNat : Int) := by omega
      have hjn : (e.place.tdiv 32).toNat < a.dn := by omega
      obtain ⟨dA, dn, dc, tA, tn, tc⟩ := a
      obtain ⟨b, off, x, hA, hbl, hxk, hrx⟩ := hx.docks.at_ hjn
      simp only at hA
      subst hA
      refine H_seq ?_
      refine R1 rfl (by decide +kernel) ?_
      refine xV (e_fld Tryz.underlying57 rfl Tryz.sizeOf3 rfl (q0 rfl)) rfl rfl ?_
      refine xV (eL Tryz.isAgg3 (q0 rfl)) rfl rfl ?_
      refine xV (e_quoT (q0 rfl) (q0 rfl) (fun _ => by omega)) rfl rfl ?_
      refine xV (e_fld Tryz.underlying57 rfl Tryz.sizeOf3 rfl (q0 rfl)) rfl rfl ?_
      refine xV (eL Tryz.isAgg3 (q0 rfl)) rfl rfl ?_
      refine xV (e_remT (q0 rfl) (q0 rfl) (fun _ => by omega)) rfl rfl ?_
      refine xV (e_as (v := .int _ _) (q0 rfl)) rfl rfl ?_
      refine xV (e_as (v := .int _ _) (q0 rfl)) rfl rfl ?_
      refine XN ?_
      refine thenJ_normal ?_
      refine H_seq ?_
      refine R0 ?_
      refine xV (e_fld Tryz.underlying57 rfl Tryz.sizeOf3 rfl (q0 rfl)) rfl rfl ?_
      refine xV (eL Tryz.isAgg3 (q0 rfl)) rfl rfl ?_
      refine xV (e_ge (q0 rfl) (q0 rfl)) rfl rfl ?_
      refine xV (e_mv (v := .bool _) (q0 rfl)) rfl rfl ?_
      refine xVT (e_mv (v := .int _ _) (q0 rfl)) rfl rfl rfl rfl ?_
      refine xVT (e_fld Tryz.underlying24 rfl Tryz.sizeOf22 rfl (q0 rfl)) rfl rfl rfl rfl ?_
      refine xVT (eL Tryz.isAgg22 (q1 rfl)) rfl rfl rfl rfl ?_
      refine xVT (e_len Tryz.underlying22 (q1 rfl)) rfl rfl rfl rfl ?_
      refine xVT (e_lt (q1 rfl) (q1 rfl)) rfl rfl rfl rfl ?_
      refine xV (e_and (q0 rfl) rfl (fun h => by first | rfl | (rw [h]; rfl))) rfl rfl ?_
      refine xV (e_mv (v := .bool _) (q0 rfl)) rfl rfl ?_
      refine xVT (e_mv (v := .int _ _) (q0 rfl)) rfl rfl rfl rfl ?_
      refine xVT (e_fld Tryz.underlying24 rfl Tryz.sizeOf22 rfl (q0 rfl)) rfl rfl rfl rfl ?_
      refine xVT (eL Tryz.isAgg22 (q1 rfl)) rfl rfl rfl rfl ?_
      refine xVT (e_mv (v := .int _ _) (q0 rfl)) rfl rfl rfl rfl ?_
      refine xVT (e_idx (e.place.tdiv 32).toNat Tryz.underlying22 Tryz.sizeOf3 (q1 rfl) (q1 rfl) (fun _ => ⟨hj, hjn⟩)) rfl rfl rfl rfl ?_
      refine xVT (eL Tryz.isAgg3 (q1 rfl)) rfl rfl rfl rfl ?_
      refine xVT (e_lt (q1 rfl) (q1 rfl)) rfl rfl rfl rfl ?_
      refine xV (e_and (q0 rfl) rfl (fun h => by first | rfl | (rw [h]; rfl))) rfl rfl ?_
      refine xV (e_as (v := .bool _) (q0 rfl)) rfl rfl ?_
      refine XN ?_
      refine thenJ_normal ?_
      refine H_ret ?_
      refine blockJ_ret ?_
      refine thenJ_ret ?_
      exact ret1 (v := .bool _) rfl rfl rfl fun w' hw => ⟨ret_bool (by unfold placed; rw [if_pos hk1, List.getD_eq_getElem?_getD, hxk, hl]; rfl), hw.1⟩
  · have hk1 : ¬ e.kind = 1 := by simpa using h1
    refine H_seq ?_
    refine R0 ?_
    refine xV (e_eq (q0 rfl) (q0 rfl)) rfl rfl ?_
    refine xV (e_as (v := .bool _) (q0 rfl)) rfl rfl ?_
    refine XN ?_
    refine thenJ_normal ?_
    refine H_cond rfl (fun h2 => ?_) (fun h2 => ?_)
    · refine H_seq ?_
      refine R0 ?_
      refine xV (e_fld Tryz.underlying57 rfl Tryz.sizeOf3 rfl (q0 rfl)) rfl rfl ?_
      refine xV (eL Tryz.isAgg3 (q0 rfl)) rfl rfl ?_
      refine xC (en Tryz.call56 (ha3 (q0 rfl) (q0 rfl) (q0 rfl))) (fun _ w _ => between_w e.place 0 63 w) rfl rfl ?_
      refine xV (e_as (v := .bool _) (q0 rfl)) rfl rfl ?_
      refine XN ?_
      refine thenJ_normal ?_
      refine H_ret ?_
      refine blockJ_ret ?_
      refine thenJ_ret ?_
      exact ret1 (v := .bool _) rfl rfl rfl fun w' hw => ⟨ret_bool (by unfold placed; rw [if_neg hk1, if_pos (by simpa using h2)]), hw.1⟩
    · refine H_seq ?_
      refine R0 ?_
      refine xV (e_eq (q0 rfl) (q0 rfl)) rfl rfl ?_
      refine xV (e_as (v := .bool _) (q0 rfl)) rfl rfl ?_
      refine XN ?_
      refine thenJ_normal ?_
      refine H_cond rfl (fun h7 => ?_) (fun h7 => ?_)
      · refine H_seq ?_
        refine R0 ?_
        refine xV (e_fld Tryz.underlying57 rfl Tryz.sizeOf3 rfl (q0 rfl)) rfl rfl ?_
        refine xV (eL Tryz.isAgg3 (q0 rfl)) rfl rfl ?_
        refine xV (e_fld Tryz.underlying24 rfl Tryz.sizeOf22 rfl (q0 rfl)) rfl rfl ?_
        refine xV (eL Tryz.isAgg22 (q0 rfl)) rfl rfl ?_
        refine xV (e_len Tryz.underlying22 (q0 rfl)) rfl rfl ?_
        refine xV (e_sub (q0 rfl) (q0 rfl) (fun _ => ⟨rfl, by omega, by omega⟩)) rfl rfl ?_
        refine xC (en Tryz.call56 (ha3 (q0 rfl) (q0 rfl) (q0 rfl))) (fun _ w _ => between_w e.place 0 ((a.tn : Int) - 1) w) rfl rfl ?_
        refine xV (e_as (v := .bool _) (q0 rfl)) rfl rfl ?_
        refine XN ?_
        refine thenJ_normal ?_
        refine H_ret ?_
        refine blockJ_ret ?_
        refine thenJ_ret ?_
        exact ret1 (v := .bool _) rfl rfl rfl fun w' hw => ⟨ret_bool (by unfold placed; rw [if_neg hk1, if_neg (by simpa using h2), if_pos (by simpa using h7), hl2]), hw.1⟩
      · refine H_skip ?_
        refine blockJ_normal ?_
        refine thenJ_normal ?_
        refine H_seq ?_
        refine R0 ?_
        refine xV (e_fld Tryz.underlying57 rfl Tryz.sizeOf3 rfl (q0 rfl)) rfl rfl ?_
        refine xV (eL Tryz.isAgg3 (q0 rfl)) rfl rfl ?_
        refine xV (e_eq (q0 rfl) (q0 rfl)) rfl rfl ?_
        refine xV (e_as (v := .bool _) (q0 rfl)) rfl rfl ?_
        refine XN ?_
        refine thenJ_normal ?_
        refine H_ret ?_
        exact ret1 (v := .bool _) rfl rfl rfl fun w' hw => ⟨ret_bool (by unfold placed; rw [if_neg hk1, if_neg (by simpa using h2), if_neg (by simpa using h7)]), hw.1⟩
attribute [local irreducible] placed
theorem named_w (f : Fl) (a : FA) (e : Ev) (w : World) (hr : 0 ≤ f.riders ∧ f.riders ≤ 1000) : Calls Tryz.prog 74 #[.agg (f.cells a).toArray, .agg e.cells.toArray] w fun r w' => r = .returned (.bool (named f e)) ∧ Bel w w' := by
  refine H_enter Tryz.func74 rfl Tryz.ntmps74 rfl ?_
  refine H_seq ?_
  refine R0 ?_
  refine X_box (v := .agg _) rfl rfl fun b2 => ?_
  refine X_box (v := .agg _) rfl rfl fun b3 => ?_
  refine xV (e_as (v := .bool _) (q0 rfl)) rfl rfl ?_
  refine XN ?_
  refine thenJ_normal ?_
  refine H_seq ?_
  refine R1 rfl (by decide +kernel) ?_
  refine xV (e_fld Tryz.underlying57 rfl Tryz.sizeOf3 rfl (q0 rfl)) rfl rfl ?_
  refine xV (eL Tryz.isAgg3 (q0 rfl)) rfl rfl ?_
  refine xV (e_eq (q0 rfl) (q0 rfl)) rfl rfl ?_
  refine xV (e_fld Tryz.underlying57 rfl Tryz.sizeOf3 rfl (q0 rfl)) rfl rfl ?_
  refine xV (eL Tryz.isAgg3 (q0 rfl)) rfl rfl ?_
  refine xV (e_eq (q0 rfl) (q0 rfl)) rfl rfl ?_
  refine xV (e_as (v := .bool _) (q0 rfl)) rfl rfl ?_
  refine xV (e_as (v := .bool _) (q0 rfl)) rfl rfl ?_
  refine XN ?_
  refine thenJ_normal ?_
  refine H_seq ?_
  refine H_seq ?_
  refine R0 ?_
  refine xV (e_fld Tryz.underlying57 rfl Tryz.sizeOf3 rfl (q0 rfl)) rfl rfl ?_
  refine xV (eL Tryz.isAgg3 (q0 rfl)) rfl rfl ?_
  refine xV (e_eq (q0 rfl) (q0 rfl)) rfl rfl ?_
  refine XN ?_
  refine thenJ_normal ?_
  refine H_cond rfl (fun h3 => ?_) (fun h3 => ?_)
  · have hk : e.kind = 3 := by simpa using h3
    refine R0 ?_
    refine xV (e_fld Tryz.underlying57 rfl Tryz.sizeOf3 rfl (q0 rfl)) rfl rfl ?_
    refine xV (eL Tryz.isAgg3 (q0 rfl)) rfl rfl ?_
    refine xV (e_fld Tryz.underlying24 rfl Tryz.sizeOf3 rfl (q0 rfl)) rfl rfl ?_
    refine xV (eL Tryz.isAgg3 (q0 rfl)) rfl rfl ?_
    refine xV (e_sub (q0 rfl) (q0 rfl) (fun _ => ⟨rfl, by omega, by omega⟩)) rfl rfl ?_
    refine xC (en Tryz.call63 (ha3 (q0 rfl) (q0 rfl) (q0 rfl))) (fun _ w _ => within_w e.rider 0 (f.riders - 1) w) rfl rfl ?_
    refine xV (e_as (v := .bool _) (q0 rfl)) rfl rfl ?_
    refine XN ?_
    refine thenJ_normal ?_
    refine H_seq ?_
    refine H_seq ?_
    refine R0 ?_
    refine xV (e_fld Tryz.underlying57 rfl Tryz.sizeOf3 rfl (q0 rfl)) rfl rfl ?_
    refine xV (eL Tryz.isAgg3 (q0 rfl)) rfl rfl ?_
    refine xV (e_eq (q0 rfl) (q0 rfl)) rfl rfl ?_
    refine xV (e_mv (v := .bool _) (q0 rfl)) rfl rfl ?_
    refine xVF (e_fld Tryz.underlying57 rfl Tryz.sizeOf3 rfl (q0 rfl)) rfl rfl rfl rfl ?_
    refine xVF (eL Tryz.isAgg3 (q1 rfl)) rfl rfl rfl rfl ?_
    refine xVF (e_eq (q1 rfl) (q0 rfl)) rfl rfl rfl rfl ?_
    refine xV (e_or (q0 rfl) rfl (fun h => by first | rfl | (rw [h]; rfl))) rfl rfl ?_
    refine XN ?_
    refine thenJ_normal ?_
    refine H_cond rfl (fun h4 => ?_) (fun h4 => ?_)
    · refine R0 ?_
      refine xV (e_fld Tryz.underlying57 rfl Tryz.sizeOf3 rfl (q0 rfl)) rfl rfl ?_
      refine xV (eL Tryz.isAgg3 (q0 rfl)) rfl rfl ?_
      refine xC (en Tryz.call63 (ha3 (q0 rfl) (q0 rfl) (q0 rfl))) (fun _ w _ => within_w e.ride 1 1000000 w) rfl rfl ?_
      refine xV (e_as (v := .bool _) (q0 rfl)) rfl rfl ?_
      refine XN ?_
      refine thenJ_normal ?_
      refine H_seq ?_
      refine R0 ?_
      refine xV (e_mv (v := .bool _) (q0 rfl)) rfl rfl ?_
      refine xV (e_mv (v := .bool _) (q0 rfl)) rfl rfl ?_
      refine xVT (e_mv (v := .bool _) (q0 rfl)) rfl rfl rfl rfl ?_
      refine xV (e_and (q0 rfl) rfl (fun h => by first | rfl | (rw [h]; rfl))) rfl rfl ?_
      refine xV (e_as (v := .bool _) (q0 rfl)) rfl rfl ?_
      refine XN ?_
      refine thenJ_normal ?_
      refine H_ret ?_
      exact ret1 (v := .bool _) rfl rfl rfl fun w' hw => ⟨ret_bool (by unfold named; rw [if_pos hk, if_pos (Or.inl hk)]), hw.1⟩
    · simp [hk] at h4
  · have hk : ¬ e.kind = 3 := by simpa using h3
    refine H_skip ?_
    refine thenJ_normal ?_
    refine H_seq ?_
    refine H_seq ?_
    refine R0 ?_
    refine xV (e_fld Tryz.underlying57 rfl Tryz.sizeOf3 rfl (q0 rfl)) rfl rfl ?_
    refine xV (eL Tryz.isAgg3 (q0 rfl)) rfl rfl ?_
    refine xV (e_eq (q0 rfl) (q0 rfl)) rfl rfl ?_
    refine xV (e_mv (v := .bool _) (q0 rfl)) rfl rfl ?_
    refine xVF (e_fld Tryz.underlying57 rfl Tryz.sizeOf3 rfl (q0 rfl)) rfl rfl rfl rfl ?_
    refine xVF (eL Tryz.isAgg3 (q1 rfl)) rfl rfl rfl rfl ?_
    refine xVF (e_eq (q1 rfl) (q0 rfl)) rfl rfl rfl rfl ?_
    refine xV (e_or (q0 rfl) rfl (fun h => by first | rfl | (rw [h]; rfl))) rfl rfl ?_
    refine XN ?_
    refine thenJ_normal ?_
    refine H_cond rfl (fun h4 => ?_) (fun h4 => ?_)
    · refine R0 ?_
      refine xV (e_fld Tryz.underlying57 rfl Tryz.sizeOf3 rfl (q0 rfl)) rfl rfl ?_
      refine xV (eL Tryz.isAgg3 (q0 rfl)) rfl rfl ?_
      refine xC (en Tryz.call63 (ha3 (q0 rfl) (q0 rfl) (q0 rfl))) (fun _ w _ => within_w e.ride 1 1000000 w) rfl rfl ?_
      refine xV (e_as (v := .bool _) (q0 rfl)) rfl rfl ?_
      refine XN ?_
      refine thenJ_normal ?_
      refine H_seq ?_
      refine R0 ?_
      refine xV (e_mv (v := .bool _) (q0 rfl)) rfl rfl ?_
      refine xV (e_mv (v := .bool _) (q0 rfl)) rfl rfl ?_
      refine xVT (e_mv (v := .bool _) (q0 rfl)) rfl rfl rfl rfl ?_
      refine xV (e_and (q0 rfl) rfl (fun h => by first | rfl | (rw [h]; rfl))) rfl rfl ?_
      refine xV (e_as (v := .bool _) (q0 rfl)) rfl rfl ?_
      refine XN ?_
      refine thenJ_normal ?_
      refine H_ret ?_
      exact ret1 (v := .bool _) rfl rfl rfl fun w' hw => ⟨ret_bool (by unfold named; rw [if_neg hk, if_pos (by simpa using h4)]), hw.1⟩
    · refine H_skip ?_
      refine thenJ_normal ?_
      refine H_seq ?_
      refine R0 ?_
      refine xV (e_mv (v := .bool _) (q0 rfl)) rfl rfl ?_
      refine xV (e_mv (v := .bool _) (q0 rfl)) rfl rfl ?_
      refine xVT (e_mv (v := .bool _) (q0 rfl)) rfl rfl rfl rfl ?_
      refine xV (e_and (q0 rfl) rfl (fun h => by first | rfl | (rw [h]; rfl))) rfl rfl ?_
      refine xV (e_as (v := .bool _) (q0 rfl)) rfl rfl ?_
      refine XN ?_
      refine thenJ_normal ?_
      refine H_ret ?_
      exact ret1 (v := .bool _) rfl rfl rfl fun w' hw => ⟨ret_bool (by unfold named; rw [if_neg hk, if_neg (by simpa using h4)]), hw.1⟩
theorem within_one (n m : Int) : within n m m = decide (n = m) := by unfold within; rw [Bool.eq_iff_iff]; simp; omega
theorem rnamed_w (f : Fl) (a : FA) (e : Ev) (w : World) (hr : 0 ≤ f.riders ∧ f.riders ≤ 1000) : Calls Tryz.prog 96 #[.agg (f.cells a).toArray, .agg e.cells.toArray] w fun r w' => r = .returned (.bool (named f e)) ∧ Bel w w' := by
  refine H_enter Tryz.func96 rfl Tryz.ntmps96 rfl ?_
  refine H_seq ?_
  refine R0 ?_
  refine X_box (v := .agg _) rfl rfl fun b2 => ?_
  refine X_box (v := .agg _) rfl rfl fun b3 => ?_
  refine xV (e_as (v := .bool _) (q0 rfl)) rfl rfl ?_
  refine XN ?_
  refine thenJ_normal ?_
  refine H_seq ?_
  refine R0 ?_
  refine xV (e_as (v := .int _ _) (q0 rfl)) rfl rfl ?_
  refine xV (e_as (v := .int _ _) (q0 rfl)) rfl rfl ?_
  refine XN ?_
  refine thenJ_normal ?_
  refine H_seq ?_
  refine R0 ?_
  refine xV (e_as (v := .int _ _) (q0 rfl)) rfl rfl ?_
  refine XN ?_
  refine thenJ_normal ?_
  refine H_seq ?_
  refine H_seq ?_
  refine R0 ?_
  refine xV (e_fld Tryz.underlying57 rfl Tryz.sizeOf3 rfl (q0 rfl)) rfl rfl ?_
  refine xV (eL Tryz.isAgg3 (q0 rfl)) rfl rfl ?_
  refine xV (e_eq (q0 rfl) (q0 rfl)) rfl rfl ?_
  refine XN ?_
  refine thenJ_normal ?_
  refine H_cond rfl (fun h3 => ?_) (fun h3 => ?_)
  · have hk : e.kind = 3 := by simpa using h3
    refine R0 ?_
    refine xV (e_fld Tryz.underlying24 rfl Tryz.sizeOf3 rfl (q0 rfl)) rfl rfl ?_
    refine xV (eL Tryz.isAgg3 (q0 rfl)) rfl rfl ?_
    refine xV (e_sub (q0 rfl) (q0 rfl) (fun _ => ⟨rfl, by omega, by omega⟩)) rfl rfl ?_
    refine xV (e_as (v := .int _ _) (q0 rfl)) rfl rfl ?_
    refine XN ?_
    refine thenJ_normal ?_
    refine H_seq ?_
    refine H_seq ?_
    refine R0 ?_
    refine xV (e_fld Tryz.underlying57 rfl Tryz.sizeOf3 rfl (q0 rfl)) rfl rfl ?_
    refine xV (eL Tryz.isAgg3 (q0 rfl)) rfl rfl ?_
    refine xV (e_eq (q0 rfl) (q0 rfl)) rfl rfl ?_
    refine xV (e_mv (v := .bool _) (q0 rfl)) rfl rfl ?_
    refine xVF (e_fld Tryz.underlying57 rfl Tryz.sizeOf3 rfl (q0 rfl)) rfl rfl rfl rfl ?_
    refine xVF (eL Tryz.isAgg3 (q1 rfl)) rfl rfl rfl rfl ?_
    refine xVF (e_eq (q1 rfl) (q0 rfl)) rfl rfl rfl rfl ?_
    refine xV (e_or (q0 rfl) rfl (fun h => by first | rfl | (rw [h]; rfl))) rfl rfl ?_
    refine XN ?_
    refine thenJ_normal ?_
    refine H_cond rfl (fun h4 => ?_) (fun h4 => ?_)
    · refine R0 ?_
      refine xV (e_as (v := .int _ _) (q0 rfl)) rfl rfl ?_
      refine xV (e_as (v := .int _ _) (q0 rfl)) rfl rfl ?_
      refine XN ?_
      refine thenJ_normal ?_
      refine H_seq ?_
      refine R0 ?_
      refine xV (e_fld Tryz.underlying57 rfl Tryz.sizeOf3 rfl (q0 rfl)) rfl rfl ?_
      refine xV (eL Tryz.isAgg3 (q0 rfl)) rfl rfl ?_
      refine xV (e_mv (v := .int _ _) (q0 rfl)) rfl rfl ?_
      refine xC (en Tryz.call56 (ha3 (q0 rfl) (q0 rfl) (q0 rfl))) (fun _ w _ => between_w e.rider 0 (f.riders - 1) w) rfl rfl ?_
      refine xV (e_mv (v := .bool _) (q0 rfl)) rfl rfl ?_
      refine xVT (e_fld Tryz.underlying57 rfl Tryz.sizeOf3 rfl (q0 rfl)) rfl rfl rfl rfl ?_
      refine xVT (eL Tryz.isAgg3 (q1 rfl)) rfl rfl rfl rfl ?_
      refine xVT (e_mv (v := .int _ _) (q0 rfl)) rfl rfl rfl rfl ?_
      refine xVT (e_mv (v := .int _ _) (q0 rfl)) rfl rfl rfl rfl ?_
      refine xCT (en Tryz.call56 (ha3 (q1 (v := .int _ _) rfl) (q1 (v := .int _ _) rfl) (q1 (v := .int _ _) rfl))) (fun _ w _ => between_w e.ride 1 1000000 w) rfl rfl rfl rfl ?_
      refine xV (e_and (q0 rfl) rfl (fun h => by first | rfl | (rw [h]; rfl))) rfl rfl ?_
      refine xV (e_as (v := .bool _) (q0 rfl)) rfl rfl ?_
      refine XN ?_
      refine thenJ_normal ?_
      refine H_ret ?_
      exact ret1 (v := .bool _) rfl rfl rfl fun w' hw => ⟨ret_bool (by unfold named; rw [if_pos hk, if_pos (Or.inl hk)]), hw.1⟩
    · simp [hk] at h4
  · have hk : ¬ e.kind = 3 := by simpa using h3
    refine H_skip ?_
    refine thenJ_normal ?_
    refine H_seq ?_
    refine H_seq ?_
    refine R0 ?_
    refine xV (e_fld Tryz.underlying57 rfl Tryz.sizeOf3 rfl (q0 rfl)) rfl rfl ?_
    refine xV (eL Tryz.isAgg3 (q0 rfl)) rfl rfl ?_
    refine xV (e_eq (q0 rfl) (q0 rfl)) rfl rfl ?_
    refine xV (e_mv (v := .bool _) (q0 rfl)) rfl rfl ?_
    refine xVF (e_fld Tryz.underlying57 rfl Tryz.sizeOf3 rfl (q0 rfl)) rfl rfl rfl rfl ?_
    refine xVF (eL Tryz.isAgg3 (q1 rfl)) rfl rfl rfl rfl ?_
    refine xVF (e_eq (q1 rfl) (q0 rfl)) rfl rfl rfl rfl ?_
    refine xV (e_or (q0 rfl) rfl (fun h => by first | rfl | (rw [h]; rfl))) rfl rfl ?_
    refine XN ?_
    refine thenJ_normal ?_
    refine H_cond rfl (fun h4 => ?_) (fun h4 => ?_)
    · refine R0 ?_
      refine xV (e_as (v := .int _ _) (q0 rfl)) rfl rfl ?_
      refine xV (e_as (v := .int _ _) (q0 rfl)) rfl rfl ?_
      refine XN ?_
      refine thenJ_normal ?_
      refine H_seq ?_
      refine R0 ?_
      refine xV (e_fld Tryz.underlying57 rfl Tryz.sizeOf3 rfl (q0 rfl)) rfl rfl ?_
      refine xV (eL Tryz.isAgg3 (q0 rfl)) rfl rfl ?_
      refine xV (e_mv (v := .int _ _) (q0 rfl)) rfl rfl ?_
      refine xC (en Tryz.call56 (ha3 (q0 rfl) (q0 rfl) (q0 rfl))) (fun _ w _ => between_w e.rider 0 0 w) rfl rfl ?_
      refine xV (e_mv (v := .bool _) (q0 rfl)) rfl rfl ?_
      refine xVT (e_fld Tryz.underlying57 rfl Tryz.sizeOf3 rfl (q0 rfl)) rfl rfl rfl rfl ?_
      refine xVT (eL Tryz.isAgg3 (q1 rfl)) rfl rfl rfl rfl ?_
      refine xVT (e_mv (v := .int _ _) (q0 rfl)) rfl rfl rfl rfl ?_
      refine xVT (e_mv (v := .int _ _) (q0 rfl)) rfl rfl rfl rfl ?_
      refine xCT (en Tryz.call56 (ha3 (q1 (v := .int _ _) rfl) (q1 (v := .int _ _) rfl) (q1 (v := .int _ _) rfl))) (fun _ w _ => between_w e.ride 1 1000000 w) rfl rfl rfl rfl ?_
      refine xV (e_and (q0 rfl) rfl (fun h => by first | rfl | (rw [h]; rfl))) rfl rfl ?_
      refine xV (e_as (v := .bool _) (q0 rfl)) rfl rfl ?_
      refine XN ?_
      refine thenJ_normal ?_
      refine H_ret ?_
      exact ret1 (v := .bool _) rfl rfl rfl fun w' hw => ⟨ret_bool (by unfold named; rw [if_neg hk, if_pos (by simpa using h4), within_one]), hw.1⟩
    · refine H_skip ?_
      refine thenJ_normal ?_
      refine H_seq ?_
      refine R0 ?_
      refine xV (e_fld Tryz.underlying57 rfl Tryz.sizeOf3 rfl (q0 rfl)) rfl rfl ?_
      refine xV (eL Tryz.isAgg3 (q0 rfl)) rfl rfl ?_
      refine xV (e_mv (v := .int _ _) (q0 rfl)) rfl rfl ?_
      refine xC (en Tryz.call56 (ha3 (q0 rfl) (q0 rfl) (q0 rfl))) (fun _ w _ => between_w e.rider 0 0 w) rfl rfl ?_
      refine xV (e_mv (v := .bool _) (q0 rfl)) rfl rfl ?_
      refine xVT (e_fld Tryz.underlying57 rfl Tryz.sizeOf3 rfl (q0 rfl)) rfl rfl rfl rfl ?_
      refine xVT (eL Tryz.isAgg3 (q1 rfl)) rfl rfl rfl rfl ?_
      refine xVT (e_mv (v := .int _ _) (q0 rfl)) rfl rfl rfl rfl ?_
      refine xVT (e_mv (v := .int _ _) (q0 rfl)) rfl rfl rfl rfl ?_
      refine xCT (en Tryz.call56 (ha3 (q1 (v := .int _ _) rfl) (q1 (v := .int _ _) rfl) (q1 (v := .int _ _) rfl))) (fun _ w _ => between_w e.ride 0 0 w) rfl rfl rfl rfl ?_
      refine xV (e_and (q0 rfl) rfl (fun h => by first | rfl | (rw [h]; rfl))) rfl rfl ?_
      refine xV (e_as (v := .bool _) (q0 rfl)) rfl rfl ?_
      refine XN ?_
      refine thenJ_normal ?_
      refine H_ret ?_
      exact ret1 (v := .bool _) rfl rfl rfl fun w' hw => ⟨ret_bool (by unfold named; rw [if_neg hk, if_neg (by simpa using h4), within_one, within_one]), hw.1⟩
attribute [local irreducible] named
theorem check_w (f : Fl) (a : FA) (e : Ev) (w : World) (hx : FlAt w f a) (hp : -9223372036854775808 ≤ e.place ∧ e.place ≤ 9223372036854775807) : Calls Tryz.prog 51 #[.agg (f.cells a).toArray, .agg e.cells.toArray] w fun r w' => r = .returned (.int .i64 (evErr f e)) ∧ Bel w w' := by
  refine H_enter Tryz.func51 rfl Tryz.ntmps51 rfl ?_
  refine H_seq ?_
  refine R0 ?_
  refine X_box (v := .agg _) rfl rfl fun b2 => ?_
  refine X_box (v := .agg _) rfl rfl fun b3 => ?_
  refine xV (e_as (v := .int _ _) (q0 rfl)) rfl rfl ?_
  refine XN ?_
  refine thenJ_normal ?_
  refine H_seq ?_
  refine H_seq ?_
  refine R0 ?_
  refine xV (eS Tryz.isAgg24 Tryz.sizeOf24 (q0 rfl)) rfl rfl ?_
  refine xC (en Tryz.call48 (ha1 (q0 rfl))) (fun _ w hm => fleet_w f a w (hx.mem hm)) rfl rfl ?_
  refine xV (e_as (v := .int _ _) (q0 rfl)) rfl rfl ?_
  refine XN ?_
  refine thenJ_normal ?_
  refine H_seq ?_
  refine R0 ?_
  refine xV (e_mv (v := .int _ _) (q0 rfl)) rfl rfl ?_
  refine xV (e_ne (q0 rfl) (q0 rfl)) rfl rfl ?_
  refine XN ?_
  refine thenJ_normal ?_
  refine H_cond rfl (fun h0 => ?_) (fun h0 => ?_)
  · refine H_seq ?_
    refine R0 ?_
    refine xV (e_mv (v := .int _ _) (q0 rfl)) rfl rfl ?_
    refine xV (e_as (v := .int _ _) (q0 rfl)) rfl rfl ?_
    refine XN ?_
    refine thenJ_normal ?_
    refine H_ret ?_
    refine thenJ_ret ?_
    exact ret1 (v := .int _ _) rfl rfl rfl fun w' hw => ⟨ret_int (by unfold evErr; rw [if_pos (by simpa using h0)]), hw.1⟩
  · have hf : flErr f = 0 := by simpa using h0
    have hf' : ¬ flErr f ≠ 0 := by simpa using hf
    have hb := flErr_ok hf
    refine H_skip ?_
    refine thenJ_normal ?_
    refine H_seq ?_
    refine H_seq ?_
    refine R0 ?_
    refine xV (e_fld Tryz.underlying57 rfl Tryz.sizeOf3 rfl (q0 rfl)) rfl rfl ?_
    refine xV (eL Tryz.isAgg3 (q0 rfl)) rfl rfl ?_
    refine xV (e_fld Tryz.underlying24 rfl Tryz.sizeOf3 rfl (q0 rfl)) rfl rfl ?_
    refine xV (eL Tryz.isAgg3 (q0 rfl)) rfl rfl ?_
    refine xV (e_sub (q0 rfl) (q0 rfl) (fun _ => ⟨rfl, by omega, by omega⟩)) rfl rfl ?_
    refine xC (en Tryz.call63 (ha3 (q0 rfl) (q0 rfl) (q0 rfl))) (fun _ w _ => within_w e.device 0 (f.devices - 1) w) rfl rfl ?_
    refine xV (e_not (q0 rfl)) rfl rfl ?_
    refine xV (e_mv (v := .bool _) (q0 rfl)) rfl rfl ?_
    refine xVF (e_fld Tryz.underlying57 rfl Tryz.sizeOf3 rfl (q0 rfl)) rfl rfl rfl rfl ?_
    refine xVF (eL Tryz.isAgg3 (q1 rfl)) rfl rfl rfl rfl ?_
    refine xCF (en Tryz.call63 (ha3 (q1 (v := .int _ _) rfl) (q0 rfl) (q0 rfl))) (fun _ w _ => within_w e.seq 1 1048576 w) rfl rfl rfl rfl ?_
    refine xVF (e_not (q1 rfl)) rfl rfl rfl rfl ?_
    refine xV (e_or (q0 rfl) rfl (fun h => by first | rfl | (rw [h]; rfl))) rfl rfl ?_
    refine xV (e_mv (v := .bool _) (q0 rfl)) rfl rfl ?_
    refine xVF (e_fld Tryz.underlying57 rfl Tryz.sizeOf3 rfl (q0 rfl)) rfl rfl rfl rfl ?_
    refine xVF (eL Tryz.isAgg3 (q1 rfl)) rfl rfl rfl rfl ?_
    refine xVF (e_lt (q1 rfl) (q0 rfl)) rfl rfl rfl rfl ?_
    refine xV (e_or (q0 rfl) rfl (fun h => by first | rfl | (rw [h]; rfl))) rfl rfl ?_
    refine xV (e_mv (v := .bool _) (q0 rfl)) rfl rfl ?_
    refine xVF (e_fld Tryz.underlying57 rfl Tryz.sizeOf3 rfl (q0 rfl)) rfl rfl rfl rfl ?_
    refine xVF (eL Tryz.isAgg3 (q1 rfl)) rfl rfl rfl rfl ?_
    refine xVF (e_fld Tryz.underlying57 rfl Tryz.sizeOf3 rfl (q0 rfl)) rfl rfl rfl rfl ?_
    refine xVF (eL Tryz.isAgg3 (q1 rfl)) rfl rfl rfl rfl ?_
    refine xVF (e_lt (q1 rfl) (q1 rfl)) rfl rfl rfl rfl ?_
    refine xV (e_or (q0 rfl) rfl (fun h => by first | rfl | (rw [h]; rfl))) rfl rfl ?_
    refine xV (e_mv (v := .bool _) (q0 rfl)) rfl rfl ?_
    refine xVF (e_fld Tryz.underlying57 rfl Tryz.sizeOf3 rfl (q0 rfl)) rfl rfl rfl rfl ?_
    refine xVF (eL Tryz.isAgg3 (q1 rfl)) rfl rfl rfl rfl ?_
    refine xVF (e_gt (q1 rfl) (q0 rfl)) rfl rfl rfl rfl ?_
    refine xV (e_or (q0 rfl) rfl (fun h => by first | rfl | (rw [h]; rfl))) rfl rfl ?_
    refine XN ?_
    refine thenJ_normal ?_
    refine H_cond rfl (fun h1 => ?_) (fun h1 => ?_)
    · refine H_seq ?_
      refine R0 ?_
      refine xV (e_as (v := .int _ _) (q0 rfl)) rfl rfl ?_
      refine XN ?_
      refine thenJ_normal ?_
      refine H_ret ?_
      refine thenJ_ret ?_
      exact ret1 (v := .int _ _) rfl rfl rfl fun w' hw => ⟨ret_int (by unfold evErr; rw [if_neg hf', if_pos h1]), hw.1⟩
    · have h1' : ¬ ((((!within e.device 0 (f.devices - 1) || !within e.seq 1 1048576) || decide (e.at_ < 0)) || decide (e.late < e.at_)) || decide (4294943999 < e.late)) = true := by rw [show _ = false from h1]; decide
      refine H_skip ?_
      refine thenJ_normal ?_
      refine H_seq ?_
      refine H_seq ?_
      refine R0 ?_
      refine xV (e_fld Tryz.underlying57 rfl Tryz.sizeOf3 rfl (q0 rfl)) rfl rfl ?_
      refine xV (eL Tryz.isAgg3 (q0 rfl)) rfl rfl ?_
      refine xC (en Tryz.call63 (ha3 (q0 rfl) (q0 rfl) (q0 rfl))) (fun _ w _ => within_w e.kind 1 10 w) rfl rfl ?_
      refine xV (e_not (q0 rfl)) rfl rfl ?_
      refine XN ?_
      refine thenJ_normal ?_
      refine H_cond rfl (fun h2 => ?_) (fun h2 => ?_)
      · refine H_seq ?_
        refine R0 ?_
        refine xV (e_as (v := .int _ _) (q0 rfl)) rfl rfl ?_
        refine XN ?_
        refine thenJ_normal ?_
        refine H_ret ?_
        refine thenJ_ret ?_
        exact ret1 (v := .int _ _) rfl rfl rfl fun w' hw => ⟨ret_int (by unfold evErr; rw [if_neg hf', if_neg h1', if_pos (by simpa using h2)]), hw.1⟩
      · have h2' : ¬ within e.kind 1 10 = false := by simpa using h2
        refine H_skip ?_
        refine thenJ_normal ?_
        refine H_seq ?_
        refine H_seq ?_
        refine R0 ?_
        refine xV (e_fld Tryz.underlying57 rfl Tryz.sizeOf3 rfl (q0 rfl)) rfl rfl ?_
        refine xV (eL Tryz.isAgg3 (q0 rfl)) rfl rfl ?_
        refine xV (e_fld Tryz.underlying24 rfl Tryz.sizeOf3 rfl (q0 rfl)) rfl rfl ?_
        refine xV (eL Tryz.isAgg3 (q0 rfl)) rfl rfl ?_
        refine xV (e_sub (q0 rfl) (q0 rfl) (fun _ => ⟨rfl, by omega, by omega⟩)) rfl rfl ?_
        refine xC (en Tryz.call63 (ha3 (q0 rfl) (q0 rfl) (q0 rfl))) (fun _ w _ => within_w e.bike 0 (f.bikes - 1) w) rfl rfl ?_
        refine xV (e_not (q0 rfl)) rfl rfl ?_
        refine xV (e_mv (v := .bool _) (q0 rfl)) rfl rfl ?_
        refine xVF (e_fld Tryz.underlying57 rfl Tryz.sizeOf3 rfl (q0 rfl)) rfl rfl rfl rfl ?_
        refine xVF (eL Tryz.isAgg3 (q1 rfl)) rfl rfl rfl rfl ?_
        refine xVF (e_eq (q1 rfl) (q0 rfl)) rfl rfl rfl rfl ?_
        refine xVF (e_mv (v := .bool _) (q1 rfl)) rfl rfl rfl rfl ?_
        refine xVT2 (e_fld Tryz.underlying57 rfl Tryz.sizeOf3 rfl (q0 rfl)) rfl rfl rfl rfl ?_
        refine xVT2 (eL Tryz.isAgg3 (q1 rfl)) rfl rfl rfl rfl ?_
        refine xVT2 (e_ne (q1 rfl) (q0 rfl)) rfl rfl rfl rfl ?_
        refine xVF (e_and (q1 rfl) rfl (fun h => by first | rfl | (rw [h]; rfl))) rfl rfl rfl rfl ?_
        refine xV (e_or (q0 rfl) rfl (fun h => by first | rfl | (rw [h]; rfl))) rfl rfl ?_
        refine XN ?_
        refine thenJ_normal ?_
        refine H_cond rfl (fun h3 => ?_) (fun h3 => ?_)
        · refine H_seq ?_
          refine R0 ?_
          refine xV (e_as (v := .int _ _) (q0 rfl)) rfl rfl ?_
          refine XN ?_
          refine thenJ_normal ?_
          refine H_ret ?_
          refine thenJ_ret ?_
          exact ret1 (v := .int _ _) rfl rfl rfl fun w' hw => ⟨ret_int (by unfold evErr; rw [if_neg hf', if_neg h1', if_neg h2', if_pos h3]), hw.1⟩
        · have h3' : ¬ (!within e.bike 0 (f.bikes - 1) || (decide (e.kind = 10) && !decide (e.bike = 0))) = true := by rw [show _ = false from h3]; decide
          refine H_skip ?_
          refine thenJ_normal ?_
          refine H_seq ?_
          refine H_seq ?_
          refine R0 ?_
          refine xV (eS Tryz.isAgg24 Tryz.sizeOf24 (q0 rfl)) rfl rfl ?_
          refine xV (eS Tryz.isAgg57 Tryz.sizeOf57 (q0 rfl)) rfl rfl ?_
          refine xC (en Tryz.call73 (ha2 (q0 rfl) (q0 rfl))) (fun _ w hm => placed_w f a e w (hx.mem hm) hp) rfl rfl ?_
          refine xV (e_not (q0 rfl)) rfl rfl ?_
          refine XN ?_
          refine thenJ_normal ?_
          refine H_cond rfl (fun h4 => ?_) (fun h4 => ?_)
          · refine H_seq ?_
            refine R0 ?_
            refine xV (e_as (v := .int _ _) (q0 rfl)) rfl rfl ?_
            refine XN ?_
            refine thenJ_normal ?_
            refine H_ret ?_
            refine thenJ_ret ?_
            exact ret1 (v := .int _ _) rfl rfl rfl fun w' hw => ⟨ret_int (by unfold evErr; rw [if_neg hf', if_neg h1', if_neg h2', if_neg h3', if_pos (by simpa using h4)]), hw.1⟩
          · have h4' : ¬ placed f e = false := by simpa using h4
            refine H_skip ?_
            refine thenJ_normal ?_
            refine H_seq ?_
            refine H_seq ?_
            refine R0 ?_
            refine xV (eS Tryz.isAgg24 Tryz.sizeOf24 (q0 rfl)) rfl rfl ?_
            refine xV (eS Tryz.isAgg57 Tryz.sizeOf57 (q0 rfl)) rfl rfl ?_
            refine xC (en Tryz.call74 (ha2 (q0 rfl) (q0 rfl))) (fun _ w hm => named_w f a e w hb.2.1) rfl rfl ?_
            refine xV (e_not (q0 rfl)) rfl rfl ?_
            refine XN ?_
            refine thenJ_normal ?_
            refine H_cond rfl (fun h5 => ?_) (fun h5 => ?_)
            · refine H_seq ?_
              refine R0 ?_
              refine xV (e_as (v := .int _ _) (q0 rfl)) rfl rfl ?_
              refine XN ?_
              refine thenJ_normal ?_
              refine H_ret ?_
              refine thenJ_ret ?_
              exact ret1 (v := .int _ _) rfl rfl rfl fun w' hw => ⟨ret_int (by unfold evErr; rw [if_neg hf', if_neg h1', if_neg h2', if_neg h3', if_neg h4', if_pos (by simpa using h5)]), hw.1⟩
            · refine H_skip ?_
              refine thenJ_normal ?_
              refine H_seq ?_
              refine R0 ?_
              refine xV (e_as (v := .int _ _) (q0 rfl)) rfl rfl ?_
              refine XN ?_
              refine thenJ_normal ?_
              refine H_ret ?_
              exact ret1 (v := .int _ _) rfl rfl rfl fun w' hw => ⟨ret_int (by unfold evErr; rw [if_neg hf', if_neg h1', if_neg h2', if_neg h3', if_neg h4', if_neg (by simpa using h5)]), hw.1⟩
theorem rcheck_w (f : Fl) (a : FA) (e : Ev) (w : World) (hx : FlAt w f a) (hp : -9223372036854775808 ≤ e.place ∧ e.place ≤ 9223372036854775807) : Calls Tryz.prog 83 #[.agg (f.cells a).toArray, .agg e.cells.toArray] w fun r w' => r = .returned (.int .i64 (evErr f e)) ∧ Bel w w' := by
  refine H_enter Tryz.func83 rfl Tryz.ntmps83 rfl ?_
  refine H_seq ?_
  refine R0 ?_
  refine X_box (v := .agg _) rfl rfl fun b2 => ?_
  refine X_box (v := .agg _) rfl rfl fun b3 => ?_
  refine xV (e_as (v := .int _ _) (q0 rfl)) rfl rfl ?_
  refine XN ?_
  refine thenJ_normal ?_
  refine H_seq ?_
  refine R0 ?_
  refine xV (eS Tryz.isAgg24 Tryz.sizeOf24 (q0 rfl)) rfl rfl ?_
  refine xC (en Tryz.call40 (ha1 (q0 rfl))) (fun _ w hm => rfleet_w f a w (hx.mem hm)) rfl rfl ?_
  refine xV (e_as (v := .int _ _) (q0 rfl)) rfl rfl ?_
  refine XN ?_
  refine thenJ_normal ?_
  refine H_seq ?_
  refine H_seq ?_
  refine R0 ?_
  refine xV (e_mv (v := .int _ _) (q0 rfl)) rfl rfl ?_
  refine xV (e_ne (q0 rfl) (q0 rfl)) rfl rfl ?_
  refine XN ?_
  refine thenJ_normal ?_
  refine H_cond rfl (fun h0 => ?_) (fun h0 => ?_)
  · refine H_seq ?_
    refine R0 ?_
    refine xV (e_mv (v := .int _ _) (q0 rfl)) rfl rfl ?_
    refine xV (e_as (v := .int _ _) (q0 rfl)) rfl rfl ?_
    refine XN ?_
    refine thenJ_normal ?_
    refine H_ret ?_
    refine thenJ_ret ?_
    exact ret1 (v := .int _ _) rfl rfl rfl fun w' hw => ⟨ret_int (by unfold evErr; rw [if_pos (by simpa using h0)]), hw.1⟩
  · have hf : flErr f = 0 := by simpa using h0
    have hf' : ¬ flErr f ≠ 0 := by simpa using hf
    have hb := flErr_ok hf
    refine H_skip ?_
    refine thenJ_normal ?_
    refine H_seq ?_
    refine H_seq ?_
    refine R0 ?_
    refine xV (e_fld Tryz.underlying57 rfl Tryz.sizeOf3 rfl (q0 rfl)) rfl rfl ?_
    refine xV (eL Tryz.isAgg3 (q0 rfl)) rfl rfl ?_
    refine xV (e_fld Tryz.underlying24 rfl Tryz.sizeOf3 rfl (q0 rfl)) rfl rfl ?_
    refine xV (eL Tryz.isAgg3 (q0 rfl)) rfl rfl ?_
    refine xV (e_sub (q0 rfl) (q0 rfl) (fun _ => ⟨rfl, by omega, by omega⟩)) rfl rfl ?_
    refine xC (en Tryz.call56 (ha3 (q0 rfl) (q0 rfl) (q0 rfl))) (fun _ w _ => between_w e.device 0 (f.devices - 1) w) rfl rfl ?_
    refine xV (e_not (q0 rfl)) rfl rfl ?_
    refine xV (e_mv (v := .bool _) (q0 rfl)) rfl rfl ?_
    refine xVF (e_fld Tryz.underlying57 rfl Tryz.sizeOf3 rfl (q0 rfl)) rfl rfl rfl rfl ?_
    refine xVF (eL Tryz.isAgg3 (q1 rfl)) rfl rfl rfl rfl ?_
    refine xCF (en Tryz.call56 (ha3 (q1 (v := .int _ _) rfl) (q0 rfl) (q0 rfl))) (fun _ w _ => between_w e.seq 1 1048576 w) rfl rfl rfl rfl ?_
    refine xVF (e_not (q1 rfl)) rfl rfl rfl rfl ?_
    refine xV (e_or (q0 rfl) rfl (fun h => by first | rfl | (rw [h]; rfl))) rfl rfl ?_
    refine xV (e_mv (v := .bool _) (q0 rfl)) rfl rfl ?_
    refine xVF (e_fld Tryz.underlying57 rfl Tryz.sizeOf3 rfl (q0 rfl)) rfl rfl rfl rfl ?_
    refine xVF (eL Tryz.isAgg3 (q1 rfl)) rfl rfl rfl rfl ?_
    refine xVF (e_lt (q1 rfl) (q0 rfl)) rfl rfl rfl rfl ?_
    refine xV (e_or (q0 rfl) rfl (fun h => by first | rfl | (rw [h]; rfl))) rfl rfl ?_
    refine xV (e_mv (v := .bool _) (q0 rfl)) rfl rfl ?_
    refine xVF (e_fld Tryz.underlying57 rfl Tryz.sizeOf3 rfl (q0 rfl)) rfl rfl rfl rfl ?_
    refine xVF (eL Tryz.isAgg3 (q1 rfl)) rfl rfl rfl rfl ?_
    refine xVF (e_fld Tryz.underlying57 rfl Tryz.sizeOf3 rfl (q0 rfl)) rfl rfl rfl rfl ?_
    refine xVF (eL Tryz.isAgg3 (q1 rfl)) rfl rfl rfl rfl ?_
    refine xVF (e_gt (q1 rfl) (q1 rfl)) rfl rfl rfl rfl ?_
    refine xV (e_or (q0 rfl) rfl (fun h => by first | rfl | (rw [h]; rfl))) rfl rfl ?_
    refine xV (e_mv (v := .bool _) (q0 rfl)) rfl rfl ?_
    refine xVF (e_fld Tryz.underlying57 rfl Tryz.sizeOf3 rfl (q0 rfl)) rfl rfl rfl rfl ?_
    refine xVF (eL Tryz.isAgg3 (q1 rfl)) rfl rfl rfl rfl ?_
    refine xVF (e_gt (q1 rfl) (q0 rfl)) rfl rfl rfl rfl ?_
    refine xV (e_or (q0 rfl) rfl (fun h => by first | rfl | (rw [h]; rfl))) rfl rfl ?_
    refine XN ?_
    refine thenJ_normal ?_
    refine H_cond rfl (fun h1 => ?_) (fun h1 => ?_)
    · refine H_seq ?_
      refine R0 ?_
      refine xV (e_as (v := .int _ _) (q0 rfl)) rfl rfl ?_
      refine XN ?_
      refine thenJ_normal ?_
      refine H_ret ?_
      refine thenJ_ret ?_
      exact ret1 (v := .int _ _) rfl rfl rfl fun w' hw => ⟨ret_int (by unfold evErr; rw [if_neg hf', if_pos h1]), hw.1⟩
    · have h1' : ¬ ((((!within e.device 0 (f.devices - 1) || !within e.seq 1 1048576) || decide (e.at_ < 0)) || decide (e.late < e.at_)) || decide (4294943999 < e.late)) = true := by rw [show _ = false from h1]; decide
      refine H_skip ?_
      refine thenJ_normal ?_
      refine H_seq ?_
      refine H_seq ?_
      refine R0 ?_
      refine xV (e_fld Tryz.underlying57 rfl Tryz.sizeOf3 rfl (q0 rfl)) rfl rfl ?_
      refine xV (eL Tryz.isAgg3 (q0 rfl)) rfl rfl ?_
      refine xC (en Tryz.call56 (ha3 (q0 rfl) (q0 rfl) (q0 rfl))) (fun _ w _ => between_w e.kind 1 10 w) rfl rfl ?_
      refine xV (e_not (q0 rfl)) rfl rfl ?_
      refine XN ?_
      refine thenJ_normal ?_
      refine H_cond rfl (fun h2 => ?_) (fun h2 => ?_)
      · refine H_seq ?_
        refine R0 ?_
        refine xV (e_as (v := .int _ _) (q0 rfl)) rfl rfl ?_
        refine XN ?_
        refine thenJ_normal ?_
        refine H_ret ?_
        refine thenJ_ret ?_
        exact ret1 (v := .int _ _) rfl rfl rfl fun w' hw => ⟨ret_int (by unfold evErr; rw [if_neg hf', if_neg h1', if_pos (by simpa using h2)]), hw.1⟩
      · have h2' : ¬ within e.kind 1 10 = false := by simpa using h2
        refine H_skip ?_
        refine thenJ_normal ?_
        refine H_seq ?_
        refine H_seq ?_
        refine R0 ?_
        refine xV (e_fld Tryz.underlying57 rfl Tryz.sizeOf3 rfl (q0 rfl)) rfl rfl ?_
        refine xV (eL Tryz.isAgg3 (q0 rfl)) rfl rfl ?_
        refine xV (e_fld Tryz.underlying24 rfl Tryz.sizeOf3 rfl (q0 rfl)) rfl rfl ?_
        refine xV (eL Tryz.isAgg3 (q0 rfl)) rfl rfl ?_
        refine xV (e_sub (q0 rfl) (q0 rfl) (fun _ => ⟨rfl, by omega, by omega⟩)) rfl rfl ?_
        refine xC (en Tryz.call56 (ha3 (q0 rfl) (q0 rfl) (q0 rfl))) (fun _ w _ => between_w e.bike 0 (f.bikes - 1) w) rfl rfl ?_
        refine xV (e_not (q0 rfl)) rfl rfl ?_
        refine xV (e_mv (v := .bool _) (q0 rfl)) rfl rfl ?_
        refine xVF (e_fld Tryz.underlying57 rfl Tryz.sizeOf3 rfl (q0 rfl)) rfl rfl rfl rfl ?_
        refine xVF (eL Tryz.isAgg3 (q1 rfl)) rfl rfl rfl rfl ?_
        refine xVF (e_eq (q1 rfl) (q0 rfl)) rfl rfl rfl rfl ?_
        refine xVF (e_mv (v := .bool _) (q1 rfl)) rfl rfl rfl rfl ?_
        refine xVT2 (e_fld Tryz.underlying57 rfl Tryz.sizeOf3 rfl (q0 rfl)) rfl rfl rfl rfl ?_
        refine xVT2 (eL Tryz.isAgg3 (q1 rfl)) rfl rfl rfl rfl ?_
        refine xVT2 (e_ne (q1 rfl) (q0 rfl)) rfl rfl rfl rfl ?_
        refine xVF (e_and (q1 rfl) rfl (fun h => by first | rfl | (rw [h]; rfl))) rfl rfl rfl rfl ?_
        refine xV (e_or (q0 rfl) rfl (fun h => by first | rfl | (rw [h]; rfl))) rfl rfl ?_
        refine XN ?_
        refine thenJ_normal ?_
        refine H_cond rfl (fun h3 => ?_) (fun h3 => ?_)
        · refine H_seq ?_
          refine R0 ?_
          refine xV (e_as (v := .int _ _) (q0 rfl)) rfl rfl ?_
          refine XN ?_
          refine thenJ_normal ?_
          refine H_ret ?_
          refine thenJ_ret ?_
          exact ret1 (v := .int _ _) rfl rfl rfl fun w' hw => ⟨ret_int (by unfold evErr; rw [if_neg hf', if_neg h1', if_neg h2', if_pos h3]), hw.1⟩
        · have h3' : ¬ (!within e.bike 0 (f.bikes - 1) || (decide (e.kind = 10) && !decide (e.bike = 0))) = true := by rw [show _ = false from h3]; decide
          refine H_skip ?_
          refine thenJ_normal ?_
          refine H_seq ?_
          refine H_seq ?_
          refine R0 ?_
          refine xV (eS Tryz.isAgg24 Tryz.sizeOf24 (q0 rfl)) rfl rfl ?_
          refine xV (eS Tryz.isAgg57 Tryz.sizeOf57 (q0 rfl)) rfl rfl ?_
          refine xC (en Tryz.call95 (ha2 (q0 rfl) (q0 rfl))) (fun _ w hm => rplaced_w f a e w (hx.mem hm) hp) rfl rfl ?_
          refine xV (e_not (q0 rfl)) rfl rfl ?_
          refine XN ?_
          refine thenJ_normal ?_
          refine H_cond rfl (fun h4 => ?_) (fun h4 => ?_)
          · refine H_seq ?_
            refine R0 ?_
            refine xV (e_as (v := .int _ _) (q0 rfl)) rfl rfl ?_
            refine XN ?_
            refine thenJ_normal ?_
            refine H_ret ?_
            refine thenJ_ret ?_
            exact ret1 (v := .int _ _) rfl rfl rfl fun w' hw => ⟨ret_int (by unfold evErr; rw [if_neg hf', if_neg h1', if_neg h2', if_neg h3', if_pos (by simpa using h4)]), hw.1⟩
          · have h4' : ¬ placed f e = false := by simpa using h4
            refine H_skip ?_
            refine thenJ_normal ?_
            refine H_seq ?_
            refine H_seq ?_
            refine R0 ?_
            refine xV (eS Tryz.isAgg24 Tryz.sizeOf24 (q0 rfl)) rfl rfl ?_
            refine xV (eS Tryz.isAgg57 Tryz.sizeOf57 (q0 rfl)) rfl rfl ?_
            refine xC (en Tryz.call96 (ha2 (q0 rfl) (q0 rfl))) (fun _ w hm => rnamed_w f a e w hb.2.1) rfl rfl ?_
            refine xV (e_not (q0 rfl)) rfl rfl ?_
            refine XN ?_
            refine thenJ_normal ?_
            refine H_cond rfl (fun h5 => ?_) (fun h5 => ?_)
            · refine H_seq ?_
              refine R0 ?_
              refine xV (e_as (v := .int _ _) (q0 rfl)) rfl rfl ?_
              refine XN ?_
              refine thenJ_normal ?_
              refine H_ret ?_
              refine thenJ_ret ?_
              exact ret1 (v := .int _ _) rfl rfl rfl fun w' hw => ⟨ret_int (by unfold evErr; rw [if_neg hf', if_neg h1', if_neg h2', if_neg h3', if_neg h4', if_pos (by simpa using h5)]), hw.1⟩
            · refine H_skip ?_
              refine thenJ_normal ?_
              refine H_seq ?_
              refine R0 ?_
              refine xV (e_as (v := .int _ _) (q0 rfl)) rfl rfl ?_
              refine XN ?_
              refine thenJ_normal ?_
              refine H_ret ?_
              exact ret1 (v := .int _ _) rfl rfl rfl fun w' hw => ⟨ret_int (by unfold evErr; rw [if_neg hf', if_neg h1', if_neg h2', if_neg h3', if_neg h4', if_neg (by simpa using h5)]), hw.1⟩

end Go.Proofs.Cus

/-
  The walks: the order of events.
-/
namespace Go.Proofs.Cus
open Go Go.RowKit Go.Proofs.E

theorem lexCmp_drop {l r : List Int} {k : Nat} {x y : Int} (hx : l[k]? = some x) (hy : r[k]? = some y) : lexCmp (l.drop k) (r.drop k) = if cmpI x y ≠ 0 then cmpI x y else lexCmp (l.drop (k + 1)) (r.drop (k + 1)) := by
  obtain ⟨h1, h2⟩ := List.getElem?_eq_some_iff.1 hx
  obtain ⟨h3, h4⟩ := List.getElem?_eq_some_iff.1 hy
  rw [List.drop_eq_getElem_cons h1, List.drop_eq_getElem_cons h3, h2, h4]
  rfl

theorem isNaN_w (n : Int) (w : World) : Calls Tryz.prog 39 #[.int .i64 n] w fun e w' => e = .returned (.bool false) ∧ Bel w w' := by
  refine H_enter Tryz.func39 rfl Tryz.ntmps39 rfl ?_
  refine H_seq ?_
  refine R0 ?_
  refine xV (e_as (v := .bool _) (q0 rfl)) rfl rfl ?_
  refine XN ?_
  refine thenJ_normal ?_
  refine H_seq ?_
  refine R0 ?_
  refine xV (e_mv (v := .int _ _) (q0 rfl)) rfl rfl ?_
  refine xV (e_mv (v := .int _ _) (q0 rfl)) rfl rfl ?_
  refine xV (e_ne (q0 rfl) (q0 rfl)) rfl rfl ?_
  refine xV (e_as (v := .bool _) (q0 rfl)) rfl rfl ?_
  refine XN ?_
  refine thenJ_normal ?_
  refine H_ret ?_
  exact ret1 (v := .bool _) rfl rfl rfl fun w' hw => ⟨ret_bool (by simp), hw.1⟩
theorem compare_w (a b : Int) (w : World) : Calls Tryz.prog 22 #[.int .i64 a, .int .i64 b] w fun e w' => e = .returned (.int .i64 (cmpI a b)) ∧ Bel w w' := by
  refine H_enter Tryz.func22 rfl Tryz.ntmps22 rfl ?_
  refine H_seq ?_
  refine R0 ?_
  refine xV (e_as (v := .int _ _) (q0 rfl)) rfl rfl ?_
  refine XN ?_
  refine thenJ_normal ?_
  refine H_seq ?_
  refine R0 ?_
  refine xV (e_mv (v := .int _ _) (q0 rfl)) rfl rfl ?_
  refine xC (en Tryz.call39 (ha1 (q0 rfl))) (fun _ w _ => isNaN_w a w) rfl rfl ?_
  refine xV (e_as (v := .bool _) (q0 rfl)) rfl rfl ?_
  refine XN ?_
  refine thenJ_normal ?_
  refine H_seq ?_
  refine R0 ?_
  refine xV (e_mv (v := .int _ _) (q0 rfl)) rfl rfl ?_
  refine xC (en Tryz.call39 (ha1 (q0 rfl))) (fun _ w _ => isNaN_w b w) rfl rfl ?_
  refine xV (e_as (v := .bool _) (q0 rfl)) rfl rfl ?_
  refine XN ?_
  refine thenJ_normal ?_
  refine H_seq ?_
  refine H_seq ?_
  refine R0 ?_
  refine xV (e_mv (v := .bool _) (q0 rfl)) rfl rfl ?_
  refine XN ?_
  refine thenJ_normal ?_
  refine H_cond rfl (fun h1 => ?_) (fun h1 => ?_)
  · cases h1
  · refine H_skip ?_
    refine thenJ_normal ?_
    refine H_seq ?_
    refine H_seq ?_
    refine R0 ?_
    refine xV (e_mv (v := .bool _) (q0 rfl)) rfl rfl ?_
    refine XN ?_
    refine thenJ_normal ?_
    refine H_cond rfl (fun h2 => ?_) (fun h2 => ?_)
    · cases h2
    · refine H_skip ?_
      refine thenJ_normal ?_
      refine H_seq ?_
      refine H_seq ?_
      refine R0 ?_
      refine xV (e_mv (v := .int _ _) (q0 rfl)) rfl rfl ?_
      refine xV (e_mv (v := .int _ _) (q0 rfl)) rfl rfl ?_
      refine xV (e_lt (q0 rfl) (q0 rfl)) rfl rfl ?_
      refine XN ?_
      refine thenJ_normal ?_
      refine H_cond rfl (fun h3 => ?_) (fun h3 => ?_)
      · refine H_seq ?_
        refine R0 ?_
        refine xV (e_as (v := .int _ _) (q0 rfl)) rfl rfl ?_
        refine XN ?_
        refine thenJ_normal ?_
        refine H_ret ?_
        refine thenJ_ret ?_
        exact ret1 (v := .int _ _) rfl rfl rfl fun w' hw => ⟨ret_int (by unfold cmpI; rw [if_pos (by simpa using h3)]), hw.1⟩
      · refine H_skip ?_
        refine thenJ_normal ?_
        refine H_seq ?_
        refine H_seq ?_
        refine R0 ?_
        refine xV (e_mv (v := .int _ _) (q0 rfl)) rfl rfl ?_
        refine xV (e_mv (v := .int _ _) (q0 rfl)) rfl rfl ?_
        refine xV (e_gt (q0 rfl) (q0 rfl)) rfl rfl ?_
        refine XN ?_
        refine thenJ_normal ?_
        refine H_cond rfl (fun h4 => ?_) (fun h4 => ?_)
        · refine H_seq ?_
          refine R0 ?_
          refine xV (e_as (v := .int _ _) (q0 rfl)) rfl rfl ?_
          refine XN ?_
          refine thenJ_normal ?_
          refine H_ret ?_
          refine thenJ_ret ?_
          exact ret1 (v := .int _ _) rfl rfl rfl fun w' hw => ⟨ret_int (by unfold cmpI; rw [if_neg (by simpa using h3), if_pos (by simpa using h4)]), hw.1⟩
        · refine H_skip ?_
          refine thenJ_normal ?_
          refine H_seq ?_
          refine R0 ?_
          refine xV (e_as (v := .int _ _) (q0 rfl)) rfl rfl ?_
          refine XN ?_
          refine thenJ_normal ?_
          refine H_ret ?_
          exact ret1 (v := .int _ _) rfl rfl rfl fun w' hw => ⟨ret_int (by unfold cmpI; rw [if_neg (by simpa using h3), if_neg (by simpa using h4)]), hw.1⟩
theorem or_w (A : Option Addr) (n c : Nat) (xs : List Int) (w : World) (hx : IntsAt w A n xs) : Calls Tryz.prog 68 #[.slice A n c] w fun e w' => e = .returned (.int .i64 (orI xs)) ∧ Bel w w' := by
  have hl := hx.1
  have hn := hx.2.1
  refine H_enter Tryz.func68 rfl Tryz.ntmps68 rfl ?_
  refine H_seq ?_
  refine R0 ?_
  refine xV (e_as (v := .int _ _) (q0 rfl)) rfl rfl ?_
  refine XN ?_
  refine thenJ_normal ?_
  refine H_seq ?_
  refine R0 ?_
  refine xV (e_as (v := .int _ _) (q0 rfl)) rfl rfl ?_
  refine XN ?_
  refine thenJ_normal ?_
  refine H_seq ?_
  refine H_seq ?_
  refine R0 ?_
  refine xV (e_mv (v := .slice _ _ _) (q0 rfl)) rfl rfl ?_
  refine xV (e_len Tryz.underlying22 (q0 rfl)) rfl rfl ?_
  refine xV (e_mv (v := .int _ _) (q0 rfl)) rfl rfl ?_
  refine XN ?_
  refine thenJ_normal ?_
  refine H_block ?_
  refine H_loop [2, 5, 8, 9, 10, 11, 12, 13, 14, 15, 16] (fun k : Nat => [(8, .int .i64 k)]) (fun _ => _) (fun k => k ≤ n ∧ (xs.take k).find? (fun x => decide (x ≠ 0)) = none) (fun k => n - k) 0 ⟨rfl, trivial⟩ (fun _ h => h) rfl ⟨Nat.zero_le _, rfl⟩ ?_
  rintro k g ⟨hk, hno⟩
  refine H_seq ?_
  refine R0 ?_
  refine xV (e_lt (q0 rfl) (q0 rfl)) rfl rfl ?_
  refine XN ?_
  refine thenJ_normal ?_
  refine H_seq ?_
  refine H_cond rfl (fun hlt => ?_) (fun hlt => ?_)
  · simp at hlt
    obtain ⟨b, off, x, rfl, hbl, hxk, hrx⟩ := hx.at_ hlt
    refine H_skip ?_
    refine thenJ_normal ?_
    refine H_seq ?_
    refine H_block ?_
    refine H_seq ?_
    refine R0 ?_
    refine xV (e_idx _ Tryz.underlying22 Tryz.sizeOf3 (q0 rfl) (q0 rfl) (fun _ => ⟨rfl, by omega⟩)) rfl rfl ?_
    refine xV (eL Tryz.isAgg3 (q0 rfl)) rfl rfl ?_
    refine xV (e_as (v := .int _ _) (q0 rfl)) rfl rfl ?_
    refine XN ?_
    refine thenJ_normal ?_
    refine H_seq ?_
    refine R0 ?_
    refine xV (e_mv (v := .int _ _) (q0 rfl)) rfl rfl ?_
    refine xV (e_mv (v := .int _ _) (q0 rfl)) rfl rfl ?_
    refine xV (e_ne (q0 rfl) (q0 rfl)) rfl rfl ?_
    refine XN ?_
    refine thenJ_normal ?_
    refine H_cond rfl (fun h0 => ?_) (fun h0 => ?_)
    · refine H_seq ?_
      refine R0 ?_
      refine xV (e_mv (v := .int _ _) (q0 rfl)) rfl rfl ?_
      refine xV (e_as (v := .int _ _) (q0 rfl)) rfl rfl ?_
      refine XN ?_
      refine thenJ_normal ?_
      refine H_ret ?_
      refine blockJ_ret ?_
      refine thenJ_ret ?_
      refine loopJ_ret ?_
      refine blockJ_ret ?_
      refine thenJ_ret ?_
      exact ret1 (v := .int _ _) rfl rfl rfl fun w' hw => ⟨ret_int (by
        unfold orI
        have h0' : x ≠ 0 := by simpa using h0
        rw [← List.take_append_drop k xs, List.find?_append, hno]
        obtain ⟨q1, q2⟩ := List.getElem?_eq_some_iff.1 hxk
        rw [List.drop_eq_getElem_cons q1, q2]
        simp [h0']), hw.1⟩
    · refine H_skip ?_
      refine blockJ_normal ?_
      refine thenJ_normal ?_
      refine R0 ?_
      refine xV (e_add (q0 rfl) (q0 rfl) (fun _ => ⟨rfl, by omega, by omega⟩)) rfl rfl ?_
      refine xV (e_mv (v := .int _ _) (q0 rfl)) rfl rfl ?_
      refine XN ?_
      exact loopJ_normal (k + 1) (by repeat (first | exact agree_self | exact agree_over | refine agree_upd rfl ?_ | refine agree_updL rfl ?_ | refine agree_over2 rfl ?_)) ⟨rfl, trivial⟩ (fun _ h => h) rfl ⟨by omega, by rw [take_snoc _ _ _ hxk, List.find?_append, hno]; simp at h0; simp [h0]⟩ (by show n - (k + 1) < n - k; omega)
  · obtain rfl : k = n := by simp at hlt; omega
    refine H_exit ?_
    refine thenJ_exit ?_
    refine loopJ_exit ?_
    refine blockJ_hit ?_
    refine thenJ_normal ?_
    refine H_seq ?_
    refine R0 ?_
    refine xV (e_mv (v := .int _ _) (q0 rfl)) rfl rfl ?_
    refine xV (e_as (v := .int _ _) (q0 rfl)) rfl rfl ?_
    refine XN ?_
    refine thenJ_normal ?_
    refine H_ret ?_
    exact ret1 (v := .int _ _) rfl rfl rfl fun w' hw => ⟨ret_int (by unfold orI; rw [List.take_of_length_le (by omega)] at hno; rw [hno]; rfl), hw.1⟩

def keyCells (e : Ev) : List Value := e.keys.map (.int .i64)
theorem keyCells_at {e : Ev} {k : Nat} {x : Int} (h : e.keys[k]? = some x) : (keyCells e)[0 + k * 1]? = some (.int .i64 x) := by
  unfold keyCells; simp [h]
attribute [local irreducible] cmpI lexCmp

theorem evCmp_w (a b : Ev) (w : World) : Calls Tryz.prog 69 #[.agg a.cells.toArray, .agg b.cells.toArray] w fun e w' => e = .returned (.int .i64 (evCmp a b)) ∧ Bel w w' := by
  refine H_enter Tryz.func69 rfl Tryz.ntmps69 rfl ?_
  refine H_seq ?_
  refine R0 ?_
  refine X_box (v := .agg _) rfl rfl fun b2 => ?_
  refine X_box (v := .agg _) rfl rfl fun b3 => ?_
  refine xV (e_as (v := .int _ _) (q0 rfl)) rfl rfl ?_
  refine XN ?_
  refine thenJ_normal ?_
  refine H_seq ?_
  refine R0 ?_
  refine xV (e_fld Tryz.underlying57 rfl Tryz.sizeOf3 rfl (q0 rfl)) rfl rfl ?_
  refine xV (eL Tryz.isAgg3 (q0 rfl)) rfl rfl ?_
  refine xV (e_fld Tryz.underlying57 rfl Tryz.sizeOf3 rfl (q0 rfl)) rfl rfl ?_
  refine xV (eL Tryz.isAgg3 (q0 rfl)) rfl rfl ?_
  refine xV (e_fld Tryz.underlying57 rfl Tryz.sizeOf3 rfl (q0 rfl)) rfl rfl ?_
  refine xV (eL Tryz.isAgg3 (q0 rfl)) rfl rfl ?_
  refine xV (e_fld Tryz.underlying57 rfl Tryz.sizeOf3 rfl (q0 rfl)) rfl rfl ?_
  refine xV (eL Tryz.isAgg3 (q0 rfl)) rfl rfl ?_
  refine xV (e_fld Tryz.underlying57 rfl Tryz.sizeOf3 rfl (q0 rfl)) rfl rfl ?_
  refine xV (eL Tryz.isAgg3 (q0 rfl)) rfl rfl ?_
  refine xV (e_fld Tryz.underlying57 rfl Tryz.sizeOf3 rfl (q0 rfl)) rfl rfl ?_
  refine xV (eL Tryz.isAgg3 (q0 rfl)) rfl rfl ?_
  refine xV (e_fld Tryz.underlying57 rfl Tryz.sizeOf3 rfl (q0 rfl)) rfl rfl ?_
  refine xV (eL Tryz.isAgg3 (q0 rfl)) rfl rfl ?_
  refine xV (e_fld Tryz.underlying57 rfl Tryz.sizeOf3 rfl (q0 rfl)) rfl rfl ?_
  refine xV (eL Tryz.isAgg3 (q0 rfl)) rfl rfl ?_
  refine xV (e_fld Tryz.underlying57 rfl Tryz.sizeOf3 rfl (q0 rfl)) rfl rfl ?_
  refine xV (eL Tryz.isAgg3 (q0 rfl)) rfl rfl ?_
  refine xV (e_buildA Tryz.underlying144 Tryz.sizeOf3 Tryz.zeroValue144 (pt (v := .int _ _) rfl (pt (v := .int _ _) rfl (pt (v := .int _ _) rfl (pt (v := .int _ _) rfl (pt (v := .int _ _) rfl (pt (v := .int _ _) rfl (pt (v := .int _ _) rfl (pt (v := .int _ _) rfl (pt (v := .int _ _) rfl E.p0))))))))) rfl) rfl rfl ?_
  refine X_alloc Tryz.zeroValue144 rfl fun b5 => ?_
  refine X_st (v := .agg _) rfl rfl Tryz.sizeOf144 ?_
  refine XN ?_
  refine thenJ_normal ?_
  refine H_seq ?_
  refine R0 ?_
  refine xV (e_fld Tryz.underlying57 rfl Tryz.sizeOf3 rfl (q0 rfl)) rfl rfl ?_
  refine xV (eL Tryz.isAgg3 (q0 rfl)) rfl rfl ?_
  refine xV (e_fld Tryz.underlying57 rfl Tryz.sizeOf3 rfl (q0 rfl)) rfl rfl ?_
  refine xV (eL Tryz.isAgg3 (q0 rfl)) rfl rfl ?_
  refine xV (e_fld Tryz.underlying57 rfl Tryz.sizeOf3 rfl (q0 rfl)) rfl rfl ?_
  refine xV (eL Tryz.isAgg3 (q0 rfl)) rfl rfl ?_
  refine xV (e_fld Tryz.underlying57 rfl Tryz.sizeOf3 rfl (q0 rfl)) rfl rfl ?_
  refine xV (eL Tryz.isAgg3 (q0 rfl)) rfl rfl ?_
  refine xV (e_fld Tryz.underlying57 rfl Tryz.sizeOf3 rfl (q0 rfl)) rfl rfl ?_
  refine xV (eL Tryz.isAgg3 (q0 rfl)) rfl rfl ?_
  refine xV (e_fld Tryz.underlying57 rfl Tryz.sizeOf3 rfl (q0 rfl)) rfl rfl ?_
  refine xV (eL Tryz.isAgg3 (q0 rfl)) rfl rfl ?_
  refine xV (e_fld Tryz.underlying57 rfl Tryz.sizeOf3 rfl (q0 rfl)) rfl rfl ?_
  refine xV (eL Tryz.isAgg3 (q0 rfl)) rfl rfl ?_
  refine xV (e_fld Tryz.underlying57 rfl Tryz.sizeOf3 rfl (q0 rfl)) rfl rfl ?_
  refine xV (eL Tryz.isAgg3 (q0 rfl)) rfl rfl ?_
  refine xV (e_fld Tryz.underlying57 rfl Tryz.sizeOf3 rfl (q0 rfl)) rfl rfl ?_
  refine xV (eL Tryz.isAgg3 (q0 rfl)) rfl rfl ?_
  refine xV (e_buildA Tryz.underlying144 Tryz.sizeOf3 Tryz.zeroValue144 (pt (v := .int _ _) rfl (pt (v := .int _ _) rfl (pt (v := .int _ _) rfl (pt (v := .int _ _) rfl (pt (v := .int _ _) rfl (pt (v := .int _ _) rfl (pt (v := .int _ _) rfl (pt (v := .int _ _) rfl (pt (v := .int _ _) rfl E.p0))))))))) rfl) rfl rfl ?_
  refine X_alloc Tryz.zeroValue144 rfl fun b6 => ?_
  refine X_st (v := .agg _) rfl rfl Tryz.sizeOf144 ?_
  refine XN ?_
  refine thenJ_normal ?_
  refine H_seq ?_
  refine H_seq ?_
  refine R0 ?_
  refine xV (e_mv (v := .int _ _) (q0 rfl)) rfl rfl ?_
  refine XN ?_
  refine thenJ_normal ?_
  refine H_block ?_
  refine H_loop [4, 7, 8, 47, 48, 49, 50, 51, 52, 53, 54, 55, 56, 57, 58, 59, 60] (fun k : Nat => [(47, .int .i64 k)]) (fun _ => [box b6 144 (keyCells b), box b5 144 (keyCells a)]) (fun k => k ≤ 9 ∧ evCmp a b = lexCmp (a.keys.drop k) (b.keys.drop k)) (fun k => 9 - k) 0 ⟨rfl, trivial⟩ (fun w hw => hw.pick [0, 1] (by decide)) rfl ⟨Nat.zero_le _, rfl⟩ ?_
  rintro k g ⟨hk, hev⟩
  refine H_seq ?_
  refine R0 ?_
  refine xV (e_lt (q0 rfl) (q0 rfl)) rfl rfl ?_
  refine XN ?_
  refine thenJ_normal ?_
  refine H_seq ?_
  refine H_cond rfl (fun hlt => ?_) (fun hlt => ?_)
  · simp at hlt
    obtain ⟨x, hx⟩ : ∃ x, a.keys[k]? = some x := ⟨_, List.getElem?_eq_getElem (by show k < 9; omega)⟩
    obtain ⟨y, hy⟩ : ∃ y, b.keys[k]? = some y := ⟨_, List.getElem?_eq_getElem (by show k < 9; omega)⟩
    have hd := lexCmp_drop hx hy
    refine H_skip ?_
    refine thenJ_normal ?_
    refine H_seq ?_
    refine H_block ?_
    refine H_seq ?_
    refine R0 ?_
    refine xV (e_mv (v := .int _ _) (q0 rfl)) rfl rfl ?_
    refine xV (e_as (v := .int _ _) (q0 rfl)) rfl rfl ?_
    refine XN ?_
    refine thenJ_normal ?_
    refine H_seq ?_
    refine R1 rfl (by decide +kernel) ?_
    refine xV (e_mv (v := .int _ _) (q0 rfl)) rfl rfl ?_
    refine xV (e_idxA _ Tryz.underlying144 Tryz.sizeOf3 (q0 rfl) (q0 rfl) (fun _ => ⟨rfl, by omega⟩)) rfl rfl ?_
    refine xV (e_ld Tryz.isAgg3 (q0 rfl) (bx 1 rfl (keyCells_at hx))) rfl rfl ?_
    refine xV (e_mv (v := .int _ _) (q0 rfl)) rfl rfl ?_
    refine xV (e_idxA _ Tryz.underlying144 Tryz.sizeOf3 (q0 rfl) (q0 rfl) (fun _ => ⟨rfl, by omega⟩)) rfl rfl ?_
    refine xV (e_ld Tryz.isAgg3 (q0 rfl) (bx 0 rfl (keyCells_at hy))) rfl rfl ?_
    refine xC (en Tryz.call22 (ha2 (q0 rfl) (q0 rfl))) (fun _ w _ => compare_w x y w) rfl rfl ?_
    refine xV (e_as (v := .int _ _) (q0 rfl)) rfl rfl ?_
    refine XN ?_
    refine thenJ_normal ?_
    refine H_seq ?_
    refine R0 ?_
    refine xV (e_mv (v := .int _ _) (q0 rfl)) rfl rfl ?_
    refine xV (e_ne (q0 rfl) (q0 rfl)) rfl rfl ?_
    refine XN ?_
    refine thenJ_normal ?_
    refine H_cond rfl (fun hc => ?_) (fun hc => ?_)
    · refine H_seq ?_
      refine R0 ?_
      refine xV (e_mv (v := .int _ _) (q0 rfl)) rfl rfl ?_
      refine xV (e_as (v := .int _ _) (q0 rfl)) rfl rfl ?_
      refine XN ?_
      refine thenJ_normal ?_
      refine H_ret ?_
      refine blockJ_ret ?_
      refine thenJ_ret ?_
      refine loopJ_ret ?_
      refine blockJ_ret ?_
      refine thenJ_ret ?_
      exact ret1 (v := .int _ _) rfl rfl rfl fun w' hw => ⟨ret_int (by rw [hev, hd, if_pos (by simpa using hc)]), hw.1⟩
    · refine H_skip ?_
      refine blockJ_normal ?_
      refine thenJ_normal ?_
      refine R0 ?_
      refine xV (e_add (q0 rfl) (q0 rfl) (fun _ => ⟨rfl, by omega, by omega⟩)) rfl rfl ?_
      refine xV (e_mv (v := .int _ _) (q0 rfl)) rfl rfl ?_
      refine XN ?_
      exact loopJ_normal (k + 1) (by repeat (first | exact agree_self | exact agree_over | refine agree_upd rfl ?_ | refine agree_updL rfl ?_ | refine agree_over2 rfl ?_)) ⟨rfl, trivial⟩ (fun _ h => h) rfl ⟨by omega, by rw [hev, hd, if_neg (by simpa using hc)]⟩ (by show 9 - (k + 1) < 9 - k; omega)
  · obtain rfl : k = 9 := by simp at hlt; omega
    refine H_exit ?_
    refine thenJ_exit ?_
    refine loopJ_exit ?_
    refine blockJ_hit ?_
    refine thenJ_normal ?_
    refine H_seq ?_
    refine R0 ?_
    refine xV (e_as (v := .int _ _) (q0 rfl)) rfl rfl ?_
    refine XN ?_
    refine thenJ_normal ?_
    refine H_ret ?_
    exact ret1 (v := .int _ _) rfl rfl rfl fun w' hw => ⟨ret_int (by rw [hev]; unfold lexCmp; rfl), hw.1⟩

end Go.Proofs.Cus

/-
  The walks: numbers of events; the order in which the set is made; the reference's order.
-/
namespace Go.Proofs.Cus
open Go Go.RowKit Go.Proofs.E

theorem fl123 {fs : Array Field} (h : Tryz.prog.underlying 123 = some (.struct fs) := by exact Tryz.underlying123) : FieldsLie Tryz.prog fs [(0, 1), (1, 1)] := by
  rw [Tryz.underlying123] at h
  cases h
  intro w
  kernel_rfl
theorem eq123 (xs ys : List Int) (w : World) (hx : xs.length = 2 := by rfl) (hy : ys.length = 2 := by rfl) : (Op.equal 123 (.agg (intCells xs).toArray) (.agg (intCells ys).toArray)).run Tryz.prog w = .ok (xs == ys) w :=
  run_equal_ints w xs ys (by omega) Tryz.underlying123 (by kernel_rfl) ⟨by decide, rfl, Tryz.isAgg3, ⟨_, Tryz.underlying3⟩, by decide, rfl, Tryz.isAgg3, ⟨_, Tryz.underlying3⟩, trivial⟩ (by rw [hx]; rfl)

theorem number_w (e : Ev) (w : World) : Calls Tryz.prog 72 #[.agg e.cells.toArray] w fun r w' => r = .returned (.agg (intCells [e.device, e.seq]).toArray) ∧ Bel w w' := by
  refine H_enter Tryz.func72 rfl Tryz.ntmps72 rfl ?_
  refine H_seq ?_
  refine R0 ?_
  refine X_box (v := .agg _) rfl rfl fun b1 => ?_
  refine X_alloc Tryz.zeroValue123 rfl fun b2 => ?_
  refine XN ?_
  refine thenJ_normal ?_
  refine H_seq ?_
  refine R0 ?_
  refine xV (e_fld Tryz.underlying57 rfl Tryz.sizeOf3 rfl (q0 rfl)) rfl rfl ?_
  refine xV (eL Tryz.isAgg3 (q0 rfl)) rfl rfl ?_
  refine xV (e_fld Tryz.underlying57 rfl Tryz.sizeOf3 rfl (q0 rfl)) rfl rfl ?_
  refine xV (eL Tryz.isAgg3 (q0 rfl)) rfl rfl ?_
  refine xV (e_build Tryz.underlying123 fl123 Tryz.zeroValue123 (pt (v := .int _ _) rfl (pt (v := .int _ _) rfl E.p0)) rfl) rfl rfl ?_
  refine X_st (v := .agg _) rfl rfl Tryz.sizeOf123 ?_
  refine XN ?_
  refine thenJ_normal ?_
  refine H_ret ?_
  exact ret_of rfl (resc1 0 rfl rfl Tryz.isAgg123 Tryz.sizeOf123 rfl rfl) fun w' hw => ⟨rfl, hw.1⟩
theorem set2_w (a b : Ev) (w : World) : Calls Tryz.prog 71 #[.agg a.cells.toArray, .agg b.cells.toArray] w fun r w' => r = .returned (.bool (sameNum a b)) ∧ Bel w w' := by
  refine H_enter Tryz.func71 rfl Tryz.ntmps71 rfl ?_
  refine H_seq ?_
  refine R0 ?_
  refine X_box (v := .agg _) rfl rfl fun b2 => ?_
  refine X_box (v := .agg _) rfl rfl fun b3 => ?_
  refine xV (e_as (v := .bool _) (q0 rfl)) rfl rfl ?_
  refine XN ?_
  refine thenJ_normal ?_
  refine H_seq ?_
  refine R1 rfl (by decide +kernel) ?_
  refine xV (eS Tryz.isAgg57 Tryz.sizeOf57 (q0 rfl)) rfl rfl ?_
  refine xC (en Tryz.call72 (ha1 (q0 rfl))) (fun _ w _ => number_w a w) rfl rfl ?_
  refine xV (eS Tryz.isAgg57 Tryz.sizeOf57 (q0 rfl)) rfl rfl ?_
  refine xC (en Tryz.call72 (ha1 (q0 rfl))) (fun _ w _ => number_w b w) rfl rfl ?_
  refine xV (e_eqS (fun w => eq123 _ _ w) (by kernel_rfl) (q0 rfl) (q0 rfl)) rfl rfl ?_
  refine xV (e_as (v := .bool _) (q0 rfl)) rfl rfl ?_
  refine XN ?_
  refine thenJ_normal ?_
  refine H_ret ?_
  exact ret1 (v := .bool _) rfl rfl rfl fun w' hw => ⟨rfl, hw.1⟩
attribute [local irreducible] cmpI evCmp
set_option maxRecDepth 20000 in
theorem set1_w (a b : Ev) (w : World) : Calls Tryz.prog 67 #[.agg a.cells.toArray, .agg b.cells.toArray] w fun r w' => r = .returned (.int .i64 (setCmp a b)) ∧ Bel w w' := by
  refine H_enter Tryz.func67 rfl Tryz.ntmps67 rfl ?_
  refine H_seq ?_
  refine R0 ?_
  refine X_box (v := .agg _) rfl rfl fun b2 => ?_
  refine X_box (v := .agg _) rfl rfl fun b3 => ?_
  refine xV (e_as (v := .int _ _) (q0 rfl)) rfl rfl ?_
  refine XN ?_
  refine thenJ_normal ?_
  refine H_seq ?_
  refine RA rfl (by decide +kernel) ?_
  refine aV 0 (by decide +kernel) rfl (e_fld Tryz.underlying57 rfl Tryz.sizeOf3 rfl (q0 rfl)) rfl ?_
  refine aV 1 (by decide +kernel) rfl (eL Tryz.isAgg3 (q0 rfl)) rfl ?_
  refine aV 2 (by decide +kernel) rfl (e_fld Tryz.underlying57 rfl Tryz.sizeOf3 rfl (q0 rfl)) rfl ?_
  refine aV 3 (by decide +kernel) rfl (eL Tryz.isAgg3 (q0 rfl)) rfl ?_
  refine aV 5 (by decide +kernel) rfl (e_fld Tryz.underlying57 rfl Tryz.sizeOf3 rfl (q0 rfl)) rfl ?_
  refine aV 6 (by decide +kernel) rfl (eL Tryz.isAgg3 (q0 rfl)) rfl ?_
  refine aV 7 (by decide +kernel) rfl (e_fld Tryz.underlying57 rfl Tryz.sizeOf3 rfl (q0 rfl)) rfl ?_
  refine aV 8 (by decide +kernel) rfl (eL Tryz.isAgg3 (q0 rfl)) rfl ?_
  refine aV 10 (by decide +kernel) rfl (eS Tryz.isAgg57 Tryz.sizeOf57 (q0 rfl)) rfl ?_
  refine aV 11 (by decide +kernel) rfl (eS Tryz.isAgg57 Tryz.sizeOf57 (q0 rfl)) rfl ?_
  refine aC 4 (by decide +kernel) rfl (en Tryz.call22 (ha2 (q0 rfl) (q0 rfl))) (fun _ w _ => compare_w a.device b.device w) rfl ?_
  refine aC 9 (by decide +kernel) rfl (en Tryz.call22 (ha2 (q0 rfl) (q0 rfl))) (fun _ w _ => compare_w a.seq b.seq w) rfl ?_
  refine aC 12 (by decide +kernel) rfl (en Tryz.call69 (ha2 (q0 rfl) (q0 rfl))) (fun _ w _ => evCmp_w a b w) rfl ?_
  refine rdy1 (i := 13) (by decide +kernel) (sub_drop 0) ?_
  refine aL rfl (f_slit [(.int .i64 0), (.int .i64 0), (.int .i64 0)] Tryz.underlying22 Tryz.sizeOf3 Tryz.zeroValue3 rfl (by kernel_rfl) (pt (v := .int _ _) rfl (pt (v := .int _ _) rfl (pt (v := .int _ _) rfl E.p0))) rfl rfl fun b18 => ?_)
  refine aRL (sub_drop 1) ?_
  refine aC 14 (by decide +kernel) rfl (en Tryz.call68 (ha1 (q0 rfl))) (fun _ w hm => or_w _ 3 3 [cmpI a.device b.device, cmpI a.seq b.seq, evCmp a b] w (slAt_box (enc := encInt) hm (j := 0) rfl (fun _ => rfl) (by simp))) rfl ?_
  refine aV 15 (by decide +kernel) rfl (e_as (v := .int _ _) (q0 rfl)) rfl ?_
  refine aZ (by decide +kernel) (sub_drop 0) ?_
  refine thenJ_normal ?_
  refine H_ret ?_

  exact ret1 (v := .int _ _) rfl rfl rfl fun w' hw => ⟨rfl, hw.1⟩

theorem lexLt_drop {l r : List Int} {k : Nat} {x y : Int} (hx : l[k]? = some x) (hy : r[k]? = some y) : lexLt (l.drop k) (r.drop k) = if x ≠ y then decide (x < y) else lexLt (l.drop (k + 1)) (r.drop (k + 1)) := by
  obtain ⟨h1, h2⟩ := List.getElem?_eq_some_iff.1 hx
  obtain ⟨h3, h4⟩ := List.getElem?_eq_some_iff.1 hy
  rw [List.drop_eq_getElem_cons h1, List.drop_eq_getElem_cons h3, h2, h4]
  rfl
attribute [local irreducible] lexLt
theorem less_w (a b : Ev) (w : World) : Calls Tryz.prog 94 #[.agg a.cells.toArray, .agg b.cells.toArray] w fun e w' => e = .returned (.bool (evLess a b)) ∧ Bel w w' := by
  refine H_enter Tryz.func94 rfl Tryz.ntmps94 rfl ?_
  refine H_seq ?_
  refine R0 ?_
  refine X_box (v := .agg _) rfl rfl fun b2 => ?_
  refine X_box (v := .agg _) rfl rfl fun b3 => ?_
  refine xV (e_as (v := .bool _) (q0 rfl)) rfl rfl ?_
  refine XN ?_
  refine thenJ_normal ?_
  refine H_seq ?_
  refine R0 ?_
  refine xV (e_fld Tryz.underlying57 rfl Tryz.sizeOf3 rfl (q0 rfl)) rfl rfl ?_
  refine xV (eL Tryz.isAgg3 (q0 rfl)) rfl rfl ?_
  refine xV (e_fld Tryz.underlying57 rfl Tryz.sizeOf3 rfl (q0 rfl)) rfl rfl ?_
  refine xV (eL Tryz.isAgg3 (q0 rfl)) rfl rfl ?_
  refine xV (e_fld Tryz.underlying57 rfl Tryz.sizeOf3 rfl (q0 rfl)) rfl rfl ?_
  refine xV (eL Tryz.isAgg3 (q0 rfl)) rfl rfl ?_
  refine xV (e_fld Tryz.underlying57 rfl Tryz.sizeOf3 rfl (q0 rfl)) rfl rfl ?_
  refine xV (eL Tryz.isAgg3 (q0 rfl)) rfl rfl ?_
  refine xV (e_fld Tryz.underlying57 rfl Tryz.sizeOf3 rfl (q0 rfl)) rfl rfl ?_
  refine xV (eL Tryz.isAgg3 (q0 rfl)) rfl rfl ?_
  refine xV (e_fld Tryz.underlying57 rfl Tryz.sizeOf3 rfl (q0 rfl)) rfl rfl ?_
  refine xV (eL Tryz.isAgg3 (q0 rfl)) rfl rfl ?_
  refine xV (e_fld Tryz.underlying57 rfl Tryz.sizeOf3 rfl (q0 rfl)) rfl rfl ?_
  refine xV (eL Tryz.isAgg3 (q0 rfl)) rfl rfl ?_
  refine xV (e_fld Tryz.underlying57 rfl Tryz.sizeOf3 rfl (q0 rfl)) rfl rfl ?_
  refine xV (eL Tryz.isAgg3 (q0 rfl)) rfl rfl ?_
  refine xV (e_fld Tryz.underlying57 rfl Tryz.sizeOf3 rfl (q0 rfl)) rfl rfl ?_
  refine xV (eL Tryz.isAgg3 (q0 rfl)) rfl rfl ?_
  refine X_slit [(.int .i64 0), (.int .i64 0), (.int .i64 0), (.int .i64 0), (.int .i64 0), (.int .i64 0), (.int .i64 0), (.int .i64 0), (.int .i64 0)] Tryz.underlying22 Tryz.sizeOf3 Tryz.zeroValue3 rfl (by kernel_rfl) (pt (v := .int _ _) rfl (pt (v := .int _ _) rfl (pt (v := .int _ _) rfl (pt (v := .int _ _) rfl (pt (v := .int _ _) rfl (pt (v := .int _ _) rfl (pt (v := .int _ _) rfl (pt (v := .int _ _) rfl (pt (v := .int _ _) rfl E.p0))))))))) rfl rfl fun b26 => ?_
  refine xV (e_as (v := .slice _ _ _) (q0 rfl)) rfl rfl ?_
  refine XN ?_
  refine thenJ_normal ?_
  refine H_seq ?_
  refine R0 ?_
  refine xV (e_fld Tryz.underlying57 rfl Tryz.sizeOf3 rfl (q0 rfl)) rfl rfl ?_
  refine xV (eL Tryz.isAgg3 (q0 rfl)) rfl rfl ?_
  refine xV (e_fld Tryz.underlying57 rfl Tryz.sizeOf3 rfl (q0 rfl)) rfl rfl ?_
  refine xV (eL Tryz.isAgg3 (q0 rfl)) rfl rfl ?_
  refine xV (e_fld Tryz.underlying57 rfl Tryz.sizeOf3 rfl (q0 rfl)) rfl rfl ?_
  refine xV (eL Tryz.isAgg3 (q0 rfl)) rfl rfl ?_
  refine xV (e_fld Tryz.underlying57 rfl Tryz.sizeOf3 rfl (q0 rfl)) rfl rfl ?_
  refine xV (eL Tryz.isAgg3 (q0 rfl)) rfl rfl ?_
  refine xV (e_fld Tryz.underlying57 rfl Tryz.sizeOf3 rfl (q0 rfl)) rfl rfl ?_
  refine xV (eL Tryz.isAgg3 (q0 rfl)) rfl rfl ?_
  refine xV (e_fld Tryz.underlying57 rfl Tryz.sizeOf3 rfl (q0 rfl)) rfl rfl ?_
  refine xV (eL Tryz.isAgg3 (q0 rfl)) rfl rfl ?_
  refine xV (e_fld Tryz.underlying57 rfl Tryz.sizeOf3 rfl (q0 rfl)) rfl rfl ?_
  refine xV (eL Tryz.isAgg3 (q0 rfl)) rfl rfl ?_
  refine xV (e_fld Tryz.underlying57 rfl Tryz.sizeOf3 rfl (q0 rfl)) rfl rfl ?_
  refine xV (eL Tryz.isAgg3 (q0 rfl)) rfl rfl ?_
  refine xV (e_fld Tryz.underlying57 rfl Tryz.sizeOf3 rfl (q0 rfl)) rfl rfl ?_
  refine xV (eL Tryz.isAgg3 (q0 rfl)) rfl rfl ?_
  refine X_slit [(.int .i64 0), (.int .i64 0), (.int .i64 0), (.int .i64 0), (.int .i64 0), (.int .i64 0), (.int .i64 0), (.int .i64 0), (.int .i64 0)] Tryz.underlying22 Tryz.sizeOf3 Tryz.zeroValue3 rfl (by kernel_rfl) (pt (v := .int _ _) rfl (pt (v := .int _ _) rfl (pt (v := .int _ _) rfl (pt (v := .int _ _) rfl (pt (v := .int _ _) rfl (pt (v := .int _ _) rfl (pt (v := .int _ _) rfl (pt (v := .int _ _) rfl (pt (v := .int _ _) rfl E.p0))))))))) rfl rfl fun b45 => ?_
  refine xV (e_as (v := .slice _ _ _) (q0 rfl)) rfl rfl ?_
  refine XN ?_
  refine thenJ_normal ?_
  refine H_seq ?_
  refine H_seq ?_
  refine R0 ?_
  refine xV (e_as (v := .int _ _) (q0 rfl)) rfl rfl ?_
  refine XN ?_
  refine thenJ_normal ?_
  refine H_block ?_
  refine H_loop [4, 7, 46, 47, 48, 49, 50, 51, 52, 53, 54, 55, 56, 57, 58, 59, 60, 61, 62, 63, 64, 65, 66, 67, 68, 69] (fun k : Nat => [(7, .int .i64 k)]) (fun _ => [box b45 3 (keyCells b), box b26 3 (keyCells a)]) (fun k => k ≤ 9 ∧ evLess a b = lexLt (a.keys.drop k) (b.keys.drop k)) (fun k => 9 - k) 0 ⟨rfl, trivial⟩ (fun w hw => hw.pick [0, 1] (by decide)) rfl ⟨Nat.zero_le _, rfl⟩ ?_
  rintro k g ⟨hk, hev⟩
  refine H_seq ?_
  refine H_seq ?_
  refine R0 ?_
  refine xV (e_mv (v := .int _ _) (q0 rfl)) rfl rfl ?_
  refine xV (e_mv (v := .slice _ _ _) (q0 rfl)) rfl rfl ?_
  refine xV (e_len Tryz.underlying22 (q0 rfl)) rfl rfl ?_
  refine xV (e_lt (q0 rfl) (q0 rfl)) rfl rfl ?_
  refine XN ?_
  refine thenJ_normal ?_
  refine H_cond rfl (fun hlt => ?_) (fun hlt => ?_)
  · simp at hlt
    obtain ⟨x, hx⟩ : ∃ x, a.keys[k]? = some x := ⟨_, List.getElem?_eq_getElem (by show k < 9; omega)⟩
    obtain ⟨y, hy⟩ : ∃ y, b.keys[k]? = some y := ⟨_, List.getElem?_eq_getElem (by show k < 9; omega)⟩
    have hd := lexLt_drop hx hy
    refine H_skip ?_
    refine thenJ_normal ?_
    refine H_seq ?_
    refine H_block ?_
    refine H_seq ?_
    refine R1 rfl (by decide +kernel) ?_
    refine xV (e_mv (v := .slice _ _ _) (q0 rfl)) rfl rfl ?_
    refine xV (e_mv (v := .int _ _) (q0 rfl)) rfl rfl ?_
    refine xV (e_idx _ Tryz.underlying22 Tryz.sizeOf3 (q0 rfl) (q0 rfl) (fun _ => ⟨rfl, by omega⟩)) rfl rfl ?_
    refine xV (e_ld Tryz.isAgg3 (q0 rfl) (bx 1 rfl (keyCells_at hx))) rfl rfl ?_
    refine xV (e_mv (v := .slice _ _ _) (q0 rfl)) rfl rfl ?_
    refine xV (e_mv (v := .int _ _) (q0 rfl)) rfl rfl ?_
    refine xV (e_idx _ Tryz.underlying22 Tryz.sizeOf3 (q0 rfl) (q0 rfl) (fun _ => ⟨rfl, by omega⟩)) rfl rfl ?_
    refine xV (e_ld Tryz.isAgg3 (q0 rfl) (bx 0 rfl (keyCells_at hy))) rfl rfl ?_
    refine xV (e_ne (q0 rfl) (q0 rfl)) rfl rfl ?_
    refine XN ?_
    refine thenJ_normal ?_
    refine H_cond rfl (fun hc => ?_) (fun hc => ?_)
    · refine H_seq ?_
      refine R1 rfl (by decide +kernel) ?_
      refine xV (e_mv (v := .slice _ _ _) (q0 rfl)) rfl rfl ?_
      refine xV (e_mv (v := .int _ _) (q0 rfl)) rfl rfl ?_
      refine xV (e_idx _ Tryz.underlying22 Tryz.sizeOf3 (q0 rfl) (q0 rfl) (fun _ => ⟨rfl, by omega⟩)) rfl rfl ?_
      refine xV (e_ld Tryz.isAgg3 (q0 rfl) (bx 1 rfl (keyCells_at hx))) rfl rfl ?_
      refine xV (e_mv (v := .slice _ _ _) (q0 rfl)) rfl rfl ?_
      refine xV (e_mv (v := .int _ _) (q0 rfl)) rfl rfl ?_
      refine xV (e_idx _ Tryz.underlying22 Tryz.sizeOf3 (q0 rfl) (q0 rfl) (fun _ => ⟨rfl, by omega⟩)) rfl rfl ?_
      refine xV (e_ld Tryz.isAgg3 (q0 rfl) (bx 0 rfl (keyCells_at hy))) rfl rfl ?_
      refine xV (e_lt (q0 rfl) (q0 rfl)) rfl rfl ?_
      refine xV (e_as (v := .bool _) (q0 rfl)) rfl rfl ?_
      refine XN ?_
      refine thenJ_normal ?_
      refine H_ret ?_
      refine blockJ_ret ?_
      refine thenJ_ret ?_
      refine loopJ_ret ?_
      refine blockJ_ret ?_
      refine thenJ_ret ?_
      exact ret1 (v := .bool _) rfl rfl rfl fun w' hw => ⟨ret_bool (by rw [hev, hd, if_pos (by simpa using hc)]), hw.1⟩
    · refine H_skip ?_
      refine blockJ_normal ?_
      refine thenJ_normal ?_
      refine R0 ?_
      refine xV (e_mv (v := .int _ _) (q0 rfl)) rfl rfl ?_
      refine xV (e_add (q0 rfl) (q0 rfl) (fun _ => ⟨rfl, by omega, by omega⟩)) rfl rfl ?_
      refine xV (e_as (v := .int _ _) (q0 rfl)) rfl rfl ?_
      refine XN ?_
      exact loopJ_normal (k + 1) (by repeat (first | exact agree_self | exact agree_over | refine agree_upd rfl ?_ | refine agree_updL rfl ?_ | refine agree_over2 rfl ?_)) ⟨rfl, trivial⟩ (fun _ h => h) rfl ⟨by omega, by rw [hev, hd, if_neg (by simpa using hc)]⟩ (by show 9 - (k + 1) < 9 - k; omega)
  · obtain rfl : k = 9 := by simp at hlt; omega
    refine H_exit ?_
    refine thenJ_exit ?_
    refine loopJ_exit ?_
    refine blockJ_hit ?_
    refine thenJ_normal ?_
    refine H_seq ?_
    refine R0 ?_
    refine xV (e_as (v := .bool _) (q0 rfl)) rfl rfl ?_
    refine XN ?_
    refine thenJ_normal ?_
    refine H_ret ?_
    exact ret1 (v := .bool _) rfl rfl rfl fun w' hw => ⟨ret_bool (by rw [hev]; unfold lexLt; rfl), hw.1⟩

end Go.Proofs.Cus

/-
  The walks: the set of events (clone, sort, compact, sort), and the reference's.
-/
namespace Go.Proofs.Cus
open Go Go.RowKit Go.Proofs.E

abbrev EvsAt (w : World) (A : Option Addr) (n : Nat) (xs : List Ev) : Prop := SlAt w 9 Ev.cells A n xs
abbrev evRow (A : Option Addr) (c : Nat) (xs : List Ev) : E.Item := rowT 57 9 Ev.cells A c xs

theorem clone_w (A : Option Addr) (n c : Nat) (xs : List Ev) (w : World) (hx : EvsAt w A n xs) (hn : n ≤ 10000) :
    Calls Tryz.prog 65 #[.slice A n c] w fun e w' => ∃ x : Option Addr × Nat, e = .returned (.slice x.1 n x.2) ∧ Mem w [evRow x.1 x.2 xs] w' := by
  have hl := hx.1
  refine H_enter Tryz.func65 rfl Tryz.ntmps65 rfl ?_
  refine H_seq ?_
  refine R0 ?_
  refine xV (e_as (v := .slice _ _ _) (q0 rfl)) rfl rfl ?_
  refine XN ?_
  refine thenJ_normal ?_
  refine H_seq ?_
  refine H_seq ?_
  refine R0 ?_
  refine xV (e_mv (v := .slice _ _ _) (q0 rfl)) rfl rfl ?_
  refine xV (e_eqNilS Tryz.underlying25 (q0 rfl)) rfl rfl ?_
  refine XN ?_
  refine thenJ_normal ?_
  refine H_cond rfl (fun h1 => ?_) (fun h1 => ?_)
  · have hA0 : A = none := by simpa using h1
    have hn0 : n = 0 := by
      rcases Nat.eq_zero_or_pos n with h | h
      · exact h
      · obtain ⟨b, off, hb, _⟩ := hx.2.2 h; rw [hA0] at hb; cases hb
    subst hn0
    have : xs = [] := List.eq_nil_of_length_eq_zero hl
    subst this
    refine H_seq ?_
    refine R0 ?_
    refine xV (e_as (v := .slice _ _ _) (q0 rfl)) rfl rfl ?_
    refine XN ?_
    refine thenJ_normal ?_
    refine H_ret ?_
    refine thenJ_ret ?_
    exact ret1 (v := .slice _ _ _) rfl rfl rfl fun w' hw => ⟨(none, 0), rfl, hw.nilRow _ _ _ rfl⟩
  · refine H_skip ?_
    refine thenJ_normal ?_
    refine H_seq ?_
    refine R0 ?_
    refine X_eff (f_slit0 Ev.cells Tryz.underlying25 Tryz.sizeOf57 rfl fun A1 c1 => ?_)
    refine xV (e_mv (v := .slice _ _ _) (q0 rfl)) rfl rfl ?_
    refine X_append (f_append (k := 9) (i := Tryz.t57) (enc := Ev.cells) 0 Tryz.underlying25 (by kernel_rfl) rfl rfl rfl rfl (fun _ => rfl) (fun _ => rfl) rfl rfl rfl (fun w hw => hx.mem hw) ⟨by simp; omega, by decide⟩ rfl fun A2 c2 => ?_)
    refine xV (e_as (v := .slice _ _ _) (q0 rfl)) rfl rfl ?_
    refine XN ?_
    refine thenJ_normal ?_
    refine H_ret ?_
    exact ret1 (v := .slice _ _ _) rfl rfl rfl fun w' hw => ⟨(A2, c2), by rw [← hl]; rfl, hw⟩

/-! the sort -/
def sortEv_ren : Go.Shelf.Ren := ⟨fun | 6 => 66 | 15 => 92 | 14 => 91 | 28 => 105 | 29 => 106 | 20 => 97 | 21 => 98 | 22 => 99 | 23 => 100 | 24 => 101 | 25 => 102 | 26 => 103 | 27 => 104 | 46 => 107 | 47 => 108 | 48 => 109 | 49 => 110 | 50 => 111 | 57 => 112 | n => n, fun | 22 => 25 | 24 => 57 | 25 => 120 | 3 => 3 | 39 => 134 | 0 => 0 | 53 => 153 | 55 => 155 | 4 => 4 | 46 => 147 | 45 => 146 | 50 => 102 | 5 => 5 | 9 => 9 | 66 => 156 | 70 => 160 | 76 => 162 | 77 => 163 | n => n, fun | n => n⟩
theorem sortEv : Go.Proofs.SlLaysF0.n6 Tryz.prog sortEv_ren := {
  mixed := by kernel_rfl,
  f6 := ⟨Tryz.f66.name, by decide, Tryz.func66.trans (congrArg some (by kernel_rfl))⟩,
  f14 := ⟨Tryz.f91.name, by decide, Tryz.func91.trans (congrArg some (by kernel_rfl))⟩,
  f15 := Tryz.func92.trans (congrArg some (by kernel_rfl)),
  f20 := ⟨Tryz.f97.name, by decide, Tryz.func97.trans (congrArg some (by kernel_rfl))⟩,
  f21 := ⟨Tryz.f98.name, by decide, Tryz.func98.trans (congrArg some (by kernel_rfl))⟩,
  f22 := ⟨Tryz.f99.name, by decide, Tryz.func99.trans (congrArg some (by kernel_rfl))⟩,
  f23 := ⟨Tryz.f100.name, by decide, Tryz.func100.trans (congrArg some (by kernel_rfl))⟩,
  f24 := ⟨Tryz.f101.name, by decide, Tryz.func101.trans (congrArg some (by kernel_rfl))⟩,
  f25 := ⟨Tryz.f102.name, by decide, Tryz.func102.trans (congrArg some (by kernel_rfl))⟩,
  f26 := ⟨Tryz.f103.name, by decide, Tryz.func103.trans (congrArg some (by kernel_rfl))⟩,
  f27 := ⟨Tryz.f104.name, by decide, Tryz.func104.trans (congrArg some (by kernel_rfl))⟩,
  f28 := Tryz.func105.trans (congrArg some (by kernel_rfl)),
  f29 := Tryz.func106.trans (congrArg some (by kernel_rfl)),
  f46 := ⟨Tryz.f107.name, by decide, Tryz.func107.trans (congrArg some (by kernel_rfl))⟩,
  f47 := Tryz.func108.trans (congrArg some (by kernel_rfl)),
  f48 := Tryz.func109.trans (congrArg some (by kernel_rfl)),
  f49 := ⟨Tryz.f110.name, by decide, Tryz.func110.trans (congrArg some (by kernel_rfl))⟩,
  f50 := ⟨Tryz.f111.name, by decide, Tryz.func111.trans (congrArg some (by kernel_rfl))⟩,
  f57 := ⟨Tryz.f112.name, by decide, Tryz.func112.trans (congrArg some (by kernel_rfl))⟩,
  t0 := Tryz.underlying0,
  a0 := Tryz.isAgg0,
  z0 := Tryz.sizeOf0,
  v0 := Tryz.zeroValue0,
  t3 := Tryz.underlying3,
  a3 := Tryz.isAgg3,
  z3 := Tryz.sizeOf3,
  v3 := Tryz.zeroValue3,
  t4 := Tryz.underlying4,
  a4 := Tryz.isAgg4,
  z4 := Tryz.sizeOf4,
  v4 := Tryz.zeroValue4,
  t5 := Tryz.underlying5,
  a5 := Tryz.isAgg5,
  z5 := Tryz.sizeOf5,
  v5 := Tryz.zeroValue5,
  t9 := Tryz.underlying9,
  a9 := Tryz.isAgg9,
  z9 := Tryz.sizeOf9,
  v9 := Tryz.zeroValue9,
  t22 := Tryz.underlying25,
  a22 := Tryz.isAgg25,
  z22 := Tryz.sizeOf25,
  v22 := Tryz.zeroValue25,
  t25 := Tryz.underlying120,
  a25 := Tryz.isAgg120,
  z25 := Tryz.sizeOf120,
  v25 := Tryz.zeroValue120,
  t39 := Tryz.underlying134,
  a39 := Tryz.isAgg134,
  z39 := Tryz.sizeOf134,
  v39 := Tryz.zeroValue134,
  t45 := Tryz.underlying146,
  a45 := Tryz.isAgg146,
  z45 := Tryz.sizeOf146,
  v45 := Tryz.zeroValue146,
  t46 := Tryz.underlying147,
  a46 := Tryz.isAgg147,
  z46 := Tryz.sizeOf147,
  v46 := Tryz.zeroValue147,
  t50 := Tryz.underlying102,
  a50 := Tryz.isAgg102,
  z50 := Tryz.sizeOf102,
  v50 := Tryz.zeroValue102,
  t53 := Tryz.underlying153,
  a53 := Tryz.isAgg153,
  z53 := Tryz.sizeOf153,
  v53 := Tryz.zeroValue153,
  t55 := Tryz.underlying155,
  a55 := Tryz.isAgg155,
  z55 := Tryz.sizeOf155,
  v55 := Tryz.zeroValue155,
  t66 := Tryz.underlying156,
  a66 := Tryz.isAgg156,
  z66 := Tryz.sizeOf156,
  v66 := Tryz.zeroValue156,
  t70 := Tryz.underlying160,
  a70 := Tryz.isAgg160,
  z70 := Tryz.sizeOf160,
  v70 := Tryz.zeroValue160,
  t76 := Tryz.underlying162,
  a76 := Tryz.isAgg162,
  z76 := Tryz.sizeOf162,
  v76 := Tryz.zeroValue162,
  t77 := Tryz.underlying163,
  a77 := Tryz.isAgg163,
  z77 := Tryz.sizeOf163,
  v77 := Tryz.zeroValue163 }

open Go.Shelf Go.Lib Go.Sort in
theorem sortBy_w (cf : Ev → Ev → Int) (g : Nat) (hO : SWO (ltOf cf)) (hT : ∀ x y, ltOf cf x y = false → ltOf cf y x = false → x = y) (eg : ∀ args w, (callFunc g args).run Tryz.prog w = .ok (.enter g args) w)
    (hcl : ∀ (x y : Ev) (w : World), Calls Tryz.prog g #[.agg x.cells.toArray, .agg y.cells.toArray] w fun e w' => e = .returned (.int .i64 (cf x y)) ∧ Bel w w')
    {w0 w : World} {L : List E.Item} (hw : Mem w0 L w) {j c : Nat} {A : Option Addr} {xs : List Ev} (hk : L[j]? = some (evRow A c xs)) (hn : xs.length ≤ 1000000) :
    Calls Tryz.prog 66 #[.slice A xs.length c, .func (.func g) #[] #[]] w fun e w' => ∃ _ : Unit, e = .returned (.tuple #[]) ∧ Mem w0 (L.set j (evRow A c (xs.mergeSort fun x y => !ltOf cf y x))) w' := by
  rcases Nat.eq_zero_or_pos xs.length with h0 | h0
  · have : xs = [] := List.eq_nil_of_length_eq_zero h0
    subst this
    refine (AnyF.slices_SortFunc_none sortEv A c (.func (.func g) #[] #[]) w).mono ?_
    rintro e w' ⟨rfl, rfl⟩
    refine ⟨(), rfl, ?_⟩
    have hL : L.set j (evRow A c (([] : List Ev).mergeSort fun x y => !ltOf cf y x)) = L := by
      have : ([] : List Ev).mergeSort (fun x y => !ltOf cf y x) = [] := by simp
      rw [this]
      obtain ⟨h1, h2⟩ := List.getElem?_eq_some_iff.1 hk
      rw [← h2]; exact List.set_getElem_self h1
    rw [hL]; exact hw
  · obtain ⟨b, rfl⟩ := rowT_at hw hk h0
    have hb : b < w.heap.size := (hw.itemLt hk rfl).2
    have hcon := AnyQ.slices_SortFunc_total sortEv 9 Tryz.isAgg57 Tryz.sizeOf57 Ev.cells (fun _ => rfl) (fun x v hv => by simp [Ev.cells] at hv; rcases hv with rfl | rfl | rfl | rfl | rfl | rfl | rfl | rfl | rfl <;> rfl) cf hO g #[] b 0 c xs.toArray w eg
      (fun m os dk _ x y => by rw [Array.append_empty]; exact (hcl x y _).mono fun e w' ⟨he, hb⟩ => ⟨he, hb.grew⟩) (holdsK_row (fun _ => rfl) hw hk) hb (by simp; omega) hT
    have hcon' : Calls Tryz.prog 66 #[.slice (some ⟨b, 0, none⟩) xs.toArray.size c, .func (.func g) #[] #[]] w _ := hcon
    rw [List.size_toArray] at hcon'
    refine hcon'.mono ?_
    rintro e w' ⟨rfl, n, os, rfl⟩
    exact ⟨(), rfl, sorted_mem (fun _ => rfl) hw hk (by simp)⟩

open Go.Shelf Go.Lib Go.Sort in
theorem sort1_w {w0 w : World} {L : List E.Item} (hw : Mem w0 L w) {j c : Nat} {A : Option Addr} {xs : List Ev} (hk : L[j]? = some (evRow A c xs)) (hn : xs.length ≤ 1000000) :
    Calls Tryz.prog 66 #[.slice A xs.length c, .func (.func 67) #[] #[]] w fun e w' => ∃ _ : Unit, e = .returned (.tuple #[]) ∧ Mem w0 (L.set j (evRow A c (xs.mergeSort le1))) w' := by
  have hlt : (ltOf setCmp) = fun x y => lexLt x.keys2 y.keys2 := by funext x y; exact setCmp_lt x y
  have := sortBy_w setCmp 67 (by rw [hlt]; exact swo_key Ev.keys2 11 (fun _ => rfl)) (fun x y h1 h2 => by rw [hlt] at h1 h2; exact keys2_inj (lexLt_total rfl h1 h2)) Tryz.call67 set1_w hw hk hn
  rw [hlt] at this
  exact this
open Go.Shelf Go.Lib Go.Sort in
theorem sort2_w {w0 w : World} {L : List E.Item} (hw : Mem w0 L w) {j c : Nat} {A : Option Addr} {xs : List Ev} (hk : L[j]? = some (evRow A c xs)) (hn : xs.length ≤ 1000000) :
    Calls Tryz.prog 66 #[.slice A xs.length c, .func (.func 69) #[] #[]] w fun e w' => ∃ _ : Unit, e = .returned (.tuple #[]) ∧ Mem w0 (L.set j (evRow A c (xs.mergeSort le2))) w' := by
  have hlt : (ltOf evCmp) = fun x y => lexLt x.keys y.keys := by funext x y; exact lexCmp_lt x.keys y.keys
  have := sortBy_w evCmp 69 (by rw [hlt]; exact swo_key Ev.keys 9 (fun _ => rfl)) (fun x y h1 h2 => by rw [hlt] at h1 h2; exact keys_inj (lexLt_total rfl h1 h2)) Tryz.call69 evCmp_w hw hk hn
  rw [hlt] at this
  exact this

end Go.Proofs.Cus

/-
  The walks: compaction; the set.
-/
namespace Go.Proofs.Cus
open Go Go.RowKit Go.Proofs.E

set_option maxHeartbeats 2000000 in
theorem compactEv_w (eq : Ev → Ev → Bool) (g : Nat) (eg : ∀ args w, (callFunc g args).run Tryz.prog w = .ok (.enter g args) w)
    (hcl : ∀ (x y : Ev) (w : World), Calls Tryz.prog g #[.agg (Ev.cells x).toArray, .agg (Ev.cells y).toArray] w fun e w' => e = .returned (.bool (eq x y)) ∧ Bel w w')
    {w0 w : World} {L : List E.Item} {c : Nat} {A : Option Addr} {xs : List Ev} (hw : Mem w0 (rowT 57 9 Ev.cells A c xs :: L) w) (hmk : marks L = []) (hn : xs.length ≤ 1000000) :
    Calls Tryz.prog 70 #[.slice A xs.length c, .func (.func g) #[] #[]] w fun e w' => ∃ _ : Unit, e = .returned (.slice A (compactF eq xs).length c) ∧ Mem w0 (rowT 57 9 Ev.cells A c (compactF eq xs) :: L) w' := by
  have hcap := rowT_cap (j := 0) hw rfl
  rcases Nat.lt_or_ge xs.length 2 with hlt | hge
  · have hcf : compactF eq xs = xs := by
      match xs, hlt with
      | [], _ => rfl
      | [x], _ => rfl
    rw [hcf]
    refine H_enterM hw hmk Tryz.func70 rfl Tryz.ntmps70 rfl ?_
    refine H_seq ?_
    refine R0 ?_
    refine xV (e_as (v := .slice _ _ _) (q0 rfl)) rfl rfl ?_
    refine XN ?_
    refine thenJ_normal ?_
    refine H_seq ?_
    refine H_seq ?_
    refine R0 ?_
    refine xV (e_mv (v := .slice _ _ _) (q0 rfl)) rfl rfl ?_
    refine xV (e_len Tryz.underlying25 (q0 rfl)) rfl rfl ?_
    refine xV (e_lt (q0 rfl) (q0 rfl)) rfl rfl ?_
    refine XN ?_
    refine thenJ_normal ?_
    refine H_cond rfl (fun h1 => ?_) (fun h1 => ?_)
    · refine H_seq ?_
      refine R0 ?_
      refine xV (e_mv (v := .slice _ _ _) (q0 rfl)) rfl rfl ?_
      refine xV (e_as (v := .slice _ _ _) (q0 rfl)) rfl rfl ?_
      refine XN ?_
      refine thenJ_normal ?_
      refine H_ret ?_
      refine thenJ_ret ?_
      exact ret1 (v := .slice _ _ _) rfl rfl hmk fun w' hw => ⟨(), rfl, hw⟩
    · exact absurd h1 (by simp; omega)
  · obtain ⟨b, rfl⟩ := rowT_at (j := 0) hw rfl (by omega)
    refine H_enterM hw hmk Tryz.func70 rfl Tryz.ntmps70 rfl ?_
    refine H_seq ?_
    refine R0 ?_
    refine xV (e_as (v := .slice _ _ _) (q0 rfl)) rfl rfl ?_
    refine XN ?_
    refine thenJ_normal ?_
    refine H_seq ?_
    refine H_seq ?_
    refine R0 ?_
    refine xV (e_mv (v := .slice _ _ _) (q0 rfl)) rfl rfl ?_
    refine xV (e_len Tryz.underlying25 (q0 rfl)) rfl rfl ?_
    refine xV (e_lt (q0 rfl) (q0 rfl)) rfl rfl ?_
    refine XN ?_
    refine thenJ_normal ?_
    refine H_cond rfl (fun h1 => ?_) (fun h1 => ?_)
    · exact absurd h1 (by simp; omega)
    · refine H_skip ?_
      refine thenJ_normal ?_
      refine H_seq ?_
      refine H_seq ?_
      refine R0 ?_
      refine xV (e_as (v := .int _ _) (q0 rfl)) rfl rfl ?_
      refine XN ?_
      refine thenJ_normal ?_
      refine H_block ?_
      refine H_loop [4, 5, 6, 7, 12, 13, 14, 15, 16, 17, 18, 19, 20, 21, 22, 23, 24, 25, 26, 27, 28, 29, 30, 31, 32, 33, 34, 35, 36, 37, 38, 39, 40, 41, 42, 43, 44, 45, 46, 47, 48, 49, 50, 51, 52, 53, 54, 55, 56, 57, 58, 59, 60, 61, 62, 63, 64] (fun k : Nat => [(5, .int .i64 k)]) (fun _ => _) (fun k => 1 ≤ k ∧ k ≤ xs.length ∧ ∃ p, xs[k - 1]? = some p ∧ compactF eq xs = xs.take k ++ compactGo eq p (xs.drop k)) (fun k => xs.length - k) 1 ⟨rfl, trivial⟩ (fun _ h => h) rfl (by
        refine ⟨Nat.le_refl _, by omega, ?_⟩
        match xs, hge with
        | x :: xs, _ => exact ⟨x, rfl, rfl⟩) ?_
      rintro k g2 ⟨hk1, hkn, p, hp, hcf⟩
      refine H_seq ?_
      refine H_seq ?_
      refine R0 ?_
      refine xV (e_mv (v := .int _ _) (q0 rfl)) rfl rfl ?_
      refine xV (e_mv (v := .slice _ _ _) (q0 rfl)) rfl rfl ?_
      refine xV (e_len Tryz.underlying25 (q0 rfl)) rfl rfl ?_
      refine xV (e_lt (q0 rfl) (q0 rfl)) rfl rfl ?_
      refine XN ?_
      refine thenJ_normal ?_
      refine H_cond rfl (fun hlt => ?_) (fun hlt => ?_)
      · have hlt' : k < xs.length := by simpa using hlt
        obtain ⟨y, hy⟩ : ∃ y, xs[k]? = some y := ⟨_, List.getElem?_eq_getElem hlt'⟩
        refine H_skip ?_
        refine thenJ_normal ?_
        refine H_seq ?_
        refine H_block ?_
        refine H_seq ?_
        refine R1 rfl (by decide +kernel) ?_
        refine xV (e_mv (q0 rfl)) rfl rfl ?_
        refine xV (e_mv (v := .slice _ _ _) (q0 rfl)) rfl rfl ?_
        refine xV (e_mv (v := .int _ _) (q0 rfl)) rfl rfl ?_
        refine xV (e_idx _ Tryz.underlying25 Tryz.sizeOf57 (q0 rfl) (q0 rfl) (fun _ => ⟨rfl, by omega⟩)) rfl rfl ?_
        refine xV (e_lds Tryz.isAgg57 Tryz.sizeOf57 (q0 rfl) (rrs 0 rfl hy) rfl) rfl rfl ?_
        refine xV (e_mv (v := .slice _ _ _) (q0 rfl)) rfl rfl ?_
        refine xV (e_mv (v := .int _ _) (q0 rfl)) rfl rfl ?_
        refine xV (e_sub (q0 rfl) (q0 rfl) (fun _ => ⟨rfl, by omega, by omega⟩)) rfl rfl ?_
        refine xV (e_idx (k - 1) Tryz.underlying25 Tryz.sizeOf57 (q0 rfl) (q0 rfl) (fun _ => ⟨by omega, by omega⟩)) rfl rfl ?_
        refine xV (e_lds Tryz.isAgg57 Tryz.sizeOf57 (q0 rfl) (rrs 0 rfl hp) rfl) rfl rfl ?_
        refine xC (enV eg (q0 rfl) (fun _ => rfl)) (fun _ w _ => hcl y p w) rfl rfl ?_
        refine XN ?_
        refine thenJ_normal ?_
        have hdrop : xs.drop k = y :: xs.drop (k + 1) := by
          obtain ⟨q1, q2⟩ := List.getElem?_eq_some_iff.1 hy
          rw [List.drop_eq_getElem_cons q1, q2]
        refine H_cond rfl (fun heq => ?_) (fun heq => ?_)
        · have hcf2 : compactF eq xs = xs.take k ++ compactGo eq y (xs.drop (k + 1)) := by rw [hcf, hdrop]; simp only [compactGo]; rw [if_pos heq]
          refine H_seq ?_
          refine R0 ?_
          refine xV (e_mv (v := .slice _ _ _) (q0 rfl)) rfl rfl ?_
          refine xV (e_mv (v := .int _ _) (q0 rfl)) rfl rfl ?_
          refine xV (e_slLo _ Tryz.underlying25 Tryz.sizeOf57 (q0 rfl) (q0 rfl) (fun _ => ⟨rfl, by omega, by omega⟩)) rfl rfl ?_
          refine xV (e_as (v := .slice _ _ _) (q0 rfl)) rfl rfl ?_
          refine XN ?_
          refine thenJ_normal ?_
          refine H_seq ?_
          refine H_seq ?_
          refine R0 ?_
          refine xV (e_as (v := .int _ _) (q0 rfl)) rfl rfl ?_
          refine XN ?_
          refine thenJ_normal ?_
          refine H_block ?_
          refine H_loop [5, 7, 32, 33, 34, 35, 36, 37, 38, 39, 40, 41, 42, 43, 44, 45, 46, 47, 48, 49, 50, 51, 52, 53, 54, 55, 56, 57, 58] (fun s : Nat × Nat × List Ev => [(5, .int .i64 s.1), (7, .int .i64 s.2.1)]) (fun s => rowT 57 9 Ev.cells (some ⟨b, 0, none⟩) c s.2.2 :: L) (fun s => 1 ≤ s.2.1 ∧ k + s.2.1 ≤ xs.length ∧ s.2.2.length = xs.length ∧ s.2.2.drop (k + s.2.1 - 1) = xs.drop (k + s.2.1 - 1) ∧ s.1 ≤ k + s.2.1 - 1 ∧ ∃ p, xs[k + s.2.1 - 1]? = some p ∧ compactF eq xs = s.2.2.take s.1 ++ compactGo eq p (xs.drop (k + s.2.1))) (fun s => xs.length - (k + s.2.1)) (k, 1, xs) ⟨rfl, rfl, trivial⟩ (fun _ h => h) rfl ⟨Nat.le_refl _, by show k + 1 ≤ xs.length; omega, rfl, rfl, by simp, y, by simpa using hy, by simpa using hcf2⟩ ?_
          rintro s g3 ⟨h2, hkn2, hyl, hyd, hi, p2, hp2, hcf3⟩
          refine H_seq ?_
          refine H_seq ?_
          refine R0 ?_
          refine xV (e_mv (v := .int _ _) (q0 rfl)) rfl rfl ?_
          refine xV (e_mv (v := .slice _ _ _) (q0 rfl)) rfl rfl ?_
          refine xV (e_len Tryz.underlying25 (q0 rfl)) rfl rfl ?_
          refine xV (e_lt (q0 rfl) (q0 rfl)) rfl rfl ?_
          refine XN ?_
          refine thenJ_normal ?_
          refine H_cond rfl (fun hlt2 => ?_) (fun hlt2 => ?_)
          · have hlt2' : k + s.2.1 < xs.length := by simp at hlt2; omega
            obtain ⟨z, hz⟩ : ∃ z, xs[k + s.2.1]? = some z := ⟨_, List.getElem?_eq_getElem hlt2'⟩
            have hzy : s.2.2[k + s.2.1]? = some z := by
              have : (s.2.2.drop (k + s.2.1 - 1))[1]? = (xs.drop (k + s.2.1 - 1))[1]? := by rw [hyd]
              rw [List.getElem?_drop, List.getElem?_drop, show k + s.2.1 - 1 + 1 = k + s.2.1 by omega] at this
              rw [this]; exact hz
            have hpy : s.2.2[k + (s.2.1 - 1)]? = some p2 := by
              have : (s.2.2.drop (k + s.2.1 - 1))[0]? = (xs.drop (k + s.2.1 - 1))[0]? := by rw [hyd]
              rw [List.getElem?_drop, List.getElem?_drop, Nat.add_zero] at this
              rw [show k + (s.2.1 - 1) = k + s.2.1 - 1 by omega, this]; exact hp2
            have hdrop2 : xs.drop (k + s.2.1) = z :: xs.drop (k + s.2.1 + 1) := by
              obtain ⟨q1, q2⟩ := List.getElem?_eq_some_iff.1 hz
              rw [List.drop_eq_getElem_cons q1, q2]
            have hdd : s.2.2.drop (k + s.2.1) = xs.drop (k + s.2.1) := by
              have := congrArg (List.drop 1) hyd
              rw [List.drop_drop, List.drop_drop, show k + s.2.1 - 1 + 1 = k + s.2.1 by omega] at this
              exact this
            refine H_skip ?_
            refine thenJ_normal ?_
            refine H_seq ?_
            refine H_block ?_
            refine H_seq ?_
            refine R1 rfl (by decide +kernel) ?_
            refine xV (e_mv (q0 rfl)) rfl rfl ?_
            refine xV (e_mv (v := .slice _ _ _) (q0 rfl)) rfl rfl ?_
            refine xV (e_mv (v := .int _ _) (q0 rfl)) rfl rfl ?_
            refine xV (e_idx _ Tryz.underlying25 Tryz.sizeOf57 (q0 rfl) (q0 rfl) (fun _ => ⟨rfl, by omega⟩)) rfl rfl ?_
            refine xV (e_lds Tryz.isAgg57 Tryz.sizeOf57 (q0 rfl) (rrs2 0 rfl hzy) rfl) rfl rfl ?_
            refine xV (e_mv (v := .slice _ _ _) (q0 rfl)) rfl rfl ?_
            refine xV (e_mv (v := .int _ _) (q0 rfl)) rfl rfl ?_
            refine xV (e_sub (q0 rfl) (q0 rfl) (fun _ => ⟨rfl, by omega, by omega⟩)) rfl rfl ?_
            refine xV (e_idx (s.2.1 - 1) Tryz.underlying25 Tryz.sizeOf57 (q0 rfl) (q0 rfl) (fun _ => ⟨by omega, by omega⟩)) rfl rfl ?_
            refine xV (e_lds Tryz.isAgg57 Tryz.sizeOf57 (q0 rfl) (rrs2 0 rfl hpy) rfl) rfl rfl ?_
            refine xC (enV eg (q0 rfl) (fun _ => rfl)) (fun _ w _ => hcl z p2 w) rfl rfl ?_
            refine xV (e_not (q0 rfl)) rfl rfl ?_
            refine XN ?_
            refine thenJ_normal ?_
            refine H_cond rfl (fun heq2 => ?_) (fun heq2 => ?_)
            · obtain ⟨q, hq⟩ : ∃ q, s.2.2[s.1]? = some q := ⟨_, List.getElem?_eq_getElem (by omega)⟩
              refine H_seq ?_
              refine R0 ?_
              refine xV (e_mv (v := .slice _ _ _) (q0 rfl)) rfl rfl ?_
              refine xV (e_mv (v := .int _ _) (q0 rfl)) rfl rfl ?_
              refine xV (e_mv (v := .slice _ _ _) (q0 rfl)) rfl rfl ?_
              refine xV (e_mv (v := .int _ _) (q0 rfl)) rfl rfl ?_
              refine xV (e_idx _ Tryz.underlying25 Tryz.sizeOf57 (q0 rfl) (q0 rfl) (fun _ => ⟨rfl, by omega⟩)) rfl rfl ?_
              refine xV (e_lds Tryz.isAgg57 Tryz.sizeOf57 (q0 rfl) (rrs2 0 rfl hzy) rfl) rfl rfl ?_
              refine xV (e_idx _ Tryz.underlying25 Tryz.sizeOf57 (q0 rfl) (q0 rfl) (fun _ => ⟨rfl, by omega⟩)) rfl rfl ?_
              refine X_eff (f_storeR0 0 z rfl rfl Tryz.sizeOf57 rfl rfl rfl hq rfl rfl ?_)
              refine XN ?_
              refine thenJ_normal ?_
              refine R0 ?_
              refine xV (e_mv (v := .int _ _) (q0 rfl)) rfl rfl ?_
              refine xV (e_add (q0 rfl) (q0 rfl) (fun _ => ⟨rfl, by omega, by omega⟩)) rfl rfl ?_
              refine xV (e_as (v := .int _ _) (q0 rfl)) rfl rfl ?_
              refine XN ?_
              refine blockJ_normal ?_
              refine thenJ_normal ?_
              refine R0 ?_
              refine xV (e_mv (v := .int _ _) (q0 rfl)) rfl rfl ?_
              refine xV (e_add (q0 rfl) (q0 rfl) (fun _ => ⟨rfl, by omega, by omega⟩)) rfl rfl ?_
              refine xV (e_as (v := .int _ _) (q0 rfl)) rfl rfl ?_
              refine XN ?_
              exact loopJ_normal (s.1 + 1, s.2.1 + 1, s.2.2.set s.1 z) (by repeat (first | exact agree_self | exact agree_over | refine agree_upd rfl ?_ | refine agree_updL rfl ?_ | refine agree_over2 rfl ?_)) ⟨rfl, rfl, trivial⟩ (fun _ h => h) rfl ⟨by show 1 ≤ s.2.1 + 1; omega, by show k + (s.2.1 + 1) ≤ _; omega, by simpa using hyl, by
                show (s.2.2.set s.1 z).drop (k + (s.2.1 + 1) - 1) = _
                rw [show k + (s.2.1 + 1) - 1 = k + s.2.1 by omega, List.drop_set_of_lt (by omega)]
                exact hdd, by show s.1 + 1 ≤ k + (s.2.1 + 1) - 1; omega, z, by simpa using hz, by
                show _ = (s.2.2.set s.1 z).take (s.1 + 1) ++ _
                rw [hcf3, hdrop2]
                simp only [compactGo]
                rw [if_neg (by simpa using heq2), List.take_add_one, List.take_set_of_le (by omega), List.getElem?_set_self (by omega)]
                simp [Nat.add_assoc]⟩ (by show xs.length - (k + (s.2.1 + 1)) < xs.length - (k + s.2.1); omega)
            · refine H_skip ?_
              refine blockJ_normal ?_
              refine thenJ_normal ?_
              refine R0 ?_
              refine xV (e_mv (v := .int _ _) (q0 rfl)) rfl rfl ?_
              refine xV (e_add (q0 rfl) (q0 rfl) (fun _ => ⟨rfl, by omega, by omega⟩)) rfl rfl ?_
              refine xV (e_as (v := .int _ _) (q0 rfl)) rfl rfl ?_
              refine XN ?_
              exact loopJ_normal (s.1, s.2.1 + 1, s.2.2) (by repeat (first | exact agree_self | exact agree_over | refine agree_upd rfl ?_ | refine agree_updL rfl ?_ | refine agree_over2 rfl ?_)) ⟨rfl, rfl, trivial⟩ (fun _ h => h) rfl ⟨by show 1 ≤ s.2.1 + 1; omega, by show k + (s.2.1 + 1) ≤ _; omega, hyl, by
                show s.2.2.drop (k + (s.2.1 + 1) - 1) = _
                rw [show k + (s.2.1 + 1) - 1 = k + s.2.1 by omega]
                exact hdd, by show s.1 ≤ k + (s.2.1 + 1) - 1; omega, z, by simpa using hz, by
                show _ = s.2.2.take s.1 ++ _
                rw [hcf3, hdrop2]
                simp only [compactGo]
                rw [if_pos (by simpa using heq2)]
                simp [Nat.add_assoc]⟩ (by show xs.length - (k + (s.2.1 + 1)) < xs.length - (k + s.2.1); omega)
          · have hend : k + s.2.1 = xs.length := by simp at hlt2; omega
            have hcf4 : compactF eq xs = s.2.2.take s.1 := by rw [hcf3, hend, List.drop_length]; simp [compactGo]
            refine H_exit ?_
            refine thenJ_exit ?_
            refine loopJ_exit ?_
            refine blockJ_hit ?_
            refine thenJ_normal ?_
            refine H_seq ?_
            refine R0 ?_
            refine xV (e_mv (v := .slice _ _ _) (q0 rfl)) rfl rfl ?_
            refine xV (e_mv (v := .int _ _) (q0 rfl)) rfl rfl ?_
            refine xV (e_slLo _ Tryz.underlying25 Tryz.sizeOf57 (q0 rfl) (q0 rfl) (fun _ => ⟨rfl, by omega, by omega⟩)) rfl rfl ?_
            refine X_eff (f_clearR (i := s.1) (k := 9) 0 Tryz.underlying25 Tryz.zeroValue57 rfl rfl rfl rfl ⟨by omega, by omega⟩ ?_)
            refine XN ?_
            refine thenJ_normal ?_
            refine H_seq ?_
            refine R0 ?_
            refine xV (e_mv (v := .slice _ _ _) (q0 rfl)) rfl rfl ?_
            refine xV (e_mv (v := .int _ _) (q0 rfl)) rfl rfl ?_
            refine xV (e_slHi _ Tryz.underlying25 Tryz.sizeOf57 (q0 rfl) (q0 rfl) (fun _ => ⟨rfl, by omega⟩)) rfl rfl ?_
            refine xV (e_as (v := .slice _ _ _) (q0 rfl)) rfl rfl ?_
            refine XN ?_
            refine thenJ_normal ?_
            refine H_ret ?_
            refine blockJ_ret ?_
            refine thenJ_ret ?_
            refine loopJ_ret ?_
            refine blockJ_ret ?_
            refine thenJ_ret ?_
            exact ret1 (v := .slice _ _ _) rfl rfl hmk fun w' hw => ⟨(), by rw [hcf4, List.length_take, Nat.min_eq_left (by omega)], by rw [hcf4]; exact hw⟩
        · refine H_skip ?_
          refine blockJ_normal ?_
          refine thenJ_normal ?_
          refine R0 ?_
          refine xV (e_mv (v := .int _ _) (q0 rfl)) rfl rfl ?_
          refine xV (e_add (q0 rfl) (q0 rfl) (fun _ => ⟨rfl, by omega, by omega⟩)) rfl rfl ?_
          refine xV (e_as (v := .int _ _) (q0 rfl)) rfl rfl ?_
          refine XN ?_
          exact loopJ_normal (k + 1) (by repeat (first | exact agree_self | exact agree_over | refine agree_upd rfl ?_ | refine agree_updL rfl ?_ | refine agree_over2 rfl ?_)) ⟨rfl, trivial⟩ (fun _ h => h) rfl ⟨by omega, by omega, y, by simpa using hy, by
            rw [hcf, hdrop]
            simp only [compactGo]
            rw [if_neg (by simpa using heq), take_snoc _ _ _ hy]
            simp⟩ (by show xs.length - (k + 1) < xs.length - k; omega)
      · have hend : k = xs.length := by simp at hlt; omega
        have hcf4 : compactF eq xs = xs := by rw [hcf, hend, List.drop_length, List.take_length]; simp [compactGo]
        refine H_exit ?_
        refine thenJ_exit ?_
        refine loopJ_exit ?_
        refine blockJ_hit ?_
        refine thenJ_normal ?_
        refine H_seq ?_
        refine R0 ?_
        refine xV (e_mv (v := .slice _ _ _) (q0 rfl)) rfl rfl ?_
        refine xV (e_as (v := .slice _ _ _) (q0 rfl)) rfl rfl ?_
        refine XN ?_
        refine thenJ_normal ?_
        refine H_ret ?_
        exact ret1 (v := .slice _ _ _) rfl rfl hmk fun w' hw => ⟨(), by rw [hcf4], by rw [hcf4]; exact hw⟩


end Go.Proofs.Cus

/-
  The walks: the set.
-/
namespace Go.Proofs.Cus
open Go Go.RowKit Go.Proofs.E

theorem compactAt_w {w0 w : World} {L : List E.Item} {j c : Nat} {A : Option Addr} {xs : List Ev} (hw : Mem w0 L w) (hk : L[j]? = some (evRow A c xs)) (hmk : marks L = []) (hn : xs.length ≤ 1000000) :
    Calls Tryz.prog 70 #[.slice A xs.length c, .func (.func 71) #[] #[]] w fun e w' => ∃ _ : Unit, e = .returned (.slice A (compactF sameNum xs).length c) ∧ Mem w0 (L.set j (evRow A c (compactF sameNum xs))) w' :=
  (compactEv_w sameNum 71 Tryz.call71 set2_w (hw.front hk) (marks_erase L j hmk) hn).mono fun _ _ ⟨_, he, hm⟩ => ⟨(), he, hm.back hk⟩

theorem compact_len {α : Type} (eq : α → α → Bool) : ∀ (xs : List α), (compactF eq xs).length ≤ xs.length
  | [] => Nat.le_refl _
  | x :: xs => by
    have : ∀ (xs : List α) (p : α), (compactGo eq p xs).length ≤ xs.length := by
      intro xs
      induction xs with
      | nil => intro p; exact Nat.le_refl _
      | cons y ys ih =>
        intro p
        simp only [compactGo]
        split
        · have := ih y; simp; omega
        · have := ih y; simp; omega
    have := this xs x
    simp [compactF]; omega
theorem setOf_len (l : List Ev) : (setOf l).length ≤ l.length := by
  have := compact_len sameNum (l.mergeSort le1)
  simpa [setOf] using this
attribute [local irreducible] compactF
theorem set_w (A : Option Addr) (n c : Nat) (xs : List Ev) (w : World) (hx : EvsAt w A n xs) (hn : n ≤ 10000) :
    Calls Tryz.prog 50 #[.slice A n c] w fun e w' => ∃ x : Option Addr × Nat, e = .returned (.slice x.1 (setOf xs).length x.2) ∧ Mem w [evRow x.1 x.2 (setOf xs)] w' := by
  have hl := hx.1
  subst hl
  refine H_enter Tryz.func50 rfl Tryz.ntmps50 rfl ?_
  refine H_seq ?_
  refine R0 ?_
  refine xV (e_as (v := .slice _ _ _) (q0 rfl)) rfl rfl ?_
  refine XN ?_
  refine thenJ_normal ?_
  refine H_seq ?_
  refine R0 ?_
  refine xV (e_mv (v := .slice _ _ _) (q0 rfl)) rfl rfl ?_
  refine xCX (en Tryz.call65 (ha1 (q0 rfl))) (fun w hw => clone_w A xs.length c xs w (hx.mem hw) hn) rfl (fun _ => rfl) fun x => ?_
  refine xV (e_as (v := .slice _ _ _) (q0 rfl)) rfl rfl ?_
  refine XN ?_
  refine thenJ_normal ?_
  refine H_seq ?_
  refine R0 ?_
  refine xV (e_mv (v := .slice _ _ _) (q0 rfl)) rfl rfl ?_
  refine X_eff (f_callM (en Tryz.call66 (ha2 (q0 rfl) (q0 rfl))) (fun w hw => sort1_w (j := 0) hw rfl (by omega)) rfl (fun _ => rfl) fun u => ?_)
  refine XN ?_
  refine thenJ_normal ?_
  refine H_seq ?_
  refine R0 ?_
  refine xV (e_mv (v := .slice _ _ _) (q0 rfl)) rfl rfl ?_
  have e1 : xs.length = (xs.mergeSort le1).length := by simp
  rw [e1]
  refine X_eff (f_callM (en Tryz.call70 (ha2 (q0 rfl) (q0 rfl))) (fun w hw => compactAt_w (j := 0) hw rfl rfl (by simp; omega)) rfl (fun _ => rfl) fun u => ?_)
  refine xV (e_as (v := .slice _ _ _) (q0 rfl)) rfl rfl ?_
  refine XN ?_
  refine thenJ_normal ?_
  refine H_seq ?_
  refine R0 ?_
  refine xV (e_mv (v := .slice _ _ _) (q0 rfl)) rfl rfl ?_
  refine X_eff (f_callM (en Tryz.call66 (ha2 (q0 rfl) (q0 rfl))) (fun w hw => sort2_w (j := 0) hw rfl (by have := compact_len sameNum (xs.mergeSort le1); simp at this; omega)) rfl (fun _ => rfl) fun u => ?_)
  refine XN ?_
  refine thenJ_normal ?_
  refine H_seq ?_
  refine R0 ?_
  refine xV (e_mv (v := .slice _ _ _) (q0 rfl)) rfl rfl ?_
  refine xV (e_as (v := .slice _ _ _) (q0 rfl)) rfl rfl ?_
  refine XN ?_
  refine thenJ_normal ?_
  refine H_ret ?_
  have e2 : (compactF sameNum (xs.mergeSort le1)).length = (setOf xs).length := by simp [setOf]
  exact ret1 (v := .slice _ _ _) rfl rfl rfl fun w' hw => ⟨x, by rw [← e2], hw⟩

end Go.Proofs.Cus

/-
  The walks: the reference's set.
-/
namespace Go.Proofs.Cus
open Go Go.RowKit Go.Proofs.E

theorem take_while {p : Ev → Bool} : ∀ {l : List Ev} {k : Nat}, k ≤ l.length → (l.take k).all p = true → (∀ x, l[k]? = some x → p x = false) → l.takeWhile p = l.take k ∧ l.dropWhile p = l.drop k
  | [], k, hk, _, _ => by simp
  | a :: l, 0, _, _, h => by
    have := h a rfl
    simp [this]
  | a :: l, k + 1, hk, ha, h => by
    simp only [List.take_succ_cons, List.all_cons, Bool.and_eq_true] at ha
    have := take_while (l := l) (k := k) (by simpa using hk) ha.2 (fun x hx => h x (by simpa using hx))
    simp [ha.1, this]
theorem scan_len (xs : List Ev) (e : Ev) (k : Nat) : ((xs.take k).foldl scanStep ([], e)).1.length ≤ xs.length := by
  rw [(scan_fst (xs.take k) [] e).1]
  have h1 := List.length_filter_le (fun x => !sameNum x e) (xs.take k)
  have h2 := List.length_take_le k xs
  simp; have h3 : (xs.take k).length ≤ xs.length := by rw [List.length_take]; omega
  omega
attribute [local irreducible] evLess
set_option maxRecDepth 20000 in
set_option maxHeartbeats 2000000 in
theorem with_w (A : Option Addr) (n c : Nat) (xs : List Ev) (e : Ev) (w : World) (hx : EvsAt w A n xs) (hn : n ≤ 10000) :
    Calls Tryz.prog 82 #[.slice A n c, .agg e.cells.toArray] w fun r w' => ∃ x : Option Addr × Nat, r = .returned (.slice x.1 (withE xs e).length x.2) ∧ Mem w [evRow x.1 x.2 (withE xs e)] w' := by
  have hl := hx.1
  have hstep : ∀ k x, xs[k]? = some x → (xs.take (k + 1)).foldl scanStep ([], e) = scanStep ((xs.take k).foldl scanStep ([], e)) x := fun k x hx => by
    rw [take_snoc _ _ _ hx, List.foldl_append]; rfl
  have hlen := scan_len xs e
  obtain ⟨S, hS⟩ : ∃ S : Nat → List Ev × Ev, S = fun k => (xs.take k).foldl scanStep ([], e) := ⟨_, rfl⟩
  have hstep' : ∀ k x, xs[k]? = some x → S (k + 1) = scanStep (S k) x := fun k x hx => by rw [hS]; exact hstep k x hx
  have hlen' : ∀ k, (S k).1.length ≤ xs.length := fun k => by rw [hS]; exact hlen k
  have hS0 : S 0 = ([], e) := by rw [hS]; rfl
  have hSn : S n = xs.foldl scanStep ([], e) := by rw [hS]; simp only [← hl, List.take_length]
  clear hstep hlen hS
  refine H_enter Tryz.func82 rfl Tryz.ntmps82 rfl ?_
  refine H_seq ?_
  refine R0 ?_
  refine X_box (v := .agg _) rfl rfl fun b3 => ?_
  refine xV (e_as (v := .slice _ _ _) (q0 rfl)) rfl rfl ?_
  refine XN ?_
  refine thenJ_normal ?_
  refine H_seq ?_
  refine R0 ?_
  refine xV (e_as (v := .slice _ _ _) (q0 rfl)) rfl rfl ?_
  refine XN ?_
  refine thenJ_normal ?_
  refine H_seq ?_
  refine H_seq ?_
  refine R0 ?_
  refine xV (e_as (v := .int _ _) (q0 rfl)) rfl rfl ?_
  refine XN ?_
  refine thenJ_normal ?_
  refine H_block ?_
  refine H_loop [5, 6, 9, 10, 11, 12, 13, 14, 15, 16, 17, 18, 19, 20, 21, 22, 23, 24, 25, 26, 27, 28, 29, 30, 31, 32, 33, 34, 35, 36, 37, 38, 39, 40, 41, 42, 43, 44, 45, 46, 47, 48, 49] (fun s : Nat × Option Addr × Nat => [(6, .int .i64 s.1), (5, .slice s.2.1 (S s.1).1.length s.2.2)]) (fun s => [evRow s.2.1 s.2.2 (S s.1).1, box b3 57 (S s.1).2.cells]) (fun s => s.1 ≤ n) (fun s => n - s.1) (0, none, 0) ⟨rfl, by show _ = Value.slice none (S 0).1.length 0; rw [hS0]; rfl, trivial⟩ (fun w hw => by show Mem _ [evRow none 0 (S 0).1, box b3 57 (S 0).2.cells] w; rw [hS0]; exact hw.nilRow _ _ _ rfl) rfl (Nat.zero_le _) ?_
  rintro s g hk
  refine H_seq ?_
  refine H_seq ?_
  refine R0 ?_
  refine xV (e_mv (v := .int _ _) (q0 rfl)) rfl rfl ?_
  refine xV (e_mv (v := .slice _ _ _) (q0 rfl)) rfl rfl ?_
  refine xV (e_len Tryz.underlying25 (q0 rfl)) rfl rfl ?_
  refine xV (e_lt (q0 rfl) (q0 rfl)) rfl rfl ?_
  refine XN ?_
  refine thenJ_normal ?_
  refine H_cond rfl (fun hlt => ?_) (fun hlt => ?_)
  · have hlt' : s.1 < n := by simpa using hlt
    obtain ⟨b, off, x, rfl, hbl, hxk, hrx⟩ := hx.at_ hlt'
    have hst := hstep' s.1 x hxk
    have hll := hlen' s.1
    refine H_skip ?_
    refine thenJ_normal ?_
    refine H_seq ?_
    refine H_block ?_
    refine H_seq ?_
    refine R1 rfl (by decide +kernel) ?_
    refine xV (e_mv (v := .slice _ _ _) (q0 rfl)) rfl rfl ?_
    refine xV (e_mv (v := .int _ _) (q0 rfl)) rfl rfl ?_
    refine xV (e_idx _ Tryz.underlying25 Tryz.sizeOf57 (q0 rfl) (q0 rfl) (fun _ => ⟨rfl, by omega⟩)) rfl rfl ?_
    refine xV (e_fld Tryz.underlying57 rfl Tryz.sizeOf3 rfl (q0 rfl)) rfl rfl ?_
    refine xV (eL Tryz.isAgg3 (q0 rfl)) rfl rfl ?_
    refine xV (e_fld Tryz.underlying57 rfl Tryz.sizeOf3 rfl (q0 rfl)) rfl rfl ?_
    refine xV (eL Tryz.isAgg3 (q0 rfl)) rfl rfl ?_
    refine xV (e_ne (q0 rfl) (q0 rfl)) rfl rfl ?_
    refine xV (e_mv (v := .bool _) (q0 rfl)) rfl rfl ?_
    refine xVF (e_mv (v := .slice _ _ _) (q0 rfl)) rfl rfl rfl rfl ?_
    refine xVF (e_mv (v := .int _ _) (q0 rfl)) rfl rfl rfl rfl ?_
    refine xVF (e_idx _ Tryz.underlying25 Tryz.sizeOf57 (q1 rfl) (q1 rfl) (fun _ => ⟨rfl, by omega⟩)) rfl rfl rfl rfl ?_
    refine xVF (e_fld Tryz.underlying57 rfl Tryz.sizeOf3 rfl (q1 rfl)) rfl rfl rfl rfl ?_
    refine xVF (eL Tryz.isAgg3 (q1 rfl)) rfl rfl rfl rfl ?_
    refine xVF (e_fld Tryz.underlying57 rfl Tryz.sizeOf3 rfl (q0 rfl)) rfl rfl rfl rfl ?_
    refine xVF (eL Tryz.isAgg3 (q1 rfl)) rfl rfl rfl rfl ?_
    refine xVF (e_ne (q1 rfl) (q1 rfl)) rfl rfl rfl rfl ?_
    refine xV (e_or (q0 rfl) rfl (fun h => by first | rfl | (rw [h]; rfl))) rfl rfl ?_
    refine XN ?_
    refine thenJ_normal ?_
    refine H_cond rfl (fun hd => ?_) (fun hd => ?_)
    · have hst2 : S (s.1 + 1) = ((S s.1).1 ++ [x], (S s.1).2) := by
        rw [hst, scanStep, if_pos]
        simp only [Bool.or_eq_true, Bool.not_eq_true', decide_eq_false_iff_not] at hd
        exact hd
      refine R0 ?_
      refine xV (e_mv (v := .slice _ _ _) (q0 rfl)) rfl rfl ?_
      refine xV (e_mv (v := .slice _ _ _) (q0 rfl)) rfl rfl ?_
      refine xV (e_mv (v := .int _ _) (q0 rfl)) rfl rfl ?_
      refine xV (e_idx _ Tryz.underlying25 Tryz.sizeOf57 (q0 rfl) (q0 rfl) (fun _ => ⟨rfl, by omega⟩)) rfl rfl ?_
      refine xV (eS Tryz.isAgg57 Tryz.sizeOf57 (q0 rfl)) rfl rfl ?_
      refine X_push (k := 9) (i := Tryz.t57) 0 (x) Tryz.underlying25 (by kernel_rfl) rfl rfl rfl rfl Tryz.sizeOf57 Tryz.zeroValue57 rfl rfl rfl rfl rfl rfl ⟨by omega, by decide⟩ rfl rfl fun B A1 c1 => ?_
      refine xV (e_as (v := .slice _ _ _) (q0 rfl)) rfl rfl ?_
      refine XN ?_
      refine blockJ_normal ?_
      refine thenJ_normal ?_
      refine R0 ?_
      refine xV (e_mv (v := .int _ _) (q0 rfl)) rfl rfl ?_
      refine xV (e_add (q0 rfl) (q0 rfl) (fun _ => ⟨rfl, by omega, by omega⟩)) rfl rfl ?_
      refine xV (e_as (v := .int _ _) (q0 rfl)) rfl rfl ?_
      refine XN ?_
      exact loopJ_normal (s.1 + 1, A1, c1) (by repeat (first | exact agree_self | exact agree_over | refine agree_upd rfl ?_ | refine agree_updL rfl ?_ | refine agree_over2 rfl ?_)) ⟨rfl, by show _ = Value.slice _ (S (s.1 + 1)).1.length _; rw [hst2]; rfl, trivial⟩ (fun w hw => by show Mem _ [evRow A1 c1 (S (s.1 + 1)).1, box b3 57 (S (s.1 + 1)).2.cells] w; rw [hst2]; exact hw) rfl (by show s.1 + 1 ≤ n; omega) (by show n - (s.1 + 1) < n - s.1; omega)
    · have hd' : ¬ (x.device ≠ (S s.1).2.device ∨ x.seq ≠ (S s.1).2.seq) := by
        simp only [Bool.or_eq_false_iff, Bool.not_eq_false', decide_eq_true_eq] at hd
        exact fun h => h.elim (fun h => h hd.1) (fun h => h hd.2)
      refine H_seq ?_
      refine R1 rfl (by decide +kernel) ?_
      refine xV (e_mv (v := .slice _ _ _) (q0 rfl)) rfl rfl ?_
      refine xV (e_mv (v := .int _ _) (q0 rfl)) rfl rfl ?_
      refine xV (e_idx _ Tryz.underlying25 Tryz.sizeOf57 (q0 rfl) (q0 rfl) (fun _ => ⟨rfl, by omega⟩)) rfl rfl ?_
      refine xV (eS Tryz.isAgg57 Tryz.sizeOf57 (q0 rfl)) rfl rfl ?_
      refine xV (eS Tryz.isAgg57 Tryz.sizeOf57 (q0 rfl)) rfl rfl ?_
      refine xC (en Tryz.call94 (ha2 (q0 rfl) (q0 rfl))) (fun _ w _ => less_w x (S s.1).2 w) rfl rfl ?_
      refine XN ?_
      refine thenJ_normal ?_
      refine H_cond rfl (fun hless => ?_) (fun hless => ?_)
      · have hst2 : S (s.1 + 1) = ((S s.1).1, x) := by rw [hst, scanStep, if_neg hd', if_pos hless]
        refine R0 ?_
        refine xV (e_mv (v := .slice _ _ _) (q0 rfl)) rfl rfl ?_
        refine xV (e_mv (v := .int _ _) (q0 rfl)) rfl rfl ?_
        refine xV (e_idx _ Tryz.underlying25 Tryz.sizeOf57 (q0 rfl) (q0 rfl) (fun _ => ⟨rfl, by omega⟩)) rfl rfl ?_
        refine xV (eS Tryz.isAgg57 Tryz.sizeOf57 (q0 rfl)) rfl rfl ?_
        refine X_st (v := .agg _) rfl rfl Tryz.sizeOf57 ?_
        refine XN ?_
        refine blockJ_normal ?_
        refine thenJ_normal ?_
        refine R0 ?_
        refine xV (e_mv (v := .int _ _) (q0 rfl)) rfl rfl ?_
        refine xV (e_add (q0 rfl) (q0 rfl) (fun _ => ⟨rfl, by omega, by omega⟩)) rfl rfl ?_
        refine xV (e_as (v := .int _ _) (q0 rfl)) rfl rfl ?_
        refine XN ?_
        exact loopJ_normal (s.1 + 1, s.2.1, s.2.2) (by repeat (first | exact agree_self | exact agree_over | refine agree_upd rfl ?_ | refine agree_updL rfl ?_ | refine agree_over2 rfl ?_)) ⟨rfl, by show _ = Value.slice _ (S (s.1 + 1)).1.length _; rw [hst2]; rfl, trivial⟩ (fun w hw => by show Mem _ [evRow s.2.1 s.2.2 (S (s.1 + 1)).1, box b3 57 (S (s.1 + 1)).2.cells] w; rw [hst2]; exact hw) rfl (by show s.1 + 1 ≤ n; omega) (by show n - (s.1 + 1) < n - s.1; omega)
      · have hst2 : S (s.1 + 1) = S s.1 := by rw [hst, scanStep, if_neg hd', if_neg (by rw [hless]; decide)]
        refine H_skip ?_
        refine blockJ_normal ?_
        refine thenJ_normal ?_
        refine R0 ?_
        refine xV (e_mv (v := .int _ _) (q0 rfl)) rfl rfl ?_
        refine xV (e_add (q0 rfl) (q0 rfl) (fun _ => ⟨rfl, by omega, by omega⟩)) rfl rfl ?_
        refine xV (e_as (v := .int _ _) (q0 rfl)) rfl rfl ?_
        refine XN ?_
        exact loopJ_normal (s.1 + 1, s.2.1, s.2.2) (by repeat (first | exact agree_self | exact agree_over | refine agree_upd rfl ?_ | refine agree_updL rfl ?_ | refine agree_over2 rfl ?_)) ⟨rfl, by show _ = Value.slice _ (S (s.1 + 1)).1.length _; rw [hst2]; rfl, trivial⟩ (fun w hw => by show Mem _ [evRow s.2.1 s.2.2 (S (s.1 + 1)).1, box b3 57 (S (s.1 + 1)).2.cells] w; rw [hst2]; exact hw) rfl (by show s.1 + 1 ≤ n; omega) (by show n - (s.1 + 1) < n - s.1; omega)
  · have hend : s.1 = n := by simp at hlt; omega
    have hwith : withE xs e = (S s.1).1.takeWhile (fun x => evLess x (S s.1).2) ++ (S s.1).2 :: (S s.1).1.dropWhile (fun x => evLess x (S s.1).2) := by rw [hend, hSn]; rfl
    have hll := hlen' s.1
    clear hstep' hlen' hSn hend hk hlt
    rw [hwith]
    clear hwith
    generalize (S s.1).1 = out at *
    generalize (S s.1).2 = e1 at *
    generalize s.2.1 = A1 at *
    generalize s.2.2 = c1 at *
    refine H_exit ?_
    refine thenJ_exit ?_
    refine loopJ_exit ?_
    refine blockJ_hit ?_
    refine thenJ_normal ?_
    refine H_seq ?_
    refine R0 ?_
    refine xV (e_as (v := .int _ _) (q0 rfl)) rfl rfl ?_
    refine XN ?_
    refine thenJ_normal ?_
    refine H_seq ?_
    refine H_block ?_
    refine H_know (fun w hw => rowT_cap (j := 0) hw rfl) fun hcap => ?_
    refine H_loop [7, 50, 51, 52, 53, 54, 55, 56, 57, 58, 59, 60, 61, 62, 63] (fun k : Nat => [(7, .int .i64 k)]) (fun _ => _) (fun k => k ≤ out.length ∧ (out.take k).all (fun x => evLess x e1) = true) (fun k => out.length - k) 0 ⟨rfl, trivial⟩ (fun _ h => h) rfl ⟨Nat.zero_le _, rfl⟩ ?_
    rintro k g2 ⟨hk, hall⟩
    refine H_seq ?_
    refine H_seq ?_
    refine H_cut [50, 51, 52, 53, 54, 55, 56, 57, 58, 59, 60, 61] (fun _ : Unit => [(61, .bool (decide (k < out.length) && out[k]?.any (fun x => evLess x e1)))]) (fun _ => [evRow A1 c1 out, box b3 57 e1.cells]) (fun _ => True) ?_ ?_
    · have _ht : True := trivial
      by_cases hlt : k < out.length
      case neg =>
        have hd : decide ((k : Int) < (out.length : Int)) = false := by simp; omega
        refine R1 rfl (by decide +kernel) ?_
        refine xV (e_mv (v := .int _ _) (q0 rfl)) rfl rfl ?_
        refine xV (e_mv (v := .slice _ _ _) (q0 rfl)) rfl rfl ?_
        refine xV (e_len Tryz.underlying25 (q0 rfl)) rfl rfl ?_
        refine xV (e_lt (q0 rfl) (q0 rfl)) rfl rfl ?_
        refine xV (e_mv (v := .bool _) (q0 rfl)) rfl rfl ?_
        refine xVT (e_dead (v := .slice none 0 0) (hd)) rfl rfl rfl rfl ?_
        refine xVT (e_dead (v := .int .i64 0) (hd)) rfl rfl rfl rfl ?_
        refine xVT (e_dead (v := .pointer none) (hd)) rfl rfl rfl rfl ?_
        refine xVT (e_dead (v := .agg #[]) (hd)) rfl rfl rfl rfl ?_
        refine xVT (e_dead (v := .agg #[]) (hd)) rfl rfl rfl rfl ?_
        refine xVT (e_dead (v := .bool false) (hd)) rfl rfl rfl rfl ?_
        refine xV (e_and (q0 rfl) rfl (fun h => by first | rfl | (rw [h]; rfl))) rfl rfl ?_
        refine XN ?_
        exact cutJ_normal () (by repeat (first | exact agree_self | exact agree_over | refine agree_upd rfl ?_ | refine agree_updL rfl ?_ | refine agree_over2 rfl ?_)) ⟨by show Value.bool (decide ((k : Int) < (out.length : Int)) && _) = _; rw [hd]; simp [hlt], trivial⟩ (fun w hw => hw) rfl trivial
      case pos =>
        obtain ⟨y, hy⟩ : ∃ y, out[k]? = some y := ⟨_, List.getElem?_eq_getElem hlt⟩
        refine H_know (fun w hw => rowT_at (j := 0) hw rfl (by omega)) fun ⟨b4, hb4⟩ => ?_
        subst hb4
        refine R1 rfl (by decide +kernel) ?_
        refine xV (e_mv (v := .int _ _) (q0 rfl)) rfl rfl ?_
        refine xV (e_mv (v := .slice _ _ _) (q0 rfl)) rfl rfl ?_
        refine xV (e_len Tryz.underlying25 (q0 rfl)) rfl rfl ?_
        refine xV (e_lt (q0 rfl) (q0 rfl)) rfl rfl ?_
        refine xV (e_mv (v := .bool _) (q0 rfl)) rfl rfl ?_
        refine xVT (e_mv (v := .slice _ _ _) (q0 rfl)) rfl rfl rfl rfl ?_
        refine xVT (e_mv (v := .int _ _) (q0 rfl)) rfl rfl rfl rfl ?_
        refine xVT (e_idx _ Tryz.underlying25 Tryz.sizeOf57 (q1 rfl) (q1 rfl) (fun _ => ⟨rfl, by omega⟩)) rfl rfl rfl rfl ?_
        refine xVT (e_lds Tryz.isAgg57 Tryz.sizeOf57 (q1 rfl) (rrs 0 rfl hy) rfl) rfl rfl rfl rfl ?_
        refine xVT (eS Tryz.isAgg57 Tryz.sizeOf57 (q0 rfl)) rfl rfl rfl rfl ?_
        refine xCT (en Tryz.call94 (ha2 (q1 (v := .agg _) rfl) (q1 (v := .agg _) rfl))) (fun _ w _ => less_w y e1 w) rfl rfl rfl rfl ?_
        refine xV (e_and (q0 rfl) rfl (fun h => by first | rfl | (rw [h]; rfl))) rfl rfl ?_
        refine XN ?_
        exact cutJ_normal () (by repeat (first | exact agree_self | exact agree_over | refine agree_upd rfl ?_ | refine agree_updL rfl ?_ | refine agree_over2 rfl ?_)) ⟨by show Value.bool (decide ((k : Int) < (out.length : Int)) && evLess y e1) = _; rw [hy]; simp [hlt], trivial⟩ (fun w hw => hw) rfl trivial
    · intro s2 g3 _
      refine thenJ_normal ?_
      refine H_cond rfl (fun hc => ?_) (fun hc => ?_)
      · simp only [Bool.and_eq_true, decide_eq_true_eq] at hc
        obtain ⟨hlt, hc⟩ := hc
        obtain ⟨y, hy⟩ : ∃ y, out[k]? = some y := ⟨_, List.getElem?_eq_getElem hlt⟩
        rw [hy] at hc
        refine H_skip ?_
        refine thenJ_normal ?_
        refine H_block ?_
        refine R0 ?_
        refine xV (e_mv (v := .int _ _) (q0 rfl)) rfl rfl ?_
        refine xV (e_add (q0 rfl) (q0 rfl) (fun _ => ⟨rfl, by omega, by omega⟩)) rfl rfl ?_
        refine xV (e_as (v := .int _ _) (q0 rfl)) rfl rfl ?_
        refine XN ?_
        refine blockJ_normal ?_
        exact loopJ_normal (k + 1) (by repeat (first | exact agree_self | exact agree_over | refine agree_upd rfl ?_ | refine agree_updL rfl ?_ | refine agree_over2 rfl ?_)) ⟨rfl, trivial⟩ (fun _ h => h) rfl ⟨by omega, by rw [take_snoc _ _ _ hy, List.all_append, hall]; simpa using hc⟩ (by show out.length - (k + 1) < out.length - k; omega)
      · obtain ⟨e2, e3⟩ := take_while (p := fun x => evLess x e1) hk hall (fun x hx => by
          have hlt : k < out.length := (List.getElem?_eq_some_iff.1 hx).1
          rw [hx] at hc
          simpa [hlt] using hc)
        rw [e2, e3]
        refine H_exit ?_
        refine thenJ_exit ?_
        refine loopJ_exit ?_
        refine blockJ_hit ?_
        refine thenJ_normal ?_
        refine H_seq ?_
        refine R0 ?_
        refine X_eff (f_slit0 Ev.cells Tryz.underlying25 Tryz.sizeOf57 rfl fun A2 c2 => ?_)
        refine xV (e_mv (v := .slice _ _ _) (q0 rfl)) rfl rfl ?_
        refine xV (e_mv (v := .int _ _) (q0 rfl)) rfl rfl ?_
        refine xV (e_slHi _ Tryz.underlying25 Tryz.sizeOf57 (q0 rfl) (q0 rfl) (fun _ => ⟨rfl, by omega⟩)) rfl rfl ?_
        refine X_append (f_append (k := 9) (i := Tryz.t57) (enc := Ev.cells) 0 Tryz.underlying25 (by kernel_rfl) rfl rfl rfl rfl (fun _ => rfl) (fun _ => rfl) rfl rfl rfl (fun w hw => (slAt_row hw (j := 1) rfl (fun _ => rfl) (by omega)).take hk) ⟨by simp; omega, by decide⟩ rfl fun A3 c3 => ?_)
        refine xV (e_as (v := .slice _ _ _) (q0 rfl)) rfl rfl ?_
        refine XN ?_
        refine thenJ_normal ?_
        refine H_seq ?_
        refine RAd 1 rfl (by decide +kernel) ?_
        refine aV 0 (by decide +kernel) rfl (e_mv (v := .slice _ _ _) (q0 rfl)) rfl ?_
        refine aV 1 (by decide +kernel) rfl (eS Tryz.isAgg57 Tryz.sizeOf57 (q0 rfl)) rfl ?_
        refine aV 4 (by decide +kernel) rfl (e_mv (v := .slice _ _ _) (q0 rfl)) rfl ?_
        refine aV 5 (by decide +kernel) rfl (e_mv (v := .int _ _) (q0 rfl)) rfl ?_
        refine aV 6 (by decide +kernel) rfl (e_slLoG k Tryz.underlying25 Tryz.sizeOf57 (q0 rfl) (q0 rfl) (fun _ => ⟨rfl, hk⟩)) rfl ?_
        refine rdy1 (i := 2) (by decide +kernel) (sub_drop 1) ?_
        refine aL rfl (f_slit [(.int .i64 0), (.int .i64 0), (.int .i64 0), (.int .i64 0), (.int .i64 0), (.int .i64 0), (.int .i64 0), (.int .i64 0), (.int .i64 0)] Tryz.underlying25 Tryz.sizeOf57 Tryz.zeroValue57 rfl (by kernel_rfl) (pt (v := .agg _) rfl E.p0) rfl rfl fun b71 => ?_)
        refine rdy1 (i := 3) (by decide +kernel) (sub_drop 2) ?_
        refine aL rfl (f_append (k := 9) (i := Tryz.t57) (enc := Ev.cells) 1 Tryz.underlying25 (by kernel_rfl) rfl rfl rfl rfl (fun _ => rfl) (fun _ => rfl) rfl rfl rfl (fun w hw => slAt_box (xs := [e1]) hw (j := 0) rfl (fun _ => rfl) (by simp)) ⟨by simp; omega, by decide⟩ rfl fun A4 c4 => ?_)
        refine rdy1 (i := 7) (by decide +kernel) (sub_drop 2) ?_
        refine aL rfl (f_append (k := 9) (i := Tryz.t57) (enc := Ev.cells) 1 Tryz.underlying25 (by kernel_rfl) rfl rfl rfl rfl (fun _ => rfl) (fun _ => rfl) rfl rfl rfl (fun w hw => (slAt_row hw (j := 2) rfl (fun _ => rfl) (by omega)).drop hk hcap.1) ⟨by simp; omega, by decide⟩ rfl fun A5 c5 => ?_)
        refine aV 8 (by decide +kernel) rfl (e_as (v := .slice _ _ _) (q0 rfl)) rfl ?_
        refine aZ (by decide +kernel) (sub_drop 2) ?_
        refine thenJ_normal ?_
        refine H_ret ?_
        exact ret1 (v := .slice _ _ _) rfl rfl rfl fun w' hw => ⟨(A5, c5), by simp, by simpa using hw.pick [1] (by decide)⟩

theorem refSet_len : ∀ (l s : List Ev), (l.foldl withE s).length ≤ s.length + l.length
  | [], s => by simp
  | x :: l, s => by
    have h1 := refSet_len l (withE s x)
    have h2 : (withE s x).length ≤ s.length + 1 := by
      have h3 := scan_len s x s.length
      rw [List.take_length] at h3
      simp only [withE, List.length_append, List.length_cons]
      have : ∀ (p : Ev → Bool) (o : List Ev), (o.takeWhile p).length + (o.dropWhile p).length = o.length := fun p o => by
        rw [← List.length_append, List.takeWhile_append_dropWhile]
      have := this (fun y => evLess y (s.foldl scanStep ([], x)).2) (s.foldl scanStep ([], x)).1
      omega
    simp only [List.foldl_cons, List.length_cons]
    omega
attribute [local irreducible] withE
theorem rset_w (A : Option Addr) (n c : Nat) (xs : List Ev) (w : World) (hx : EvsAt w A n xs) (hn : n ≤ 10000) :
    Calls Tryz.prog 58 #[.slice A n c] w fun r w' => ∃ x : Option Addr × Nat, r = .returned (.slice x.1 (setOf xs).length x.2) ∧ Mem w [evRow x.1 x.2 (setOf xs)] w' := by
  have hl := hx.1
  obtain ⟨S, hS⟩ : ∃ S : Nat → List Ev, S = fun k => (xs.take k).foldl withE [] := ⟨_, rfl⟩
  have hstep : ∀ k x, xs[k]? = some x → S (k + 1) = withE (S k) x := fun k x hx => by
    rw [hS]; simp only; rw [take_snoc _ _ _ hx, List.foldl_append]; rfl
  have hlen : ∀ k, (S k).length ≤ xs.length := fun k => by
    rw [hS]
    have h1 := refSet_len (xs.take k) []
    have h2 : (xs.take k).length ≤ xs.length := by rw [List.length_take]; omega
    simp only [List.length_nil] at h1
    simp only
    omega
  have hS0 : S 0 = [] := by rw [hS]; rfl
  have hSn : S n = setOf xs := by rw [hS, ← refSet_eq]; simp only [← hl, List.take_length]; rfl
  clear hS
  refine H_enter Tryz.func58 rfl Tryz.ntmps58 rfl ?_
  refine H_seq ?_
  refine R0 ?_
  refine xV (e_as (v := .slice _ _ _) (q0 rfl)) rfl rfl ?_
  refine XN ?_
  refine thenJ_normal ?_
  refine H_seq ?_
  refine R0 ?_
  refine xV (e_as (v := .slice _ _ _) (q0 rfl)) rfl rfl ?_
  refine XN ?_
  refine thenJ_normal ?_
  refine H_seq ?_
  refine H_seq ?_
  refine R0 ?_
  refine xV (e_as (v := .int _ _) (q0 rfl)) rfl rfl ?_
  refine XN ?_
  refine thenJ_normal ?_
  refine H_block ?_
  refine H_loop [3, 4, 5, 6, 7, 8, 9, 10, 11, 12, 13, 14, 15, 16] (fun s : Nat × Option Addr × Nat => [(4, .int .i64 s.1), (3, .slice s.2.1 (S s.1).length s.2.2)]) (fun s => [evRow s.2.1 s.2.2 (S s.1)]) (fun s => s.1 ≤ n) (fun s => n - s.1) (0, none, 0) ⟨rfl, by show _ = Value.slice none (S 0).length 0; rw [hS0]; rfl, trivial⟩ (fun w hw => by show Mem _ [evRow none 0 (S 0)] w; rw [hS0]; exact hw.nilRow _ _ _ rfl) rfl (Nat.zero_le _) ?_
  rintro s g hk
  refine H_seq ?_
  refine H_seq ?_
  refine R0 ?_
  refine xV (e_mv (v := .int _ _) (q0 rfl)) rfl rfl ?_
  refine xV (e_mv (v := .slice _ _ _) (q0 rfl)) rfl rfl ?_
  refine xV (e_len Tryz.underlying25 (q0 rfl)) rfl rfl ?_
  refine xV (e_lt (q0 rfl) (q0 rfl)) rfl rfl ?_
  refine XN ?_
  refine thenJ_normal ?_
  refine H_cond rfl (fun hlt => ?_) (fun hlt => ?_)
  · have hlt' : s.1 < n := by simpa using hlt
    obtain ⟨b, off, x, rfl, hbl, hxk, hrx⟩ := hx.at_ hlt'
    have hst := hstep s.1 x hxk
    have hll := hlen s.1
    refine H_skip ?_
    refine thenJ_normal ?_
    refine H_seq ?_
    refine H_block ?_
    refine R0 ?_
    refine xV (e_mv (v := .slice _ _ _) (q0 rfl)) rfl rfl ?_
    refine xV (e_mv (v := .slice _ _ _) (q0 rfl)) rfl rfl ?_
    refine xV (e_mv (v := .int _ _) (q0 rfl)) rfl rfl ?_
    refine xV (e_idx _ Tryz.underlying25 Tryz.sizeOf57 (q0 rfl) (q0 rfl) (fun _ => ⟨rfl, by omega⟩)) rfl rfl ?_
    refine xV (eS Tryz.isAgg57 Tryz.sizeOf57 (q0 rfl)) rfl rfl ?_
    refine xCX (en Tryz.call82 (ha2 (q0 rfl) (q0 rfl))) (fun w hw => with_w s.2.1 (S s.1).length s.2.2 (S s.1) x w (slAt_row hw (j := 0) rfl (fun _ => rfl) (by omega)) (by omega)) rfl (fun _ => rfl) fun y => ?_
    refine xV (e_as (v := .slice _ _ _) (q0 rfl)) rfl rfl ?_
    refine XN ?_
    refine blockJ_normal ?_
    refine thenJ_normal ?_
    refine R0 ?_
    refine xV (e_mv (v := .int _ _) (q0 rfl)) rfl rfl ?_
    refine xV (e_add (q0 rfl) (q0 rfl) (fun _ => ⟨rfl, by omega, by omega⟩)) rfl rfl ?_
    refine xV (e_as (v := .int _ _) (q0 rfl)) rfl rfl ?_
    refine XN ?_
    exact loopJ_normal (s.1 + 1, y.1, y.2) (by repeat (first | exact agree_self | exact agree_over | refine agree_upd rfl ?_ | refine agree_updL rfl ?_ | refine agree_over2 rfl ?_)) ⟨rfl, by show _ = Value.slice _ (S (s.1 + 1)).length _; rw [hst]; rfl, trivial⟩ (fun w hw => by show Mem _ [evRow y.1 y.2 (S (s.1 + 1))] w; rw [hst]; exact hw.pick [0] (by decide)) rfl (by show s.1 + 1 ≤ n; omega) (by show n - (s.1 + 1) < n - s.1; omega)
  · have hend : s.1 = n := by simp at hlt; omega
    refine H_exit ?_
    refine thenJ_exit ?_
    refine loopJ_exit ?_
    refine blockJ_hit ?_
    refine thenJ_normal ?_
    refine H_seq ?_
    refine R0 ?_
    refine xV (e_mv (v := .slice _ _ _) (q0 rfl)) rfl rfl ?_
    refine xV (e_as (v := .slice _ _ _) (q0 rfl)) rfl rfl ?_
    refine XN ?_
    refine thenJ_normal ?_
    refine H_ret ?_
    exact ret1 (v := .slice _ _ _) rfl rfl rfl fun w' hw => ⟨(s.2.1, s.2.2), by rw [← hSn, ← hend], by rw [← hSn, ← hend]; exact hw⟩

end Go.Proofs.Cus
