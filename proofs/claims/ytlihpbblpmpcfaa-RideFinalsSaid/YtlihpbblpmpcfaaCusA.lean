import Derived.Test.YtlihpbblpmpcfaaCusS
import Derived.Test.YtlihpbblpmpcfaaEng2
import Derived.Test.YtlihpbblpmpcfaaProg
import Derived.KernelRfl
set_option linter.unusedVariables false
set_option linter.unusedSimpArgs false
/-
  The walks: fleets and events, each by itself.
-/
namespace Go.Proofs.Cus
open Go Go.RowKit Go.Proofs.E

abbrev IntsAt (w : World) (A : Option Addr) (n : Nat) (xs : List Int) : Prop := SlAt w 1 encInt A n xs
def Ev.cells (e : Ev) : List Value := [.int .i64 e.device, .int .i64 e.seq, .int .i64 e.at_, .int .i64 e.late, .int .i64 e.kind, .int .i64 e.bike, .int .i64 e.place, .int .i64 e.rider, .int .i64 e.ride]
/-- where a fleet's lists lie -/
structure FA where
  dA : Option Addr
  dn : Nat
  dc : Nat
  tA : Option Addr
  tn : Nat
  tc : Nat
def Fl.cells (f : Fl) (a : FA) : List Value := [.int .i64 f.bikes, .int .i64 f.riders, .int .i64 f.devices, .slice a.dA a.dn a.dc, .slice a.tA a.tn a.tc]
structure FlAt (w : World) (f : Fl) (a : FA) : Prop where
  docks : IntsAt w a.dA a.dn f.docks
  trucks : IntsAt w a.tA a.tn f.trucks
theorem FlAt.mem {w0 w : World} {L : List E.Item} {f : Fl} {a : FA} (h : FlAt w0 f a) (hm : Mem w0 L w) : FlAt w f a := ⟨h.docks.mem hm, h.trucks.mem hm⟩

theorem within_w (n low high : Int) (w : World) : Calls Try.prog 66 #[.int .i64 n, .int .i64 low, .int .i64 high] w fun e w' => e = .returned (.bool (within n low high)) ∧ Bel w w' := by
  refine H_enter Try.func66 rfl Try.ntmps66 rfl ?_
  refine H_seq ?_
  refine R0 ?_
  refine xV (e_as (v := .bool _) (q0 rfl)) rfl rfl ?_
  refine XN ?_
  refine thenJ_normal ?_
  refine H_seq ?_
  refine R0 ?_
  refine xV (e_mv (v := .int _ _) (q0 rfl)) rfl rfl ?_
  refine xV (e_mv (v := .int _ _) (q0 rfl)) rfl rfl ?_
  refine xV (e_le (q0 rfl) (q0 rfl)) rfl rfl ?_
  refine xV (e_mv (v := .bool _) (q0 rfl)) rfl rfl ?_
  refine xVT (e_mv (v := .int _ _) (q0 rfl)) rfl rfl rfl rfl ?_
  refine xVT (e_mv (v := .int _ _) (q0 rfl)) rfl rfl rfl rfl ?_
  refine xVT (e_le (q1 rfl) (q1 rfl)) rfl rfl rfl rfl ?_
  refine xV (e_and (q0 rfl) rfl (fun h => by first | rfl | (rw [h]; rfl))) rfl rfl ?_
  refine xV (e_as (v := .bool _) (q0 rfl)) rfl rfl ?_
  refine XN ?_
  refine thenJ_normal ?_
  refine H_ret ?_
  exact ret1 (v := .bool _) rfl rfl rfl fun w' hw => ⟨rfl, hw.1⟩

theorem take_snoc {α : Type} (l : List α) (k : Nat) (v : α) (h : l[k]? = some v) : l.take (k + 1) = l.take k ++ [v] := by
  rw [List.take_add_one, h]; rfl
attribute [local irreducible] within allIn

theorem all_w (A : Option Addr) (n c : Nat) (xs : List Int) (most : Int) (w : World) (hx : IntsAt w A n xs) :
    Calls Try.prog 67 #[.slice A n c, .int .i64 most] w fun e w' => e = .returned (.bool (allIn xs most)) ∧ Bel w w' := by
  have hl := hx.1
  have hn := hx.2.1
  refine H_enter Try.func67 rfl Try.ntmps67 rfl ?_
  refine H_seq ?_
  refine R0 ?_
  refine xV (e_as (v := .bool _) (q0 rfl)) rfl rfl ?_
  refine XN ?_
  refine thenJ_normal ?_
  refine H_seq ?_
  refine H_seq ?_
  refine R0 ?_
  refine xV (e_mv (v := .slice _ _ _) (q0 rfl)) rfl rfl ?_
  refine xV (e_len Try.underlying40 (q0 rfl)) rfl rfl ?_
  refine xV (e_mv (v := .int _ _) (q0 rfl)) rfl rfl ?_
  refine XN ?_
  refine thenJ_normal ?_
  refine H_block ?_
  refine H_loop [4, 6, 9, 10, 11, 12, 13, 14, 15, 16, 17] (fun k : Nat => [(9, .int .i64 k)]) (fun _ => _) (fun k => k ≤ n ∧ (xs.take k).all (fun m => within m 1 most) = true) (fun k => n - k) 0 ⟨rfl, trivial⟩ (fun _ h => h) rfl ⟨Nat.zero_le _, rfl⟩ ?_
  rintro k g ⟨hk, hall⟩
  refine H_seq ?_
  refine R0 ?_
  refine xV (e_lt (q0 rfl) (q0 rfl)) rfl rfl ?_
  refine XN ?_
  refine thenJ_normal ?_
  refine H_seq ?_
  refine H_cond rfl (fun hlt => ?_) (fun hlt => ?_)
  · simp at hlt
    obtain ⟨b, off, x, rfl, hbl, hxk, hrx⟩ := hx.at_ hlt
    refine H_skip ?_
    refine thenJ_normal ?_
    refine H_seq ?_
    refine H_block ?_
    refine H_seq ?_
    refine R0 ?_
    refine xV (e_idx _ Try.underlying40 Try.sizeOf3 (q0 rfl) (q0 rfl) (fun _ => ⟨rfl, by omega⟩)) rfl rfl ?_
    refine xV (eL Try.isAgg3 (q0 rfl)) rfl rfl ?_
    refine xV (e_as (v := .int _ _) (q0 rfl)) rfl rfl ?_
    refine XN ?_
    refine thenJ_normal ?_
    refine H_seq ?_
    refine R0 ?_
    refine xV (e_mv (v := .int _ _) (q0 rfl)) rfl rfl ?_
    refine xV (e_mv (v := .int _ _) (q0 rfl)) rfl rfl ?_
    refine xC (en Try.call66 (ha3 (q0 rfl) (q0 rfl) (q0 rfl))) (fun _ w _ => within_w x 1 most w) rfl rfl ?_
    refine xV (e_not (q0 rfl)) rfl rfl ?_
    refine XN ?_
    refine thenJ_normal ?_
    refine H_cond rfl (fun hb => ?_) (fun hb => ?_)
    · refine H_seq ?_
      refine R0 ?_
      refine xV (e_as (v := .bool _) (q0 rfl)) rfl rfl ?_
      refine XN ?_
      refine thenJ_normal ?_
      refine H_ret ?_
      refine blockJ_ret ?_
      refine thenJ_ret ?_
      refine loopJ_ret ?_
      refine blockJ_ret ?_
      refine thenJ_ret ?_
      exact ret1 (v := .bool _) rfl rfl rfl fun w' hw => ⟨ret_bool (by
        unfold allIn
        rw [eq_comm, List.all_eq_false]
        exact ⟨x, List.mem_of_getElem? hxk, by simpa using hb⟩), hw.1⟩
    · refine H_skip ?_
      refine blockJ_normal ?_
      refine thenJ_normal ?_
      refine R0 ?_
      refine xV (e_add (q0 rfl) (q0 rfl) (fun _ => ⟨rfl, by omega, by omega⟩)) rfl rfl ?_
      refine xV (e_mv (v := .int _ _) (q0 rfl)) rfl rfl ?_
      refine XN ?_
      exact loopJ_normal (k + 1) (by repeat (first | exact agree_self | exact agree_over | refine agree_upd rfl ?_ | refine agree_updL rfl ?_ | refine agree_over2 rfl ?_)) ⟨rfl, trivial⟩ (fun _ h => h) rfl ⟨by omega, by rw [take_snoc _ _ _ hxk, List.all_append, hall]; simpa using hb⟩ (by show n - (k + 1) < n - k; omega)
  · obtain rfl : k = n := by simp at hlt; omega
    refine H_exit ?_
    refine thenJ_exit ?_
    refine loopJ_exit ?_
    refine blockJ_hit ?_
    refine thenJ_normal ?_
    refine H_seq ?_
    refine R0 ?_
    refine xV (e_as (v := .bool _) (q0 rfl)) rfl rfl ?_
    refine XN ?_
    refine thenJ_normal ?_
    refine H_ret ?_
    exact ret1 (v := .bool _) rfl rfl rfl fun w' hw => ⟨ret_bool (by unfold allIn; rw [← hall, List.take_of_length_le (by omega)]), hw.1⟩
theorem fleet_w (f : Fl) (a : FA) (w : World) (hx : FlAt w f a) : Calls Try.prog 47 #[.agg (f.cells a).toArray] w fun e w' => e = .returned (.int .i64 (flErr f)) ∧ Bel w w' := by
  have hl := hx.docks.1
  have hl2 := hx.trucks.1
  refine H_enter Try.func47 rfl Try.ntmps47 rfl ?_
  refine H_seq ?_
  refine R0 ?_
  refine X_box (v := .agg _) rfl rfl fun b1 => ?_
  refine xV (e_as (v := .int _ _) (q0 rfl)) rfl rfl ?_
  refine XN ?_
  refine thenJ_normal ?_
  refine H_seq ?_
  refine H_seq ?_
  refine R0 ?_
  refine xV (e_fld Try.underlying42 rfl Try.sizeOf3 rfl (q0 rfl)) rfl rfl ?_
  refine xV (eL Try.isAgg3 (q0 rfl)) rfl rfl ?_
  refine xC (en Try.call66 (ha3 (q0 rfl) (q0 rfl) (q0 rfl))) (fun _ w _ => within_w f.bikes 1 128 w) rfl rfl ?_
  refine xV (e_not (q0 rfl)) rfl rfl ?_
  refine xV (e_mv (v := .bool _) (q0 rfl)) rfl rfl ?_
  refine xVF (e_fld Try.underlying42 rfl Try.sizeOf3 rfl (q0 rfl)) rfl rfl rfl rfl ?_
  refine xVF (eL Try.isAgg3 (q1 rfl)) rfl rfl rfl rfl ?_
  refine xCF (en Try.call66 (ha3 (q1 (v := .int _ _) rfl) (q0 rfl) (q0 rfl))) (fun _ w _ => within_w f.riders 1 128 w) rfl rfl rfl rfl ?_
  refine xVF (e_not (q1 rfl)) rfl rfl rfl rfl ?_
  refine xV (e_or (q0 rfl) rfl (fun h => by first | rfl | (rw [h]; rfl))) rfl rfl ?_
  refine xV (e_mv (v := .bool _) (q0 rfl)) rfl rfl ?_
  refine xVF (e_fld Try.underlying42 rfl Try.sizeOf3 rfl (q0 rfl)) rfl rfl rfl rfl ?_
  refine xVF (eL Try.isAgg3 (q1 rfl)) rfl rfl rfl rfl ?_
  refine xCF (en Try.call66 (ha3 (q1 (v := .int _ _) rfl) (q0 rfl) (q0 rfl))) (fun _ w _ => within_w f.devices 1 256 w) rfl rfl rfl rfl ?_
  refine xVF (e_not (q1 rfl)) rfl rfl rfl rfl ?_
  refine xV (e_or (q0 rfl) rfl (fun h => by first | rfl | (rw [h]; rfl))) rfl rfl ?_
  refine XN ?_
  refine thenJ_normal ?_
  refine H_cond rfl (fun h1 => ?_) (fun h1 => ?_)
  · refine H_seq ?_
    refine R0 ?_
    refine xV (e_as (v := .int _ _) (q0 rfl)) rfl rfl ?_
    refine XN ?_
    refine thenJ_normal ?_
    refine H_ret ?_
    refine thenJ_ret ?_
    exact ret1 (v := .int _ _) rfl rfl rfl fun w' hw => ⟨ret_int (by unfold flErr; rw [if_pos h1]), hw.1⟩
  · refine H_skip ?_
    refine thenJ_normal ?_
    refine H_seq ?_
    refine H_seq ?_
    refine R0 ?_
    refine xV (e_fld Try.underlying42 rfl Try.sizeOf40 rfl (q0 rfl)) rfl rfl ?_
    refine xV (eL Try.isAgg40 (q0 rfl)) rfl rfl ?_
    refine xV (e_len Try.underlying40 (q0 rfl)) rfl rfl ?_
    refine xV (e_gt (q0 rfl) (q0 rfl)) rfl rfl ?_
    refine xV (e_mv (v := .bool _) (q0 rfl)) rfl rfl ?_
    refine xVF (e_fld Try.underlying42 rfl Try.sizeOf40 rfl (q0 rfl)) rfl rfl rfl rfl ?_
    refine xVF (eL Try.isAgg40 (q1 rfl)) rfl rfl rfl rfl ?_
    refine xVF (e_len Try.underlying40 (q1 rfl)) rfl rfl rfl rfl ?_
    refine xVF (e_gt (q1 rfl) (q0 rfl)) rfl rfl rfl rfl ?_
    refine xV (e_or (q0 rfl) rfl (fun h => by first | rfl | (rw [h]; rfl))) rfl rfl ?_
    refine XN ?_
    refine thenJ_normal ?_
    refine H_cond rfl (fun h2 => ?_) (fun h2 => ?_)
    · refine H_seq ?_
      refine R0 ?_
      refine xV (e_as (v := .int _ _) (q0 rfl)) rfl rfl ?_
      refine XN ?_
      refine thenJ_normal ?_
      refine H_ret ?_
      refine thenJ_ret ?_
      exact ret1 (v := .int _ _) rfl rfl rfl fun w' hw => ⟨ret_int (by unfold flErr; rw [if_neg (by rw [h1]; decide), if_pos (by simp at h2; omega)]), hw.1⟩
    · refine H_skip ?_
      refine thenJ_normal ?_
      refine H_seq ?_
      refine H_seq ?_
      refine R0 ?_
      refine xV (e_fld Try.underlying42 rfl Try.sizeOf40 rfl (q0 rfl)) rfl rfl ?_
      refine xV (eL Try.isAgg40 (q0 rfl)) rfl rfl ?_
      refine xC (en Try.call67 (ha2 (q0 rfl) (q0 rfl))) (fun _ w hm => all_w a.dA a.dn a.dc f.docks 32 w (hx.docks.mem hm)) rfl rfl ?_
      refine xV (e_not (q0 rfl)) rfl rfl ?_
      refine xV (e_mv (v := .bool _) (q0 rfl)) rfl rfl ?_
      refine xVF (e_fld Try.underlying42 rfl Try.sizeOf40 rfl (q0 rfl)) rfl rfl rfl rfl ?_
      refine xVF (eL Try.isAgg40 (q1 rfl)) rfl rfl rfl rfl ?_
      refine xCF (en Try.call67 (ha2 (q1 (v := .slice _ _ _) rfl) (q0 rfl))) (fun _ w hm => all_w a.tA a.tn a.tc f.trucks 32 w (hx.trucks.mem hm)) rfl rfl rfl rfl ?_
      refine xVF (e_not (q1 rfl)) rfl rfl rfl rfl ?_
      refine xV (e_or (q0 rfl) rfl (fun h => by first | rfl | (rw [h]; rfl))) rfl rfl ?_
      refine XN ?_
      refine thenJ_normal ?_
      refine H_cond rfl (fun h3 => ?_) (fun h3 => ?_)
      · refine H_seq ?_
        refine R0 ?_
        refine xV (e_as (v := .int _ _) (q0 rfl)) rfl rfl ?_
        refine XN ?_
        refine thenJ_normal ?_
        refine H_ret ?_
        refine thenJ_ret ?_
        exact ret1 (v := .int _ _) rfl rfl rfl fun w' hw => ⟨ret_int (by unfold flErr; rw [if_neg (by rw [h1]; decide), if_neg (by simp at h2; omega), if_pos h3]), hw.1⟩
      · refine H_skip ?_
        refine thenJ_normal ?_
        refine H_seq ?_
        refine R0 ?_
        refine xV (e_as (v := .int _ _) (q0 rfl)) rfl rfl ?_
        refine XN ?_
        refine thenJ_normal ?_
        refine H_ret ?_
        exact ret1 (v := .int _ _) rfl rfl rfl fun w' hw => ⟨ret_int (by unfold flErr; rw [if_neg (by rw [h1]; decide), if_neg (by simp at h2; omega), if_neg (by rw [h3]; decide)]), hw.1⟩

end Go.Proofs.Cus

/-
  The walks: an event's errors. (Printed by mk_cb.py.)
-/
namespace Go.Proofs.Cus
open Go Go.RowKit Go.Proofs.E

theorem flErr_ok {f : Fl} (h : flErr f = 0) : (1 ≤ f.bikes ∧ f.bikes ≤ 128) ∧ (0 ≤ f.riders ∧ f.riders ≤ 1000) ∧ (1 ≤ f.devices ∧ f.devices ≤ 256) ∧ f.docks.length ≤ 32 ∧ f.trucks.length ≤ 8 ∧ allIn f.docks 32 = true ∧ allIn f.trucks 32 = true := by
  unfold flErr at h
  split at h
  · cases h
  · rename_i h1
    split at h
    · cases h
    · rename_i h2
      split at h
      · cases h
      · rename_i h3
        simp [within] at h1 h3
        refine ⟨?_, ?_, ?_, ?_, ?_, h3.1, h3.2⟩ <;> omega

attribute [local irreducible] within allIn flErr
theorem placed_w (f : Fl) (a : FA) (e : Ev) (w : World) (hx : FlAt w f a) (hp : -9223372036854775808 ≤ e.place ∧ e.place ≤ 9223372036854775807) : Calls Try.prog 79 #[.agg (f.cells a).toArray, .agg e.cells.toArray] w fun r w' => r = .returned (.bool (placed f e)) ∧ Bel w w' := by
  have hl := hx.docks.1
  have hl2 := hx.trucks.1
  have hn2 := hx.trucks.2.1
  refine H_enter Try.func79 rfl Try.ntmps79 rfl ?_
  refine H_seq ?_
  refine R0 ?_
  refine X_box (v := .agg _) rfl rfl fun b2 => ?_
  refine X_box (v := .agg _) rfl rfl fun b3 => ?_
  refine xV (e_as (v := .bool _) (q0 rfl)) rfl rfl ?_
  refine XN ?_
  refine thenJ_normal ?_
  refine H_seq ?_
  refine H_seq ?_
  refine R0 ?_
  refine xV (e_fld Try.underlying50 rfl Try.sizeOf3 rfl (q0 rfl)) rfl rfl ?_
  refine xV (eL Try.isAgg3 (q0 rfl)) rfl rfl ?_
  refine XN ?_
  refine thenJ_normal ?_
  refine H_block ?_
  refine H_seq ?_
  refine R0 ?_
  refine xV (e_eq (q0 rfl) (q0 rfl)) rfl rfl ?_
  refine xV (e_as (v := .bool _) (q0 rfl)) rfl rfl ?_
  refine XN ?_
  refine thenJ_normal ?_
  refine H_cond rfl (fun h1 => ?_) (fun h1 => ?_)
  · have hk1 : e.kind = 1 := by simpa using h1
    by_cases hin : (decide (0 ≤ e.place) && decide (e.place.tdiv 32 < (a.dn : Int))) = true
    case neg =>
      have hd : (decide (0 ≤ e.place) && decide (e.place.tdiv 32 < (a.dn : Int))) = false := by simpa using hin
      refine H_seq ?_
      refine R1 rfl (by decide +kernel) ?_
      refine xV (e_fld Try.underlying50 rfl Try.sizeOf3 rfl (q0 rfl)) rfl rfl ?_
      refine xV (eL Try.isAgg3 (q0 rfl)) rfl rfl ?_
      refine xV (e_quoT (q0 rfl) (q0 rfl) (fun _ => by omega)) rfl rfl ?_
      refine xV (e_fld Try.underlying50 rfl Try.sizeOf3 rfl (q0 rfl)) rfl rfl ?_
      refine xV (eL Try.isAgg3 (q0 rfl)) rfl rfl ?_
      refine xV (e_remT (q0 rfl) (q0 rfl) (fun _ => by omega)) rfl rfl ?_
      refine xV (e_as (v := .int _ _) (q0 rfl)) rfl rfl ?_
      refine xV (e_as (v := .int _ _) (q0 rfl)) rfl rfl ?_
      refine XN ?_
      refine thenJ_normal ?_
      refine H_seq ?_
      refine R0 ?_
      refine xV (e_fld Try.underlying50 rfl Try.sizeOf3 rfl (q0 rfl)) rfl rfl ?_
      refine xV (eL Try.isAgg3 (q0 rfl)) rfl rfl ?_
      refine xV (e_ge (q0 rfl) (q0 rfl)) rfl rfl ?_
      refine xV (e_mv (v := .bool _) (q0 rfl)) rfl rfl ?_
      refine xVT (e_mv (v := .int _ _) (q0 rfl)) rfl rfl rfl rfl ?_
      refine xVT (e_fld Try.underlying42 rfl Try.sizeOf40 rfl (q0 rfl)) rfl rfl rfl rfl ?_
      refine xVT (eL Try.isAgg40 (q1 rfl)) rfl rfl rfl rfl ?_
      refine xVT (e_len Try.underlying40 (q1 rfl)) rfl rfl rfl rfl ?_
      refine xVT (e_lt (q1 rfl) (q1 rfl)) rfl rfl rfl rfl ?_
      refine xV (e_and (q0 rfl) rfl (fun h => by first | rfl | (rw [h]; rfl))) rfl rfl ?_
      refine xV (e_mv (v := .bool _) (q0 rfl)) rfl rfl ?_
      refine xVT (e_dead (v := .int .i64 0) (hd)) rfl rfl rfl rfl ?_
      refine xVT (e_dead (v := .pointer none) (hd)) rfl rfl rfl rfl ?_
      refine xVT (e_dead (v := .slice none 0 0) (hd)) rfl rfl rfl rfl ?_
      refine xVT (e_dead (v := .int .i64 0) (hd)) rfl rfl rfl rfl ?_
      refine xVT (e_dead (v := .pointer none) (hd)) rfl rfl rfl rfl ?_
      refine xVT (e_dead (v := .int .i64 0) (hd)) rfl rfl rfl rfl ?_
      refine xVT (e_dead (v := .bool false) (hd)) rfl rfl rfl rfl ?_
      refine xV (e_and (q0 rfl) rfl (fun h => by first | rfl | (rw [h]; rfl))) rfl rfl ?_
      refine xV (e_as (v := .bool _) (q0 rfl)) rfl rfl ?_
      refine XN ?_
      refine thenJ_normal ?_
      refine H_ret ?_
      refine blockJ_ret ?_
      refine thenJ_ret ?_
      exact ret1 (v := .bool _) rfl rfl rfl fun w' hw => ⟨ret_bool (by unfold placed; rw [if_pos hk1, hl, hd]; rfl), hw.1⟩
    case pos =>
      have h0 : 0 ≤ e.place := by simp at hin; exact hin.1
      have hlt : e.place.tdiv 32 < (a.dn : Int) := by simp at hin; exact hin.2
      have hq : 0 ≤ e.place.tdiv 32 := Int.tdiv_nonneg h0 (by decide)
      have hj : e.place.tdiv 32 = ((e.place.tdiv 32).toNat : Int) := by omega
      have hjn : (e.place.tdiv 32).toNat < a.dn := by omega
      obtain ⟨dA, dn, dc, tA, tn, tc⟩ := a
      obtain ⟨b, off, x, hA, hbl, hxk, hrx⟩ := hx.docks.at_ hjn
      simp only at hA
      subst hA
      refine H_seq ?_
      refine R1 rfl (by decide +kernel) ?_
      refine xV (e_fld Try.underlying50 rfl Try.sizeOf3 rfl (q0 rfl)) rfl rfl ?_
      refine xV (eL Try.isAgg3 (q0 rfl)) rfl rfl ?_
      refine xV (e_quoT (q0 rfl) (q0 rfl) (fun _ => by omega)) rfl rfl ?_
      refine xV (e_fld Try.underlying50 rfl Try.sizeOf3 rfl (q0 rfl)) rfl rfl ?_
      refine xV (eL Try.isAgg3 (q0 rfl)) rfl rfl ?_
      refine xV (e_remT (q0 rfl) (q0 rfl) (fun _ => by omega)) rfl rfl ?_
      refine xV (e_as (v := .int _ _) (q0 rfl)) rfl rfl ?_
      refine xV (e_as (v := .int _ _) (q0 rfl)) rfl rfl ?_
      refine XN ?_
      refine thenJ_normal ?_
      refine H_seq ?_
      refine R0 ?_
      refine xV (e_fld Try.underlying50 rfl Try.sizeOf3 rfl (q0 rfl)) rfl rfl ?_
      refine xV (eL Try.isAgg3 (q0 rfl)) rfl rfl ?_
      refine xV (e_ge (q0 rfl) (q0 rfl)) rfl rfl ?_
      refine xV (e_mv (v := .bool _) (q0 rfl)) rfl rfl ?_
      refine xVT (e_mv (v := .int _ _) (q0 rfl)) rfl rfl rfl rfl ?_
      refine xVT (e_fld Try.underlying42 rfl Try.sizeOf40 rfl (q0 rfl)) rfl rfl rfl rfl ?_
      refine xVT (eL Try.isAgg40 (q1 rfl)) rfl rfl rfl rfl ?_
      refine xVT (e_len Try.underlying40 (q1 rfl)) rfl rfl rfl rfl ?_
      refine xVT (e_lt (q1 rfl) (q1 rfl)) rfl rfl rfl rfl ?_
      refine xV (e_and (q0 rfl) rfl (fun h => by first | rfl | (rw [h]; rfl))) rfl rfl ?_
      refine xV (e_mv (v := .bool _) (q0 rfl)) rfl rfl ?_
      refine xVT (e_mv (v := .int _ _) (q0 rfl)) rfl rfl rfl rfl ?_
      refine xVT (e_fld Try.underlying42 rfl Try.sizeOf40 rfl (q0 rfl)) rfl rfl rfl rfl ?_
      refine xVT (eL Try.isAgg40 (q1 rfl)) rfl rfl rfl rfl ?_
      refine xVT (e_mv (v := .int _ _) (q0 rfl)) rfl rfl rfl rfl ?_
      refine xVT (e_idx (e.place.tdiv 32).toNat Try.underlying40 Try.sizeOf3 (q1 rfl) (q1 rfl) (fun _ => ⟨hj, hjn⟩)) rfl rfl rfl rfl ?_
      refine xVT (eL Try.isAgg3 (q1 rfl)) rfl rfl rfl rfl ?_
      refine xVT (e_lt (q1 rfl) (q1 rfl)) rfl rfl rfl rfl ?_
      refine xV (e_and (q0 rfl) rfl (fun h => by first | rfl | (rw [h]; rfl))) rfl rfl ?_
      refine xV (e_as (v := .bool _) (q0 rfl)) rfl rfl ?_
      refine XN ?_
      refine thenJ_normal ?_
      refine H_ret ?_
      refine blockJ_ret ?_
      refine thenJ_ret ?_
      exact ret1 (v := .bool _) rfl rfl rfl fun w' hw => ⟨ret_bool (by unfold placed; rw [if_pos hk1, List.getD_eq_getElem?_getD, hxk, hl]; rfl), hw.1⟩
  · have hk1 : ¬ e.kind = 1 := by simpa using h1
    refine H_seq ?_
    refine R0 ?_
    refine xV (e_eq (q0 rfl) (q0 rfl)) rfl rfl ?_
    refine xV (e_as (v := .bool _) (q0 rfl)) rfl rfl ?_
    refine XN ?_
    refine thenJ_normal ?_
    refine H_cond rfl (fun h2 => ?_) (fun h2 => ?_)
    · refine H_seq ?_
      refine R0 ?_
      refine xV (e_fld Try.underlying50 rfl Try.sizeOf3 rfl (q0 rfl)) rfl rfl ?_
      refine xV (eL Try.isAgg3 (q0 rfl)) rfl rfl ?_
      refine xC (en Try.call66 (ha3 (q0 rfl) (q0 rfl) (q0 rfl))) (fun _ w _ => within_w e.place 0 63 w) rfl rfl ?_
      refine xV (e_as (v := .bool _) (q0 rfl)) rfl rfl ?_
      refine XN ?_
      refine thenJ_normal ?_
      refine H_ret ?_
      refine blockJ_ret ?_
      refine thenJ_ret ?_
      exact ret1 (v := .bool _) rfl rfl rfl fun w' hw => ⟨ret_bool (by unfold placed; rw [if_neg hk1, if_pos (by simpa using h2)]), hw.1⟩
    · refine H_seq ?_
      refine R0 ?_
      refine xV (e_eq (q0 rfl) (q0 rfl)) rfl rfl ?_
      refine xV (e_as (v := .bool _) (q0 rfl)) rfl rfl ?_
      refine XN ?_
      refine thenJ_normal ?_
      refine H_cond rfl (fun h7 => ?_) (fun h7 => ?_)
      · refine H_seq ?_
        refine R0 ?_
        refine xV (e_fld Try.underlying50 rfl Try.sizeOf3 rfl (q0 rfl)) rfl rfl ?_
        refine xV (eL Try.isAgg3 (q0 rfl)) rfl rfl ?_
        refine xV (e_fld Try.underlying42 rfl Try.sizeOf40 rfl (q0 rfl)) rfl rfl ?_
        refine xV (eL Try.isAgg40 (q0 rfl)) rfl rfl ?_
        refine xV (e_len Try.underlying40 (q0 rfl)) rfl rfl ?_
        refine xV (e_sub (q0 rfl) (q0 rfl) (fun _ => ⟨rfl, by omega, by omega⟩)) rfl rfl ?_
        refine xC (en Try.call66 (ha3 (q0 rfl) (q0 rfl) (q0 rfl))) (fun _ w _ => within_w e.place 0 ((a.tn : Int) - 1) w) rfl rfl ?_
        refine xV (e_as (v := .bool _) (q0 rfl)) rfl rfl ?_
        refine XN ?_
        refine thenJ_normal ?_
        refine H_ret ?_
        refine blockJ_ret ?_
        refine thenJ_ret ?_
        exact ret1 (v := .bool _) rfl rfl rfl fun w' hw => ⟨ret_bool (by unfold placed; rw [if_neg hk1, if_neg (by simpa using h2), if_pos (by simpa using h7), hl2]), hw.1⟩
      · refine H_skip ?_
        refine blockJ_normal ?_
        refine thenJ_normal ?_
        refine H_seq ?_
        refine R0 ?_
        refine xV (e_fld Try.underlying50 rfl Try.sizeOf3 rfl (q0 rfl)) rfl rfl ?_
        refine xV (eL Try.isAgg3 (q0 rfl)) rfl rfl ?_
        refine xV (e_eq (q0 rfl) (q0 rfl)) rfl rfl ?_
        refine xV (e_as (v := .bool _) (q0 rfl)) rfl rfl ?_
        refine XN ?_
        refine thenJ_normal ?_
        refine H_ret ?_
        exact ret1 (v := .bool _) rfl rfl rfl fun w' hw => ⟨ret_bool (by unfold placed; rw [if_neg hk1, if_neg (by simpa using h2), if_neg (by simpa using h7)]), hw.1⟩
attribute [local irreducible] placed
theorem named_w (f : Fl) (a : FA) (e : Ev) (w : World) (hr : 0 ≤ f.riders ∧ f.riders ≤ 1000) : Calls Try.prog 80 #[.agg (f.cells a).toArray, .agg e.cells.toArray] w fun r w' => r = .returned (.bool (named f e)) ∧ Bel w w' := by
  refine H_enter Try.func80 rfl Try.ntmps80 rfl ?_
  refine H_seq ?_
  refine R0 ?_
  refine X_box (v := .agg _) rfl rfl fun b2 => ?_
  refine X_box (v := .agg _) rfl rfl fun b3 => ?_
  refine xV (e_as (v := .bool _) (q0 rfl)) rfl rfl ?_
  refine XN ?_
  refine thenJ_normal ?_
  refine H_seq ?_
  refine R1 rfl (by decide +kernel) ?_
  refine xV (e_fld Try.underlying50 rfl Try.sizeOf3 rfl (q0 rfl)) rfl rfl ?_
  refine xV (eL Try.isAgg3 (q0 rfl)) rfl rfl ?_
  refine xV (e_eq (q0 rfl) (q0 rfl)) rfl rfl ?_
  refine xV (e_fld Try.underlying50 rfl Try.sizeOf3 rfl (q0 rfl)) rfl rfl ?_
  refine xV (eL Try.isAgg3 (q0 rfl)) rfl rfl ?_
  refine xV (e_eq (q0 rfl) (q0 rfl)) rfl rfl ?_
  refine xV (e_as (v := .bool _) (q0 rfl)) rfl rfl ?_
  refine xV (e_as (v := .bool _) (q0 rfl)) rfl rfl ?_
  refine XN ?_
  refine thenJ_normal ?_
  refine H_seq ?_
  refine H_seq ?_
  refine R0 ?_
  refine xV (e_fld Try.underlying50 rfl Try.sizeOf3 rfl (q0 rfl)) rfl rfl ?_
  refine xV (eL Try.isAgg3 (q0 rfl)) rfl rfl ?_
  refine xV (e_eq (q0 rfl) (q0 rfl)) rfl rfl ?_
  refine XN ?_
  refine thenJ_normal ?_
  refine H_cond rfl (fun h3 => ?_) (fun h3 => ?_)
  · have hk : e.kind = 3 := by simpa using h3
    refine R0 ?_
    refine xV (e_fld Try.underlying50 rfl Try.sizeOf3 rfl (q0 rfl)) rfl rfl ?_
    refine xV (eL Try.isAgg3 (q0 rfl)) rfl rfl ?_
    refine xV (e_fld Try.underlying42 rfl Try.sizeOf3 rfl (q0 rfl)) rfl rfl ?_
    refine xV (eL Try.isAgg3 (q0 rfl)) rfl rfl ?_
    refine xV (e_sub (q0 rfl) (q0 rfl) (fun _ => ⟨rfl, by omega, by omega⟩)) rfl rfl ?_
    refine xC (en Try.call66 (ha3 (q0 rfl) (q0 rfl) (q0 rfl))) (fun _ w _ => within_w e.rider 0 (f.riders - 1) w) rfl rfl ?_
    refine xV (e_as (v := .bool _) (q0 rfl)) rfl rfl ?_
    refine XN ?_
    refine thenJ_normal ?_
    refine H_seq ?_
    refine H_seq ?_
    refine R0 ?_
    refine xV (e_fld Try.underlying50 rfl Try.sizeOf3 rfl (q0 rfl)) rfl rfl ?_
    refine xV (eL Try.isAgg3 (q0 rfl)) rfl rfl ?_
    refine xV (e_eq (q0 rfl) (q0 rfl)) rfl rfl ?_
    refine xV (e_mv (v := .bool _) (q0 rfl)) rfl rfl ?_
    refine xVF (e_fld Try.underlying50 rfl Try.sizeOf3 rfl (q0 rfl)) rfl rfl rfl rfl ?_
    refine xVF (eL Try.isAgg3 (q1 rfl)) rfl rfl rfl rfl ?_
    refine xVF (e_eq (q1 rfl) (q0 rfl)) rfl rfl rfl rfl ?_
    refine xV (e_or (q0 rfl) rfl (fun h => by first | rfl | (rw [h]; rfl))) rfl rfl ?_
    refine XN ?_
    refine thenJ_normal ?_
    refine H_cond rfl (fun h4 => ?_) (fun h4 => ?_)
    · refine R0 ?_
      refine xV (e_fld Try.underlying50 rfl Try.sizeOf3 rfl (q0 rfl)) rfl rfl ?_
      refine xV (eL Try.isAgg3 (q0 rfl)) rfl rfl ?_
      refine xC (en Try.call66 (ha3 (q0 rfl) (q0 rfl) (q0 rfl))) (fun _ w _ => within_w e.ride 1 1000000 w) rfl rfl ?_
      refine xV (e_as (v := .bool _) (q0 rfl)) rfl rfl ?_
      refine XN ?_
      refine thenJ_normal ?_
      refine H_seq ?_
      refine R0 ?_
      refine xV (e_mv (v := .bool _) (q0 rfl)) rfl rfl ?_
      refine xV (e_mv (v := .bool _) (q0 rfl)) rfl rfl ?_
      refine xVT (e_mv (v := .bool _) (q0 rfl)) rfl rfl rfl rfl ?_
      refine xV (e_and (q0 rfl) rfl (fun h => by first | rfl | (rw [h]; rfl))) rfl rfl ?_
      refine xV (e_as (v := .bool _) (q0 rfl)) rfl rfl ?_
      refine XN ?_
      refine thenJ_normal ?_
      refine H_ret ?_
      exact ret1 (v := .bool _) rfl rfl rfl fun w' hw => ⟨ret_bool (by unfold named; rw [if_pos hk, if_pos (Or.inl hk)]), hw.1⟩
    · simp [hk] at h4
  · have hk : ¬ e.kind = 3 := by simpa using h3
    refine H_skip ?_
    refine thenJ_normal ?_
    refine H_seq ?_
    refine H_seq ?_
    refine R0 ?_
    refine xV (e_fld Try.underlying50 rfl Try.sizeOf3 rfl (q0 rfl)) rfl rfl ?_
    refine xV (eL Try.isAgg3 (q0 rfl)) rfl rfl ?_
    refine xV (e_eq (q0 rfl) (q0 rfl)) rfl rfl ?_
    refine xV (e_mv (v := .bool _) (q0 rfl)) rfl rfl ?_
    refine xVF (e_fld Try.underlying50 rfl Try.sizeOf3 rfl (q0 rfl)) rfl rfl rfl rfl ?_
    refine xVF (eL Try.isAgg3 (q1 rfl)) rfl rfl rfl rfl ?_
    refine xVF (e_eq (q1 rfl) (q0 rfl)) rfl rfl rfl rfl ?_
    refine xV (e_or (q0 rfl) rfl (fun h => by first | rfl | (rw [h]; rfl))) rfl rfl ?_
    refine XN ?_
    refine thenJ_normal ?_
    refine H_cond rfl (fun h4 => ?_) (fun h4 => ?_)
    · refine R0 ?_
      refine xV (e_fld Try.underlying50 rfl Try.sizeOf3 rfl (q0 rfl)) rfl rfl ?_
      refine xV (eL Try.isAgg3 (q0 rfl)) rfl rfl ?_
      refine xC (en Try.call66 (ha3 (q0 rfl) (q0 rfl) (q0 rfl))) (fun _ w _ => within_w e.ride 1 1000000 w) rfl rfl ?_
      refine xV (e_as (v := .bool _) (q0 rfl)) rfl rfl ?_
      refine XN ?_
      refine thenJ_normal ?_
      refine H_seq ?_
      refine R0 ?_
      refine xV (e_mv (v := .bool _) (q0 rfl)) rfl rfl ?_
      refine xV (e_mv (v := .bool _) (q0 rfl)) rfl rfl ?_
      refine xVT (e_mv (v := .bool _) (q0 rfl)) rfl rfl rfl rfl ?_
      refine xV (e_and (q0 rfl) rfl (fun h => by first | rfl | (rw [h]; rfl))) rfl rfl ?_
      refine xV (e_as (v := .bool _) (q0 rfl)) rfl rfl ?_
      refine XN ?_
      refine thenJ_normal ?_
      refine H_ret ?_
      exact ret1 (v := .bool _) rfl rfl rfl fun w' hw => ⟨ret_bool (by unfold named; rw [if_neg hk, if_pos (by simpa using h4)]), hw.1⟩
    · refine H_skip ?_
      refine thenJ_normal ?_
      refine H_seq ?_
      refine R0 ?_
      refine xV (e_mv (v := .bool _) (q0 rfl)) rfl rfl ?_
      refine xV (e_mv (v := .bool _) (q0 rfl)) rfl rfl ?_
      refine xVT (e_mv (v := .bool _) (q0 rfl)) rfl rfl rfl rfl ?_
      refine xV (e_and (q0 rfl) rfl (fun h => by first | rfl | (rw [h]; rfl))) rfl rfl ?_
      refine xV (e_as (v := .bool _) (q0 rfl)) rfl rfl ?_
      refine XN ?_
      refine thenJ_normal ?_
      refine H_ret ?_
      exact ret1 (v := .bool _) rfl rfl rfl fun w' hw => ⟨ret_bool (by unfold named; rw [if_neg hk, if_neg (by simpa using h4)]), hw.1⟩
theorem within_one (n m : Int) : within n m m = decide (n = m) := by unfold within; rw [Bool.eq_iff_iff]; simp; omega
attribute [local irreducible] named
theorem check_w (f : Fl) (a : FA) (e : Ev) (w : World) (hx : FlAt w f a) (hp : -9223372036854775808 ≤ e.place ∧ e.place ≤ 9223372036854775807) : Calls Try.prog 63 #[.agg (f.cells a).toArray, .agg e.cells.toArray] w fun r w' => r = .returned (.int .i64 (evErr f e)) ∧ Bel w w' := by
  refine H_enter Try.func63 rfl Try.ntmps63 rfl ?_
  refine H_seq ?_
  refine R0 ?_
  refine X_box (v := .agg _) rfl rfl fun b2 => ?_
  refine X_box (v := .agg _) rfl rfl fun b3 => ?_
  refine xV (e_as (v := .int _ _) (q0 rfl)) rfl rfl ?_
  refine XN ?_
  refine thenJ_normal ?_
  refine H_seq ?_
  refine H_seq ?_
  refine R0 ?_
  refine xV (eS Try.isAgg42 Try.sizeOf42 (q0 rfl)) rfl rfl ?_
  refine xC (en Try.call47 (ha1 (q0 rfl))) (fun _ w hm => fleet_w f a w (hx.mem hm)) rfl rfl ?_
  refine xV (e_as (v := .int _ _) (q0 rfl)) rfl rfl ?_
  refine XN ?_
  refine thenJ_normal ?_
  refine H_seq ?_
  refine R0 ?_
  refine xV (e_mv (v := .int _ _) (q0 rfl)) rfl rfl ?_
  refine xV (e_ne (q0 rfl) (q0 rfl)) rfl rfl ?_
  refine XN ?_
  refine thenJ_normal ?_
  refine H_cond rfl (fun h0 => ?_) (fun h0 => ?_)
  · refine H_seq ?_
    refine R0 ?_
    refine xV (e_mv (v := .int _ _) (q0 rfl)) rfl rfl ?_
    refine xV (e_as (v := .int _ _) (q0 rfl)) rfl rfl ?_
    refine XN ?_
    refine thenJ_normal ?_
    refine H_ret ?_
    refine thenJ_ret ?_
    exact ret1 (v := .int _ _) rfl rfl rfl fun w' hw => ⟨ret_int (by unfold evErr; rw [if_pos (by simpa using h0)]), hw.1⟩
  · have hf : flErr f = 0 := by simpa using h0
    have hf' : ¬ flErr f ≠ 0 := by simpa using hf
    have hb := flErr_ok hf
    refine H_skip ?_
    refine thenJ_normal ?_
    refine H_seq ?_
    refine H_seq ?_
    refine R0 ?_
    refine xV (e_fld Try.underlying50 rfl Try.sizeOf3 rfl (q0 rfl)) rfl rfl ?_
    refine xV (eL Try.isAgg3 (q0 rfl)) rfl rfl ?_
    refine xV (e_fld Try.underlying42 rfl Try.sizeOf3 rfl (q0 rfl)) rfl rfl ?_
    refine xV (eL Try.isAgg3 (q0 rfl)) rfl rfl ?_
    refine xV (e_sub (q0 rfl) (q0 rfl) (fun _ => ⟨rfl, by omega, by omega⟩)) rfl rfl ?_
    refine xC (en Try.call66 (ha3 (q0 rfl) (q0 rfl) (q0 rfl))) (fun _ w _ => within_w e.device 0 (f.devices - 1) w) rfl rfl ?_
    refine xV (e_not (q0 rfl)) rfl rfl ?_
    refine xV (e_mv (v := .bool _) (q0 rfl)) rfl rfl ?_
    refine xVF (e_fld Try.underlying50 rfl Try.sizeOf3 rfl (q0 rfl)) rfl rfl rfl rfl ?_
    refine xVF (eL Try.isAgg3 (q1 rfl)) rfl rfl rfl rfl ?_
    refine xCF (en Try.call66 (ha3 (q1 (v := .int _ _) rfl) (q0 rfl) (q0 rfl))) (fun _ w _ => within_w e.seq 1 1048576 w) rfl rfl rfl rfl ?_
    refine xVF (e_not (q1 rfl)) rfl rfl rfl rfl ?_
    refine xV (e_or (q0 rfl) rfl (fun h => by first | rfl | (rw [h]; rfl))) rfl rfl ?_
    refine xV (e_mv (v := .bool _) (q0 rfl)) rfl rfl ?_
    refine xVF (e_fld Try.underlying50 rfl Try.sizeOf3 rfl (q0 rfl)) rfl rfl rfl rfl ?_
    refine xVF (eL Try.isAgg3 (q1 rfl)) rfl rfl rfl rfl ?_
    refine xVF (e_lt (q1 rfl) (q0 rfl)) rfl rfl rfl rfl ?_
    refine xV (e_or (q0 rfl) rfl (fun h => by first | rfl | (rw [h]; rfl))) rfl rfl ?_
    refine xV (e_mv (v := .bool _) (q0 rfl)) rfl rfl ?_
    refine xVF (e_fld Try.underlying50 rfl Try.sizeOf3 rfl (q0 rfl)) rfl rfl rfl rfl ?_
    refine xVF (eL Try.isAgg3 (q1 rfl)) rfl rfl rfl rfl ?_
    refine xVF (e_fld Try.underlying50 rfl Try.sizeOf3 rfl (q0 rfl)) rfl rfl rfl rfl ?_
    refine xVF (eL Try.isAgg3 (q1 rfl)) rfl rfl rfl rfl ?_
    refine xVF (e_lt (q1 rfl) (q1 rfl)) rfl rfl rfl rfl ?_
    refine xV (e_or (q0 rfl) rfl (fun h => by first | rfl | (rw [h]; rfl))) rfl rfl ?_
    refine xV (e_mv (v := .bool _) (q0 rfl)) rfl rfl ?_
    refine xVF (e_fld Try.underlying50 rfl Try.sizeOf3 rfl (q0 rfl)) rfl rfl rfl rfl ?_
    refine xVF (eL Try.isAgg3 (q1 rfl)) rfl rfl rfl rfl ?_
    refine xVF (e_gt (q1 rfl) (q0 rfl)) rfl rfl rfl rfl ?_
    refine xV (e_or (q0 rfl) rfl (fun h => by first | rfl | (rw [h]; rfl))) rfl rfl ?_
    refine XN ?_
    refine thenJ_normal ?_
    refine H_cond rfl (fun h1 => ?_) (fun h1 => ?_)
    · refine H_seq ?_
      refine R0 ?_
      refine xV (e_as (v := .int _ _) (q0 rfl)) rfl rfl ?_
      refine XN ?_
      refine thenJ_normal ?_
      refine H_ret ?_
      refine thenJ_ret ?_
      exact ret1 (v := .int _ _) rfl rfl rfl fun w' hw => ⟨ret_int (by unfold evErr; rw [if_neg hf', if_pos h1]), hw.1⟩
    · have h1' : ¬ ((((!within e.device 0 (f.devices - 1) || !within e.seq 1 1048576) || decide (e.at_ < 0)) || decide (e.late < e.at_)) || decide (4294943999 < e.late)) = true := by rw [show _ = false from h1]; decide
      refine H_skip ?_
      refine thenJ_normal ?_
      refine H_seq ?_
      refine H_seq ?_
      refine R0 ?_
      refine xV (e_fld Try.underlying50 rfl Try.sizeOf3 rfl (q0 rfl)) rfl rfl ?_
      refine xV (eL Try.isAgg3 (q0 rfl)) rfl rfl ?_
      refine xC (en Try.call66 (ha3 (q0 rfl) (q0 rfl) (q0 rfl))) (fun _ w _ => within_w e.kind 1 10 w) rfl rfl ?_
      refine xV (e_not (q0 rfl)) rfl rfl ?_
      refine XN ?_
      refine thenJ_normal ?_
      refine H_cond rfl (fun h2 => ?_) (fun h2 => ?_)
      · refine H_seq ?_
        refine R0 ?_
        refine xV (e_as (v := .int _ _) (q0 rfl)) rfl rfl ?_
        refine XN ?_
        refine thenJ_normal ?_
        refine H_ret ?_
        refine thenJ_ret ?_
        exact ret1 (v := .int _ _) rfl rfl rfl fun w' hw => ⟨ret_int (by unfold evErr; rw [if_neg hf', if_neg h1', if_pos (by simpa using h2)]), hw.1⟩
      · have h2' : ¬ within e.kind 1 10 = false := by simpa using h2
        refine H_skip ?_
        refine thenJ_normal ?_
        refine H_seq ?_
        refine H_seq ?_
        refine R0 ?_
        refine xV (e_fld Try.underlying50 rfl Try.sizeOf3 rfl (q0 rfl)) rfl rfl ?_
        refine xV (eL Try.isAgg3 (q0 rfl)) rfl rfl ?_
        refine xV (e_fld Try.underlying42 rfl Try.sizeOf3 rfl (q0 rfl)) rfl rfl ?_
        refine xV (eL Try.isAgg3 (q0 rfl)) rfl rfl ?_
        refine xV (e_sub (q0 rfl) (q0 rfl) (fun _ => ⟨rfl, by omega, by omega⟩)) rfl rfl ?_
        refine xC (en Try.call66 (ha3 (q0 rfl) (q0 rfl) (q0 rfl))) (fun _ w _ => within_w e.bike 0 (f.bikes - 1) w) rfl rfl ?_
        refine xV (e_not (q0 rfl)) rfl rfl ?_
        refine xV (e_mv (v := .bool _) (q0 rfl)) rfl rfl ?_
        refine xVF (e_fld Try.underlying50 rfl Try.sizeOf3 rfl (q0 rfl)) rfl rfl rfl rfl ?_
        refine xVF (eL Try.isAgg3 (q1 rfl)) rfl rfl rfl rfl ?_
        refine xVF (e_eq (q1 rfl) (q0 rfl)) rfl rfl rfl rfl ?_
        refine xVF (e_mv (v := .bool _) (q1 rfl)) rfl rfl rfl rfl ?_
        refine xVT2 (e_fld Try.underlying50 rfl Try.sizeOf3 rfl (q0 rfl)) rfl rfl rfl rfl ?_
        refine xVT2 (eL Try.isAgg3 (q1 rfl)) rfl rfl rfl rfl ?_
        refine xVT2 (e_ne (q1 rfl) (q0 rfl)) rfl rfl rfl rfl ?_
        refine xVF (e_and (q1 rfl) rfl (fun h => by first | rfl | (rw [h]; rfl))) rfl rfl rfl rfl ?_
        refine xV (e_or (q0 rfl) rfl (fun h => by first | rfl | (rw [h]; rfl))) rfl rfl ?_
        refine XN ?_
        refine thenJ_normal ?_
        refine H_cond rfl (fun h3 => ?_) (fun h3 => ?_)
        · refine H_seq ?_
          refine R0 ?_
          refine xV (e_as (v := .int _ _) (q0 rfl)) rfl rfl ?_
          refine XN ?_
          refine thenJ_normal ?_
          refine H_ret ?_
          refine thenJ_ret ?_
          exact ret1 (v := .int _ _) rfl rfl rfl fun w' hw => ⟨ret_int (by unfold evErr; rw [if_neg hf', if_neg h1', if_neg h2', if_pos h3]), hw.1⟩
        · have h3' : ¬ (!within e.bike 0 (f.bikes - 1) || (decide (e.kind = 10) && !decide (e.bike = 0))) = true := by rw [show _ = false from h3]; decide
          refine H_skip ?_
          refine thenJ_normal ?_
          refine H_seq ?_
          refine H_seq ?_
          refine R0 ?_
          refine xV (eS Try.isAgg42 Try.sizeOf42 (q0 rfl)) rfl rfl ?_
          refine xV (eS Try.isAgg50 Try.sizeOf50 (q0 rfl)) rfl rfl ?_
          refine xC (en Try.call79 (ha2 (q0 rfl) (q0 rfl))) (fun _ w hm => placed_w f a e w (hx.mem hm) hp) rfl rfl ?_
          refine xV (e_not (q0 rfl)) rfl rfl ?_
          refine XN ?_
          refine thenJ_normal ?_
          refine H_cond rfl (fun h4 => ?_) (fun h4 => ?_)
          · refine H_seq ?_
            refine R0 ?_
            refine xV (e_as (v := .int _ _) (q0 rfl)) rfl rfl ?_
            refine XN ?_
            refine thenJ_normal ?_
            refine H_ret ?_
            refine thenJ_ret ?_
            exact ret1 (v := .int _ _) rfl rfl rfl fun w' hw => ⟨ret_int (by unfold evErr; rw [if_neg hf', if_neg h1', if_neg h2', if_neg h3', if_pos (by simpa using h4)]), hw.1⟩
          · have h4' : ¬ placed f e = false := by simpa using h4
            refine H_skip ?_
            refine thenJ_normal ?_
            refine H_seq ?_
            refine H_seq ?_
            refine R0 ?_
            refine xV (eS Try.isAgg42 Try.sizeOf42 (q0 rfl)) rfl rfl ?_
            refine xV (eS Try.isAgg50 Try.sizeOf50 (q0 rfl)) rfl rfl ?_
            refine xC (en Try.call80 (ha2 (q0 rfl) (q0 rfl))) (fun _ w hm => named_w f a e w hb.2.1) rfl rfl ?_
            refine xV (e_not (q0 rfl)) rfl rfl ?_
            refine XN ?_
            refine thenJ_normal ?_
            refine H_cond rfl (fun h5 => ?_) (fun h5 => ?_)
            · refine H_seq ?_
              refine R0 ?_
              refine xV (e_as (v := .int _ _) (q0 rfl)) rfl rfl ?_
              refine XN ?_
              refine thenJ_normal ?_
              refine H_ret ?_
              refine thenJ_ret ?_
              exact ret1 (v := .int _ _) rfl rfl rfl fun w' hw => ⟨ret_int (by unfold evErr; rw [if_neg hf', if_neg h1', if_neg h2', if_neg h3', if_neg h4', if_pos (by simpa using h5)]), hw.1⟩
            · refine H_skip ?_
              refine thenJ_normal ?_
              refine H_seq ?_
              refine R0 ?_
              refine xV (e_as (v := .int _ _) (q0 rfl)) rfl rfl ?_
              refine XN ?_
              refine thenJ_normal ?_
              refine H_ret ?_
              exact ret1 (v := .int _ _) rfl rfl rfl fun w' hw => ⟨ret_int (by unfold evErr; rw [if_neg hf', if_neg h1', if_neg h2', if_neg h3', if_neg h4', if_neg (by simpa using h5)]), hw.1⟩

end Go.Proofs.Cus

/-
  The walks: the order of events.
-/
namespace Go.Proofs.Cus
open Go Go.RowKit Go.Proofs.E

theorem lexCmp_drop {l r : List Int} {k : Nat} {x y : Int} (hx : l[k]? = some x) (hy : r[k]? = some y) : lexCmp (l.drop k) (r.drop k) = if cmpI x y ≠ 0 then cmpI x y else lexCmp (l.drop (k + 1)) (r.drop (k + 1)) := by
  obtain ⟨h1, h2⟩ := List.getElem?_eq_some_iff.1 hx
  obtain ⟨h3, h4⟩ := List.getElem?_eq_some_iff.1 hy
  rw [List.drop_eq_getElem_cons h1, List.drop_eq_getElem_cons h3, h2, h4]
  rfl

theorem isNaN_w (n : Int) (w : World) : Calls Try.prog 61 #[.int .i64 n] w fun e w' => e = .returned (.bool false) ∧ Bel w w' := by
  refine H_enter Try.func61 rfl Try.ntmps61 rfl ?_
  refine H_seq ?_
  refine R0 ?_
  refine xV (e_as (v := .bool _) (q0 rfl)) rfl rfl ?_
  refine XN ?_
  refine thenJ_normal ?_
  refine H_seq ?_
  refine R0 ?_
  refine xV (e_mv (v := .int _ _) (q0 rfl)) rfl rfl ?_
  refine xV (e_mv (v := .int _ _) (q0 rfl)) rfl rfl ?_
  refine xV (e_ne (q0 rfl) (q0 rfl)) rfl rfl ?_
  refine xV (e_as (v := .bool _) (q0 rfl)) rfl rfl ?_
  refine XN ?_
  refine thenJ_normal ?_
  refine H_ret ?_
  exact ret1 (v := .bool _) rfl rfl rfl fun w' hw => ⟨ret_bool (by simp), hw.1⟩
theorem compare_w (a b : Int) (w : World) : Calls Try.prog 44 #[.int .i64 a, .int .i64 b] w fun e w' => e = .returned (.int .i64 (cmpI a b)) ∧ Bel w w' := by
  refine H_enter Try.func44 rfl Try.ntmps44 rfl ?_
  refine H_seq ?_
  refine R0 ?_
  refine xV (e_as (v := .int _ _) (q0 rfl)) rfl rfl ?_
  refine XN ?_
  refine thenJ_normal ?_
  refine H_seq ?_
  refine R0 ?_
  refine xV (e_mv (v := .int _ _) (q0 rfl)) rfl rfl ?_
  refine xC (en Try.call61 (ha1 (q0 rfl))) (fun _ w _ => isNaN_w a w) rfl rfl ?_
  refine xV (e_as (v := .bool _) (q0 rfl)) rfl rfl ?_
  refine XN ?_
  refine thenJ_normal ?_
  refine H_seq ?_
  refine R0 ?_
  refine xV (e_mv (v := .int _ _) (q0 rfl)) rfl rfl ?_
  refine xC (en Try.call61 (ha1 (q0 rfl))) (fun _ w _ => isNaN_w b w) rfl rfl ?_
  refine xV (e_as (v := .bool _) (q0 rfl)) rfl rfl ?_
  refine XN ?_
  refine thenJ_normal ?_
  refine H_seq ?_
  refine H_seq ?_
  refine R0 ?_
  refine xV (e_mv (v := .bool _) (q0 rfl)) rfl rfl ?_
  refine XN ?_
  refine thenJ_normal ?_
  refine H_cond rfl (fun h1 => ?_) (fun h1 => ?_)
  · cases h1
  · refine H_skip ?_
    refine thenJ_normal ?_
    refine H_seq ?_
    refine H_seq ?_
    refine R0 ?_
    refine xV (e_mv (v := .bool _) (q0 rfl)) rfl rfl ?_
    refine XN ?_
    refine thenJ_normal ?_
    refine H_cond rfl (fun h2 => ?_) (fun h2 => ?_)
    · cases h2
    · refine H_skip ?_
      refine thenJ_normal ?_
      refine H_seq ?_
      refine H_seq ?_
      refine R0 ?_
      refine xV (e_mv (v := .int _ _) (q0 rfl)) rfl rfl ?_
      refine xV (e_mv (v := .int _ _) (q0 rfl)) rfl rfl ?_
      refine xV (e_lt (q0 rfl) (q0 rfl)) rfl rfl ?_
      refine XN ?_
      refine thenJ_normal ?_
      refine H_cond rfl (fun h3 => ?_) (fun h3 => ?_)
      · refine H_seq ?_
        refine R0 ?_
        refine xV (e_as (v := .int _ _) (q0 rfl)) rfl rfl ?_
        refine XN ?_
        refine thenJ_normal ?_
        refine H_ret ?_
        refine thenJ_ret ?_
        exact ret1 (v := .int _ _) rfl rfl rfl fun w' hw => ⟨ret_int (by unfold cmpI; rw [if_pos (by simpa using h3)]), hw.1⟩
      · refine H_skip ?_
        refine thenJ_normal ?_
        refine H_seq ?_
        refine H_seq ?_
        refine R0 ?_
        refine xV (e_mv (v := .int _ _) (q0 rfl)) rfl rfl ?_
        refine xV (e_mv (v := .int _ _) (q0 rfl)) rfl rfl ?_
        refine xV (e_gt (q0 rfl) (q0 rfl)) rfl rfl ?_
        refine XN ?_
        refine thenJ_normal ?_
        refine H_cond rfl (fun h4 => ?_) (fun h4 => ?_)
        · refine H_seq ?_
          refine R0 ?_
          refine xV (e_as (v := .int _ _) (q0 rfl)) rfl rfl ?_
          refine XN ?_
          refine thenJ_normal ?_
          refine H_ret ?_
          refine thenJ_ret ?_
          exact ret1 (v := .int _ _) rfl rfl rfl fun w' hw => ⟨ret_int (by unfold cmpI; rw [if_neg (by simpa using h3), if_pos (by simpa using h4)]), hw.1⟩
        · refine H_skip ?_
          refine thenJ_normal ?_
          refine H_seq ?_
          refine R0 ?_
          refine xV (e_as (v := .int _ _) (q0 rfl)) rfl rfl ?_
          refine XN ?_
          refine thenJ_normal ?_
          refine H_ret ?_
          exact ret1 (v := .int _ _) rfl rfl rfl fun w' hw => ⟨ret_int (by unfold cmpI; rw [if_neg (by simpa using h3), if_neg (by simpa using h4)]), hw.1⟩
theorem or_w (A : Option Addr) (n c : Nat) (xs : List Int) (w : World) (hx : IntsAt w A n xs) : Calls Try.prog 72 #[.slice A n c] w fun e w' => e = .returned (.int .i64 (orI xs)) ∧ Bel w w' := by
  have hl := hx.1
  have hn := hx.2.1
  refine H_enter Try.func72 rfl Try.ntmps72 rfl ?_
  refine H_seq ?_
  refine R0 ?_
  refine xV (e_as (v := .int _ _) (q0 rfl)) rfl rfl ?_
  refine XN ?_
  refine thenJ_normal ?_
  refine H_seq ?_
  refine R0 ?_
  refine xV (e_as (v := .int _ _) (q0 rfl)) rfl rfl ?_
  refine XN ?_
  refine thenJ_normal ?_
  refine H_seq ?_
  refine H_seq ?_
  refine R0 ?_
  refine xV (e_mv (v := .slice _ _ _) (q0 rfl)) rfl rfl ?_
  refine xV (e_len Try.underlying40 (q0 rfl)) rfl rfl ?_
  refine xV (e_mv (v := .int _ _) (q0 rfl)) rfl rfl ?_
  refine XN ?_
  refine thenJ_normal ?_
  refine H_block ?_
  refine H_loop [2, 5, 8, 9, 10, 11, 12, 13, 14, 15, 16] (fun k : Nat => [(8, .int .i64 k)]) (fun _ => _) (fun k => k ≤ n ∧ (xs.take k).find? (fun x => decide (x ≠ 0)) = none) (fun k => n - k) 0 ⟨rfl, trivial⟩ (fun _ h => h) rfl ⟨Nat.zero_le _, rfl⟩ ?_
  rintro k g ⟨hk, hno⟩
  refine H_seq ?_
  refine R0 ?_
  refine xV (e_lt (q0 rfl) (q0 rfl)) rfl rfl ?_
  refine XN ?_
  refine thenJ_normal ?_
  refine H_seq ?_
  refine H_cond rfl (fun hlt => ?_) (fun hlt => ?_)
  · simp at hlt
    obtain ⟨b, off, x, rfl, hbl, hxk, hrx⟩ := hx.at_ hlt
    refine H_skip ?_
    refine thenJ_normal ?_
    refine H_seq ?_
    refine H_block ?_
    refine H_seq ?_
    refine R0 ?_
    refine xV (e_idx _ Try.underlying40 Try.sizeOf3 (q0 rfl) (q0 rfl) (fun _ => ⟨rfl, by omega⟩)) rfl rfl ?_
    refine xV (eL Try.isAgg3 (q0 rfl)) rfl rfl ?_
    refine xV (e_as (v := .int _ _) (q0 rfl)) rfl rfl ?_
    refine XN ?_
    refine thenJ_normal ?_
    refine H_seq ?_
    refine R0 ?_
    refine xV (e_mv (v := .int _ _) (q0 rfl)) rfl rfl ?_
    refine xV (e_mv (v := .int _ _) (q0 rfl)) rfl rfl ?_
    refine xV (e_ne (q0 rfl) (q0 rfl)) rfl rfl ?_
    refine XN ?_
    refine thenJ_normal ?_
    refine H_cond rfl (fun h0 => ?_) (fun h0 => ?_)
    · refine H_seq ?_
      refine R0 ?_
      refine xV (e_mv (v := .int _ _) (q0 rfl)) rfl rfl ?_
      refine xV (e_as (v := .int _ _) (q0 rfl)) rfl rfl ?_
      refine XN ?_
      refine thenJ_normal ?_
      refine H_ret ?_
      refine blockJ_ret ?_
      refine thenJ_ret ?_
      refine loopJ_ret ?_
      refine blockJ_ret ?_
      refine thenJ_ret ?_
      exact ret1 (v := .int _ _) rfl rfl rfl fun w' hw => ⟨ret_int (by
        unfold orI
        have h0' : x ≠ 0 := by simpa using h0
        rw [← List.take_append_drop k xs, List.find?_append, hno]
        obtain ⟨q1, q2⟩ := List.getElem?_eq_some_iff.1 hxk
        rw [List.drop_eq_getElem_cons q1, q2]
        simp [h0']), hw.1⟩
    · refine H_skip ?_
      refine blockJ_normal ?_
      refine thenJ_normal ?_
      refine R0 ?_
      refine xV (e_add (q0 rfl) (q0 rfl) (fun _ => ⟨rfl, by omega, by omega⟩)) rfl rfl ?_
      refine xV (e_mv (v := .int _ _) (q0 rfl)) rfl rfl ?_
      refine XN ?_
      exact loopJ_normal (k + 1) (by repeat (first | exact agree_self | exact agree_over | refine agree_upd rfl ?_ | refine agree_updL rfl ?_ | refine agree_over2 rfl ?_)) ⟨rfl, trivial⟩ (fun _ h => h) rfl ⟨by omega, by rw [take_snoc _ _ _ hxk, List.find?_append, hno]; simp at h0; simp [h0]⟩ (by show n - (k + 1) < n - k; omega)
  · obtain rfl : k = n := by simp at hlt; omega
    refine H_exit ?_
    refine thenJ_exit ?_
    refine loopJ_exit ?_
    refine blockJ_hit ?_
    refine thenJ_normal ?_
    refine H_seq ?_
    refine R0 ?_
    refine xV (e_mv (v := .int _ _) (q0 rfl)) rfl rfl ?_
    refine xV (e_as (v := .int _ _) (q0 rfl)) rfl rfl ?_
    refine XN ?_
    refine thenJ_normal ?_
    refine H_ret ?_
    exact ret1 (v := .int _ _) rfl rfl rfl fun w' hw => ⟨ret_int (by unfold orI; rw [List.take_of_length_le (by omega)] at hno; rw [hno]; rfl), hw.1⟩

def keyCells (e : Ev) : List Value := e.keys.map (.int .i64)
theorem keyCells_at {e : Ev} {k : Nat} {x : Int} (h : e.keys[k]? = some x) : (keyCells e)[0 + k * 1]? = some (.int .i64 x) := by
  unfold keyCells; simp [h]
attribute [local irreducible] cmpI lexCmp

theorem evCmp_w (a b : Ev) (w : World) : Calls Try.prog 73 #[.agg a.cells.toArray, .agg b.cells.toArray] w fun e w' => e = .returned (.int .i64 (evCmp a b)) ∧ Bel w w' := by
  refine H_enter Try.func73 rfl Try.ntmps73 rfl ?_
  refine H_seq ?_
  refine R0 ?_
  refine X_box (v := .agg _) rfl rfl fun b2 => ?_
  refine X_box (v := .agg _) rfl rfl fun b3 => ?_
  refine xV (e_as (v := .int _ _) (q0 rfl)) rfl rfl ?_
  refine XN ?_
  refine thenJ_normal ?_
  refine H_seq ?_
  refine R0 ?_
  refine xV (e_fld Try.underlying50 rfl Try.sizeOf3 rfl (q0 rfl)) rfl rfl ?_
  refine xV (eL Try.isAgg3 (q0 rfl)) rfl rfl ?_
  refine xV (e_fld Try.underlying50 rfl Try.sizeOf3 rfl (q0 rfl)) rfl rfl ?_
  refine xV (eL Try.isAgg3 (q0 rfl)) rfl rfl ?_
  refine xV (e_fld Try.underlying50 rfl Try.sizeOf3 rfl (q0 rfl)) rfl rfl ?_
  refine xV (eL Try.isAgg3 (q0 rfl)) rfl rfl ?_
  refine xV (e_fld Try.underlying50 rfl Try.sizeOf3 rfl (q0 rfl)) rfl rfl ?_
  refine xV (eL Try.isAgg3 (q0 rfl)) rfl rfl ?_
  refine xV (e_fld Try.underlying50 rfl Try.sizeOf3 rfl (q0 rfl)) rfl rfl ?_
  refine xV (eL Try.isAgg3 (q0 rfl)) rfl rfl ?_
  refine xV (e_fld Try.underlying50 rfl Try.sizeOf3 rfl (q0 rfl)) rfl rfl ?_
  refine xV (eL Try.isAgg3 (q0 rfl)) rfl rfl ?_
  refine xV (e_fld Try.underlying50 rfl Try.sizeOf3 rfl (q0 rfl)) rfl rfl ?_
  refine xV (eL Try.isAgg3 (q0 rfl)) rfl rfl ?_
  refine xV (e_fld Try.underlying50 rfl Try.sizeOf3 rfl (q0 rfl)) rfl rfl ?_
  refine xV (eL Try.isAgg3 (q0 rfl)) rfl rfl ?_
  refine xV (e_fld Try.underlying50 rfl Try.sizeOf3 rfl (q0 rfl)) rfl rfl ?_
  refine xV (eL Try.isAgg3 (q0 rfl)) rfl rfl ?_
  refine xV (e_buildA Try.underlying132 Try.sizeOf3 Try.zeroValue132 (pt (v := .int _ _) rfl (pt (v := .int _ _) rfl (pt (v := .int _ _) rfl (pt (v := .int _ _) rfl (pt (v := .int _ _) rfl (pt (v := .int _ _) rfl (pt (v := .int _ _) rfl (pt (v := .int _ _) rfl (pt (v := .int _ _) rfl E.p0))))))))) rfl) rfl rfl ?_
  refine X_alloc Try.zeroValue132 rfl fun b5 => ?_
  refine X_st (v := .agg _) rfl rfl Try.sizeOf132 ?_
  refine XN ?_
  refine thenJ_normal ?_
  refine H_seq ?_
  refine R0 ?_
  refine xV (e_fld Try.underlying50 rfl Try.sizeOf3 rfl (q0 rfl)) rfl rfl ?_
  refine xV (eL Try.isAgg3 (q0 rfl)) rfl rfl ?_
  refine xV (e_fld Try.underlying50 rfl Try.sizeOf3 rfl (q0 rfl)) rfl rfl ?_
  refine xV (eL Try.isAgg3 (q0 rfl)) rfl rfl ?_
  refine xV (e_fld Try.underlying50 rfl Try.sizeOf3 rfl (q0 rfl)) rfl rfl ?_
  refine xV (eL Try.isAgg3 (q0 rfl)) rfl rfl ?_
  refine xV (e_fld Try.underlying50 rfl Try.sizeOf3 rfl (q0 rfl)) rfl rfl ?_
  refine xV (eL Try.isAgg3 (q0 rfl)) rfl rfl ?_
  refine xV (e_fld Try.underlying50 rfl Try.sizeOf3 rfl (q0 rfl)) rfl rfl ?_
  refine xV (eL Try.isAgg3 (q0 rfl)) rfl rfl ?_
  refine xV (e_fld Try.underlying50 rfl Try.sizeOf3 rfl (q0 rfl)) rfl rfl ?_
  refine xV (eL Try.isAgg3 (q0 rfl)) rfl rfl ?_
  refine xV (e_fld Try.underlying50 rfl Try.sizeOf3 rfl (q0 rfl)) rfl rfl ?_
  refine xV (eL Try.isAgg3 (q0 rfl)) rfl rfl ?_
  refine xV (e_fld Try.underlying50 rfl Try.sizeOf3 rfl (q0 rfl)) rfl rfl ?_
  refine xV (eL Try.isAgg3 (q0 rfl)) rfl rfl ?_
  refine xV (e_fld Try.underlying50 rfl Try.sizeOf3 rfl (q0 rfl)) rfl rfl ?_
  refine xV (eL Try.isAgg3 (q0 rfl)) rfl rfl ?_
  refine xV (e_buildA Try.underlying132 Try.sizeOf3 Try.zeroValue132 (pt (v := .int _ _) rfl (pt (v := .int _ _) rfl (pt (v := .int _ _) rfl (pt (v := .int _ _) rfl (pt (v := .int _ _) rfl (pt (v := .int _ _) rfl (pt (v := .int _ _) rfl (pt (v := .int _ _) rfl (pt (v := .int _ _) rfl E.p0))))))))) rfl) rfl rfl ?_
  refine X_alloc Try.zeroValue132 rfl fun b6 => ?_
  refine X_st (v := .agg _) rfl rfl Try.sizeOf132 ?_
  refine XN ?_
  refine thenJ_normal ?_
  refine H_seq ?_
  refine H_seq ?_
  refine R0 ?_
  refine xV (e_mv (v := .int _ _) (q0 rfl)) rfl rfl ?_
  refine XN ?_
  refine thenJ_normal ?_
  refine H_block ?_
  refine H_loop [4, 7, 8, 47, 48, 49, 50, 51, 52, 53, 54, 55, 56, 57, 58, 59, 60] (fun k : Nat => [(47, .int .i64 k)]) (fun _ => [box b6 132 (keyCells b), box b5 132 (keyCells a)]) (fun k => k ≤ 9 ∧ evCmp a b = lexCmp (a.keys.drop k) (b.keys.drop k)) (fun k => 9 - k) 0 ⟨rfl, trivial⟩ (fun w hw => hw.pick [0, 1] (by decide)) rfl ⟨Nat.zero_le _, rfl⟩ ?_
  rintro k g ⟨hk, hev⟩
  refine H_seq ?_
  refine R0 ?_
  refine xV (e_lt (q0 rfl) (q0 rfl)) rfl rfl ?_
  refine XN ?_
  refine thenJ_normal ?_
  refine H_seq ?_
  refine H_cond rfl (fun hlt => ?_) (fun hlt => ?_)
  · simp at hlt
    obtain ⟨x, hx⟩ : ∃ x, a.keys[k]? = some x := ⟨_, List.getElem?_eq_getElem (by show k < 9; omega)⟩
    obtain ⟨y, hy⟩ : ∃ y, b.keys[k]? = some y := ⟨_, List.getElem?_eq_getElem (by show k < 9; omega)⟩
    have hd := lexCmp_drop hx hy
    refine H_skip ?_
    refine thenJ_normal ?_
    refine H_seq ?_
    refine H_block ?_
    refine H_seq ?_
    refine R0 ?_
    refine xV (e_mv (v := .int _ _) (q0 rfl)) rfl rfl ?_
    refine xV (e_as (v := .int _ _) (q0 rfl)) rfl rfl ?_
    refine XN ?_
    refine thenJ_normal ?_
    refine H_seq ?_
    refine R1 rfl (by decide +kernel) ?_
    refine xV (e_mv (v := .int _ _) (q0 rfl)) rfl rfl ?_
    refine xV (e_idxA _ Try.underlying132 Try.sizeOf3 (q0 rfl) (q0 rfl) (fun _ => ⟨rfl, by omega⟩)) rfl rfl ?_
    refine xV (e_ld Try.isAgg3 (q0 rfl) (bx 1 rfl (keyCells_at hx))) rfl rfl ?_
    refine xV (e_mv (v := .int _ _) (q0 rfl)) rfl rfl ?_
    refine xV (e_idxA _ Try.underlying132 Try.sizeOf3 (q0 rfl) (q0 rfl) (fun _ => ⟨rfl, by omega⟩)) rfl rfl ?_
    refine xV (e_ld Try.isAgg3 (q0 rfl) (bx 0 rfl (keyCells_at hy))) rfl rfl ?_
    refine xC (en Try.call44 (ha2 (q0 rfl) (q0 rfl))) (fun _ w _ => compare_w x y w) rfl rfl ?_
    refine xV (e_as (v := .int _ _) (q0 rfl)) rfl rfl ?_
    refine XN ?_
    refine thenJ_normal ?_
    refine H_seq ?_
    refine R0 ?_
    refine xV (e_mv (v := .int _ _) (q0 rfl)) rfl rfl ?_
    refine xV (e_ne (q0 rfl) (q0 rfl)) rfl rfl ?_
    refine XN ?_
    refine thenJ_normal ?_
    refine H_cond rfl (fun hc => ?_) (fun hc => ?_)
    · refine H_seq ?_
      refine R0 ?_
      refine xV (e_mv (v := .int _ _) (q0 rfl)) rfl rfl ?_
      refine xV (e_as (v := .int _ _) (q0 rfl)) rfl rfl ?_
      refine XN ?_
      refine thenJ_normal ?_
      refine H_ret ?_
      refine blockJ_ret ?_
      refine thenJ_ret ?_
      refine loopJ_ret ?_
      refine blockJ_ret ?_
      refine thenJ_ret ?_
      exact ret1 (v := .int _ _) rfl rfl rfl fun w' hw => ⟨ret_int (by rw [hev, hd, if_pos (by simpa using hc)]), hw.1⟩
    · refine H_skip ?_
      refine blockJ_normal ?_
      refine thenJ_normal ?_
      refine R0 ?_
      refine xV (e_add (q0 rfl) (q0 rfl) (fun _ => ⟨rfl, by omega, by omega⟩)) rfl rfl ?_
      refine xV (e_mv (v := .int _ _) (q0 rfl)) rfl rfl ?_
      refine XN ?_
      exact loopJ_normal (k + 1) (by repeat (first | exact agree_self | exact agree_over | refine agree_upd rfl ?_ | refine agree_updL rfl ?_ | refine agree_over2 rfl ?_)) ⟨rfl, trivial⟩ (fun _ h => h) rfl ⟨by omega, by rw [hev, hd, if_neg (by simpa using hc)]⟩ (by show 9 - (k + 1) < 9 - k; omega)
  · obtain rfl : k = 9 := by simp at hlt; omega
    refine H_exit ?_
    refine thenJ_exit ?_
    refine loopJ_exit ?_
    refine blockJ_hit ?_
    refine thenJ_normal ?_
    refine H_seq ?_
    refine R0 ?_
    refine xV (e_as (v := .int _ _) (q0 rfl)) rfl rfl ?_
    refine XN ?_
    refine thenJ_normal ?_
    refine H_ret ?_
    exact ret1 (v := .int _ _) rfl rfl rfl fun w' hw => ⟨ret_int (by rw [hev]; unfold lexCmp; rfl), hw.1⟩

end Go.Proofs.Cus

/-
  The walks: numbers of events; the order in which the set is made; the reference's order.
-/
namespace Go.Proofs.Cus
open Go Go.RowKit Go.Proofs.E

theorem fl114 {fs : Array Field} (h : Try.prog.underlying 114 = some (.struct fs) := by exact Try.underlying114) : FieldsLie Try.prog fs [(0, 1), (1, 1)] := by
  rw [Try.underlying114] at h
  cases h
  intro w
  kernel_rfl
theorem eq114 (xs ys : List Int) (w : World) (hx : xs.length = 2 := by rfl) (hy : ys.length = 2 := by rfl) : (Op.equal 114 (.agg (intCells xs).toArray) (.agg (intCells ys).toArray)).run Try.prog w = .ok (xs == ys) w :=
  run_equal_ints w xs ys (by omega) Try.underlying114 (by kernel_rfl) ⟨by decide, rfl, Try.isAgg3, ⟨_, Try.underlying3⟩, by decide, rfl, Try.isAgg3, ⟨_, Try.underlying3⟩, trivial⟩ (by rw [hx]; rfl)

theorem number_w (e : Ev) (w : World) : Calls Try.prog 76 #[.agg e.cells.toArray] w fun r w' => r = .returned (.agg (intCells [e.device, e.seq]).toArray) ∧ Bel w w' := by
  refine H_enter Try.func76 rfl Try.ntmps76 rfl ?_
  refine H_seq ?_
  refine R0 ?_
  refine X_box (v := .agg _) rfl rfl fun b1 => ?_
  refine X_alloc Try.zeroValue114 rfl fun b2 => ?_
  refine XN ?_
  refine thenJ_normal ?_
  refine H_seq ?_
  refine R0 ?_
  refine xV (e_fld Try.underlying50 rfl Try.sizeOf3 rfl (q0 rfl)) rfl rfl ?_
  refine xV (eL Try.isAgg3 (q0 rfl)) rfl rfl ?_
  refine xV (e_fld Try.underlying50 rfl Try.sizeOf3 rfl (q0 rfl)) rfl rfl ?_
  refine xV (eL Try.isAgg3 (q0 rfl)) rfl rfl ?_
  refine xV (e_build Try.underlying114 fl114 Try.zeroValue114 (pt (v := .int _ _) rfl (pt (v := .int _ _) rfl E.p0)) rfl) rfl rfl ?_
  refine X_st (v := .agg _) rfl rfl Try.sizeOf114 ?_
  refine XN ?_
  refine thenJ_normal ?_
  refine H_ret ?_
  exact ret_of rfl (resc1 0 rfl rfl Try.isAgg114 Try.sizeOf114 rfl rfl) fun w' hw => ⟨rfl, hw.1⟩
theorem set2_w (a b : Ev) (w : World) : Calls Try.prog 75 #[.agg a.cells.toArray, .agg b.cells.toArray] w fun r w' => r = .returned (.bool (sameNum a b)) ∧ Bel w w' := by
  refine H_enter Try.func75 rfl Try.ntmps75 rfl ?_
  refine H_seq ?_
  refine R0 ?_
  refine X_box (v := .agg _) rfl rfl fun b2 => ?_
  refine X_box (v := .agg _) rfl rfl fun b3 => ?_
  refine xV (e_as (v := .bool _) (q0 rfl)) rfl rfl ?_
  refine XN ?_
  refine thenJ_normal ?_
  refine H_seq ?_
  refine R1 rfl (by decide +kernel) ?_
  refine xV (eS Try.isAgg50 Try.sizeOf50 (q0 rfl)) rfl rfl ?_
  refine xC (en Try.call76 (ha1 (q0 rfl))) (fun _ w _ => number_w a w) rfl rfl ?_
  refine xV (eS Try.isAgg50 Try.sizeOf50 (q0 rfl)) rfl rfl ?_
  refine xC (en Try.call76 (ha1 (q0 rfl))) (fun _ w _ => number_w b w) rfl rfl ?_
  refine xV (e_eqS (fun w => eq114 _ _ w) (by kernel_rfl) (q0 rfl) (q0 rfl)) rfl rfl ?_
  refine xV (e_as (v := .bool _) (q0 rfl)) rfl rfl ?_
  refine XN ?_
  refine thenJ_normal ?_
  refine H_ret ?_
  exact ret1 (v := .bool _) rfl rfl rfl fun w' hw => ⟨rfl, hw.1⟩
attribute [local irreducible] cmpI evCmp
set_option maxRecDepth 20000 in
theorem set1_w (a b : Ev) (w : World) : Calls Try.prog 71 #[.agg a.cells.toArray, .agg b.cells.toArray] w fun r w' => r = .returned (.int .i64 (setCmp a b)) ∧ Bel w w' := by
  refine H_enter Try.func71 rfl Try.ntmps71 rfl ?_
  refine H_seq ?_
  refine R0 ?_
  refine X_box (v := .agg _) rfl rfl fun b2 => ?_
  refine X_box (v := .agg _) rfl rfl fun b3 => ?_
  refine xV (e_as (v := .int _ _) (q0 rfl)) rfl rfl ?_
  refine XN ?_
  refine thenJ_normal ?_
  refine H_seq ?_
  refine RA rfl (by decide +kernel) ?_
  refine aV 0 (by decide +kernel) rfl (e_fld Try.underlying50 rfl Try.sizeOf3 rfl (q0 rfl)) rfl ?_
  refine aV 1 (by decide +kernel) rfl (eL Try.isAgg3 (q0 rfl)) rfl ?_
  refine aV 2 (by decide +kernel) rfl (e_fld Try.underlying50 rfl Try.sizeOf3 rfl (q0 rfl)) rfl ?_
  refine aV 3 (by decide +kernel) rfl (eL Try.isAgg3 (q0 rfl)) rfl ?_
  refine aV 5 (by decide +kernel) rfl (e_fld Try.underlying50 rfl Try.sizeOf3 rfl (q0 rfl)) rfl ?_
  refine aV 6 (by decide +kernel) rfl (eL Try.isAgg3 (q0 rfl)) rfl ?_
  refine aV 7 (by decide +kernel) rfl (e_fld Try.underlying50 rfl Try.sizeOf3 rfl (q0 rfl)) rfl ?_
  refine aV 8 (by decide +kernel) rfl (eL Try.isAgg3 (q0 rfl)) rfl ?_
  refine aV 10 (by decide +kernel) rfl (eS Try.isAgg50 Try.sizeOf50 (q0 rfl)) rfl ?_
  refine aV 11 (by decide +kernel) rfl (eS Try.isAgg50 Try.sizeOf50 (q0 rfl)) rfl ?_
  refine aC 4 (by decide +kernel) rfl (en Try.call44 (ha2 (q0 rfl) (q0 rfl))) (fun _ w _ => compare_w a.device b.device w) rfl ?_
  refine aC 9 (by decide +kernel) rfl (en Try.call44 (ha2 (q0 rfl) (q0 rfl))) (fun _ w _ => compare_w a.seq b.seq w) rfl ?_
  refine aC 12 (by decide +kernel) rfl (en Try.call73 (ha2 (q0 rfl) (q0 rfl))) (fun _ w _ => evCmp_w a b w) rfl ?_
  refine rdy1 (i := 13) (by decide +kernel) (sub_drop 0) ?_
  refine aL rfl (f_slit [(.int .i64 0), (.int .i64 0), (.int .i64 0)] Try.underlying40 Try.sizeOf3 Try.zeroValue3 rfl (by kernel_rfl) (pt (v := .int _ _) rfl (pt (v := .int _ _) rfl (pt (v := .int _ _) rfl E.p0))) rfl rfl fun b18 => ?_)
  refine aRL (sub_drop 1) ?_
  refine aC 14 (by decide +kernel) rfl (en Try.call72 (ha1 (q0 rfl))) (fun _ w hm => or_w _ 3 3 [cmpI a.device b.device, cmpI a.seq b.seq, evCmp a b] w (slAt_box (enc := encInt) hm (j := 0) rfl (fun _ => rfl) (by simp))) rfl ?_
  refine aV 15 (by decide +kernel) rfl (e_as (v := .int _ _) (q0 rfl)) rfl ?_
  refine aZ (by decide +kernel) (sub_drop 0) ?_
  refine thenJ_normal ?_
  refine H_ret ?_

  exact ret1 (v := .int _ _) rfl rfl rfl fun w' hw => ⟨rfl, hw.1⟩

theorem lexLt_drop {l r : List Int} {k : Nat} {x y : Int} (hx : l[k]? = some x) (hy : r[k]? = some y) : lexLt (l.drop k) (r.drop k) = if x ≠ y then decide (x < y) else lexLt (l.drop (k + 1)) (r.drop (k + 1)) := by
  obtain ⟨h1, h2⟩ := List.getElem?_eq_some_iff.1 hx
  obtain ⟨h3, h4⟩ := List.getElem?_eq_some_iff.1 hy
  rw [List.drop_eq_getElem_cons h1, List.drop_eq_getElem_cons h3, h2, h4]
  rfl
attribute [local irreducible] lexLt

end Go.Proofs.Cus

/-
  The walks: the set of events (clone, sort, compact, sort), and the reference's.
-/
namespace Go.Proofs.Cus
open Go Go.RowKit Go.Proofs.E

abbrev EvsAt (w : World) (A : Option Addr) (n : Nat) (xs : List Ev) : Prop := SlAt w 9 Ev.cells A n xs
abbrev evRow (A : Option Addr) (c : Nat) (xs : List Ev) : E.Item := rowT 50 9 Ev.cells A c xs

theorem clone_w (A : Option Addr) (n c : Nat) (xs : List Ev) (w : World) (hx : EvsAt w A n xs) (hn : n ≤ 10000) :
    Calls Try.prog 69 #[.slice A n c] w fun e w' => ∃ x : Option Addr × Nat, e = .returned (.slice x.1 n x.2) ∧ Mem w [evRow x.1 x.2 xs] w' := by
  have hl := hx.1
  refine H_enter Try.func69 rfl Try.ntmps69 rfl ?_
  refine H_seq ?_
  refine R0 ?_
  refine xV (e_as (v := .slice _ _ _) (q0 rfl)) rfl rfl ?_
  refine XN ?_
  refine thenJ_normal ?_
  refine H_seq ?_
  refine H_seq ?_
  refine R0 ?_
  refine xV (e_mv (v := .slice _ _ _) (q0 rfl)) rfl rfl ?_
  refine xV (e_eqNilS Try.underlying43 (q0 rfl)) rfl rfl ?_
  refine XN ?_
  refine thenJ_normal ?_
  refine H_cond rfl (fun h1 => ?_) (fun h1 => ?_)
  · have hA0 : A = none := by simpa using h1
    have hn0 : n = 0 := by
      rcases Nat.eq_zero_or_pos n with h | h
      · exact h
      · obtain ⟨b, off, hb, _⟩ := hx.2.2 h; rw [hA0] at hb; cases hb
    subst hn0
    have : xs = [] := List.eq_nil_of_length_eq_zero hl
    subst this
    refine H_seq ?_
    refine R0 ?_
    refine xV (e_as (v := .slice _ _ _) (q0 rfl)) rfl rfl ?_
    refine XN ?_
    refine thenJ_normal ?_
    refine H_ret ?_
    refine thenJ_ret ?_
    exact ret1 (v := .slice _ _ _) rfl rfl rfl fun w' hw => ⟨(none, 0), rfl, hw.nilRow _ _ _ rfl⟩
  · refine H_skip ?_
    refine thenJ_normal ?_
    refine H_seq ?_
    refine R0 ?_
    refine X_eff (f_slit0 Ev.cells Try.underlying43 Try.sizeOf50 rfl fun A1 c1 => ?_)
    refine xV (e_mv (v := .slice _ _ _) (q0 rfl)) rfl rfl ?_
    refine X_append (f_append (k := 9) (i := Try.t50) (enc := Ev.cells) 0 Try.underlying43 (by kernel_rfl) rfl rfl rfl rfl (fun _ => rfl) (fun _ => rfl) rfl rfl rfl (fun w hw => hx.mem hw) ⟨by simp; omega, by decide⟩ rfl fun A2 c2 => ?_)
    refine xV (e_as (v := .slice _ _ _) (q0 rfl)) rfl rfl ?_
    refine XN ?_
    refine thenJ_normal ?_
    refine H_ret ?_
    exact ret1 (v := .slice _ _ _) rfl rfl rfl fun w' hw => ⟨(A2, c2), by rw [← hl]; rfl, hw⟩

/-! the sort -/
def sortEv_ren : Go.Shelf.Ren := ⟨fun | 6 => 70 | 15 => 88 | 14 => 87 | 28 => 98 | 29 => 99 | 20 => 90 | 21 => 91 | 22 => 92 | 23 => 93 | 24 => 94 | 25 => 95 | 26 => 96 | 27 => 97 | 46 => 101 | 47 => 102 | 48 => 103 | 49 => 104 | 50 => 105 | 57 => 106 | n => n, fun | 22 => 43 | 24 => 50 | 25 => 111 | 3 => 3 | 39 => 131 | 0 => 0 | 53 => 141 | 55 => 143 | 4 => 4 | 46 => 135 | 45 => 134 | 50 => 117 | 5 => 5 | 9 => 9 | 66 => 144 | 70 => 148 | 76 => 150 | 77 => 62 | n => n, fun | n => n⟩
theorem sortEv : Go.Proofs.SlLaysF0.n6 Try.prog sortEv_ren := {
  mixed := by kernel_rfl,
  f6 := ⟨Try.f70.name, by decide, Try.func70.trans (congrArg some (by kernel_rfl))⟩,
  f14 := ⟨Try.f87.name, by decide, Try.func87.trans (congrArg some (by kernel_rfl))⟩,
  f15 := Try.func88.trans (congrArg some (by kernel_rfl)),
  f20 := ⟨Try.f90.name, by decide, Try.func90.trans (congrArg some (by kernel_rfl))⟩,
  f21 := ⟨Try.f91.name, by decide, Try.func91.trans (congrArg some (by kernel_rfl))⟩,
  f22 := ⟨Try.f92.name, by decide, Try.func92.trans (congrArg some (by kernel_rfl))⟩,
  f23 := ⟨Try.f93.name, by decide, Try.func93.trans (congrArg some (by kernel_rfl))⟩,
  f24 := ⟨Try.f94.name, by decide, Try.func94.trans (congrArg some (by kernel_rfl))⟩,
  f25 := ⟨Try.f95.name, by decide, Try.func95.trans (congrArg some (by kernel_rfl))⟩,
  f26 := ⟨Try.f96.name, by decide, Try.func96.trans (congrArg some (by kernel_rfl))⟩,
  f27 := ⟨Try.f97.name, by decide, Try.func97.trans (congrArg some (by kernel_rfl))⟩,
  f28 := Try.func98.trans (congrArg some (by kernel_rfl)),
  f29 := Try.func99.trans (congrArg some (by kernel_rfl)),
  f46 := ⟨Try.f101.name, by decide, Try.func101.trans (congrArg some (by kernel_rfl))⟩,
  f47 := Try.func102.trans (congrArg some (by kernel_rfl)),
  f48 := Try.func103.trans (congrArg some (by kernel_rfl)),
  f49 := ⟨Try.f104.name, by decide, Try.func104.trans (congrArg some (by kernel_rfl))⟩,
  f50 := ⟨Try.f105.name, by decide, Try.func105.trans (congrArg some (by kernel_rfl))⟩,
  f57 := ⟨Try.f106.name, by decide, Try.func106.trans (congrArg some (by kernel_rfl))⟩,
  t0 := Try.underlying0,
  a0 := Try.isAgg0,
  z0 := Try.sizeOf0,
  v0 := Try.zeroValue0,
  t3 := Try.underlying3,
  a3 := Try.isAgg3,
  z3 := Try.sizeOf3,
  v3 := Try.zeroValue3,
  t4 := Try.underlying4,
  a4 := Try.isAgg4,
  z4 := Try.sizeOf4,
  v4 := Try.zeroValue4,
  t5 := Try.underlying5,
  a5 := Try.isAgg5,
  z5 := Try.sizeOf5,
  v5 := Try.zeroValue5,
  t9 := Try.underlying9,
  a9 := Try.isAgg9,
  z9 := Try.sizeOf9,
  v9 := Try.zeroValue9,
  t22 := Try.underlying43,
  a22 := Try.isAgg43,
  z22 := Try.sizeOf43,
  v22 := Try.zeroValue43,
  t25 := Try.underlying111,
  a25 := Try.isAgg111,
  z25 := Try.sizeOf111,
  v25 := Try.zeroValue111,
  t39 := Try.underlying131,
  a39 := Try.isAgg131,
  z39 := Try.sizeOf131,
  v39 := Try.zeroValue131,
  t45 := Try.underlying134,
  a45 := Try.isAgg134,
  z45 := Try.sizeOf134,
  v45 := Try.zeroValue134,
  t46 := Try.underlying135,
  a46 := Try.isAgg135,
  z46 := Try.sizeOf135,
  v46 := Try.zeroValue135,
  t50 := Try.underlying117,
  a50 := Try.isAgg117,
  z50 := Try.sizeOf117,
  v50 := Try.zeroValue117,
  t53 := Try.underlying141,
  a53 := Try.isAgg141,
  z53 := Try.sizeOf141,
  v53 := Try.zeroValue141,
  t55 := Try.underlying143,
  a55 := Try.isAgg143,
  z55 := Try.sizeOf143,
  v55 := Try.zeroValue143,
  t66 := Try.underlying144,
  a66 := Try.isAgg144,
  z66 := Try.sizeOf144,
  v66 := Try.zeroValue144,
  t70 := Try.underlying148,
  a70 := Try.isAgg148,
  z70 := Try.sizeOf148,
  v70 := Try.zeroValue148,
  t76 := Try.underlying150,
  a76 := Try.isAgg150,
  z76 := Try.sizeOf150,
  v76 := Try.zeroValue150,
  t77 := Try.underlying62,
  a77 := Try.isAgg62,
  z77 := Try.sizeOf62,
  v77 := Try.zeroValue62 }

open Go.Shelf Go.Lib Go.Sort in
theorem sortBy_w (cf : Ev → Ev → Int) (g : Nat) (hO : SWO (ltOf cf)) (hT : ∀ x y, ltOf cf x y = false → ltOf cf y x = false → x = y) (eg : ∀ args w, (callFunc g args).run Try.prog w = .ok (.enter g args) w)
    (hcl : ∀ (x y : Ev) (w : World), Calls Try.prog g #[.agg x.cells.toArray, .agg y.cells.toArray] w fun e w' => e = .returned (.int .i64 (cf x y)) ∧ Bel w w')
    {w0 w : World} {L : List E.Item} (hw : Mem w0 L w) {j c : Nat} {A : Option Addr} {xs : List Ev} (hk : L[j]? = some (evRow A c xs)) (hn : xs.length ≤ 1000000) :
    Calls Try.prog 70 #[.slice A xs.length c, .func (.func g) #[] #[]] w fun e w' => ∃ _ : Unit, e = .returned (.tuple #[]) ∧ Mem w0 (L.set j (evRow A c (xs.mergeSort fun x y => !ltOf cf y x))) w' := by
  rcases Nat.eq_zero_or_pos xs.length with h0 | h0
  · have : xs = [] := List.eq_nil_of_length_eq_zero h0
    subst this
    refine (AnyF.slices_SortFunc_none sortEv A c (.func (.func g) #[] #[]) w).mono ?_
    rintro e w' ⟨rfl, rfl⟩
    refine ⟨(), rfl, ?_⟩
    have hL : L.set j (evRow A c (([] : List Ev).mergeSort fun x y => !ltOf cf y x)) = L := by
      have : ([] : List Ev).mergeSort (fun x y => !ltOf cf y x) = [] := by simp
      rw [this]
      obtain ⟨h1, h2⟩ := List.getElem?_eq_some_iff.1 hk
      rw [← h2]; exact List.set_getElem_self h1
    rw [hL]; exact hw
  · obtain ⟨b, rfl⟩ := rowT_at hw hk h0
    have hb : b < w.heap.size := (hw.itemLt hk rfl).2
    have hcon := AnyQ.slices_SortFunc_total sortEv 9 Try.isAgg50 Try.sizeOf50 Ev.cells (fun _ => rfl) (fun x v hv => by simp [Ev.cells] at hv; rcases hv with rfl | rfl | rfl | rfl | rfl | rfl | rfl | rfl | rfl <;> rfl) cf hO g #[] b 0 c xs.toArray w eg
      (fun m os dk _ x y => by rw [Array.append_empty]; exact (hcl x y _).mono fun e w' ⟨he, hb⟩ => ⟨he, hb.grew⟩) (holdsK_row (fun _ => rfl) hw hk) hb (by simp; omega) hT
    have hcon' : Calls Try.prog 70 #[.slice (some ⟨b, 0, none⟩) xs.toArray.size c, .func (.func g) #[] #[]] w _ := hcon
    rw [List.size_toArray] at hcon'
    refine hcon'.mono ?_
    rintro e w' ⟨rfl, n, os, rfl⟩
    exact ⟨(), rfl, sorted_mem (fun _ => rfl) hw hk (by simp)⟩

open Go.Shelf Go.Lib Go.Sort in
theorem sort1_w {w0 w : World} {L : List E.Item} (hw : Mem w0 L w) {j c : Nat} {A : Option Addr} {xs : List Ev} (hk : L[j]? = some (evRow A c xs)) (hn : xs.length ≤ 1000000) :
    Calls Try.prog 70 #[.slice A xs.length c, .func (.func 71) #[] #[]] w fun e w' => ∃ _ : Unit, e = .returned (.tuple #[]) ∧ Mem w0 (L.set j (evRow A c (xs.mergeSort le1))) w' := by
  have hlt : (ltOf setCmp) = fun x y => lexLt x.keys2 y.keys2 := by funext x y; exact setCmp_lt x y
  have := sortBy_w setCmp 71 (by rw [hlt]; exact swo_key Ev.keys2 11 (fun _ => rfl)) (fun x y h1 h2 => by rw [hlt] at h1 h2; exact keys2_inj (lexLt_total rfl h1 h2)) Try.call71 set1_w hw hk hn
  rw [hlt] at this
  exact this
open Go.Shelf Go.Lib Go.Sort in
theorem sort2_w {w0 w : World} {L : List E.Item} (hw : Mem w0 L w) {j c : Nat} {A : Option Addr} {xs : List Ev} (hk : L[j]? = some (evRow A c xs)) (hn : xs.length ≤ 1000000) :
    Calls Try.prog 70 #[.slice A xs.length c, .func (.func 73) #[] #[]] w fun e w' => ∃ _ : Unit, e = .returned (.tuple #[]) ∧ Mem w0 (L.set j (evRow A c (xs.mergeSort le2))) w' := by
  have hlt : (ltOf evCmp) = fun x y => lexLt x.keys y.keys := by funext x y; exact lexCmp_lt x.keys y.keys
  have := sortBy_w evCmp 73 (by rw [hlt]; exact swo_key Ev.keys 9 (fun _ => rfl)) (fun x y h1 h2 => by rw [hlt] at h1 h2; exact keys_inj (lexLt_total rfl h1 h2)) Try.call73 evCmp_w hw hk hn
  rw [hlt] at this
  exact this

end Go.Proofs.Cus

/-
  The walks: compaction; the set.
-/
namespace Go.Proofs.Cus
open Go Go.RowKit Go.Proofs.E

set_option maxHeartbeats 2000000 in
theorem compactEv_w (eq : Ev → Ev → Bool) (g : Nat) (eg : ∀ args w, (callFunc g args).run Try.prog w = .ok (.enter g args) w)
    (hcl : ∀ (x y : Ev) (w : World), Calls Try.prog g #[.agg (Ev.cells x).toArray, .agg (Ev.cells y).toArray] w fun e w' => e = .returned (.bool (eq x y)) ∧ Bel w w')
    {w0 w : World} {L : List E.Item} {c : Nat} {A : Option Addr} {xs : List Ev} (hw : Mem w0 (rowT 50 9 Ev.cells A c xs :: L) w) (hmk : marks L = []) (hn : xs.length ≤ 1000000) :
    Calls Try.prog 74 #[.slice A xs.length c, .func (.func g) #[] #[]] w fun e w' => ∃ _ : Unit, e = .returned (.slice A (compactF eq xs).length c) ∧ Mem w0 (rowT 50 9 Ev.cells A c (compactF eq xs) :: L) w' := by
  have hcap := rowT_cap (j := 0) hw rfl
  rcases Nat.lt_or_ge xs.length 2 with hlt | hge
  · have hcf : compactF eq xs = xs := by
      match xs, hlt with
      | [], _ => rfl
      | [x], _ => rfl
    rw [hcf]
    refine H_enterM hw hmk Try.func74 rfl Try.ntmps74 rfl ?_
    refine H_seq ?_
    refine R0 ?_
    refine xV (e_as (v := .slice _ _ _) (q0 rfl)) rfl rfl ?_
    refine XN ?_
    refine thenJ_normal ?_
    refine H_seq ?_
    refine H_seq ?_
    refine R0 ?_
    refine xV (e_mv (v := .slice _ _ _) (q0 rfl)) rfl rfl ?_
    refine xV (e_len Try.underlying43 (q0 rfl)) rfl rfl ?_
    refine xV (e_lt (q0 rfl) (q0 rfl)) rfl rfl ?_
    refine XN ?_
    refine thenJ_normal ?_
    refine H_cond rfl (fun h1 => ?_) (fun h1 => ?_)
    · refine H_seq ?_
      refine R0 ?_
      refine xV (e_mv (v := .slice _ _ _) (q0 rfl)) rfl rfl ?_
      refine xV (e_as (v := .slice _ _ _) (q0 rfl)) rfl rfl ?_
      refine XN ?_
      refine thenJ_normal ?_
      refine H_ret ?_
      refine thenJ_ret ?_
      exact ret1 (v := .slice _ _ _) rfl rfl hmk fun w' hw => ⟨(), rfl, hw⟩
    · exact absurd h1 (by simp; omega)
  · obtain ⟨b, rfl⟩ := rowT_at (j := 0) hw rfl (by omega)
    refine H_enterM hw hmk Try.func74 rfl Try.ntmps74 rfl ?_
    refine H_seq ?_
    refine R0 ?_
    refine xV (e_as (v := .slice _ _ _) (q0 rfl)) rfl rfl ?_
    refine XN ?_
    refine thenJ_normal ?_
    refine H_seq ?_
    refine H_seq ?_
    refine R0 ?_
    refine xV (e_mv (v := .slice _ _ _) (q0 rfl)) rfl rfl ?_
    refine xV (e_len Try.underlying43 (q0 rfl)) rfl rfl ?_
    refine xV (e_lt (q0 rfl) (q0 rfl)) rfl rfl ?_
    refine XN ?_
    refine thenJ_normal ?_
    refine H_cond rfl (fun h1 => ?_) (fun h1 => ?_)
    · exact absurd h1 (by simp; omega)
    · refine H_skip ?_
      refine thenJ_normal ?_
      refine H_seq ?_
      refine H_seq ?_
      refine R0 ?_
      refine xV (e_as (v := .int _ _) (q0 rfl)) rfl rfl ?_
      refine XN ?_
      refine thenJ_normal ?_
      refine H_block ?_
      refine H_loop [4, 5, 6, 7, 12, 13, 14, 15, 16, 17, 18, 19, 20, 21, 22, 23, 24, 25, 26, 27, 28, 29, 30, 31, 32, 33, 34, 35, 36, 37, 38, 39, 40, 41, 42, 43, 44, 45, 46, 47, 48, 49, 50, 51, 52, 53, 54, 55, 56, 57, 58, 59, 60, 61, 62, 63, 64] (fun k : Nat => [(5, .int .i64 k)]) (fun _ => _) (fun k => 1 ≤ k ∧ k ≤ xs.length ∧ ∃ p, xs[k - 1]? = some p ∧ compactF eq xs = xs.take k ++ compactGo eq p (xs.drop k)) (fun k => xs.length - k) 1 ⟨rfl, trivial⟩ (fun _ h => h) rfl (by
        refine ⟨Nat.le_refl _, by omega, ?_⟩
        match xs, hge with
        | x :: xs, _ => exact ⟨x, rfl, rfl⟩) ?_
      rintro k g2 ⟨hk1, hkn, p, hp, hcf⟩
      refine H_seq ?_
      refine H_seq ?_
      refine R0 ?_
      refine xV (e_mv (v := .int _ _) (q0 rfl)) rfl rfl ?_
      refine xV (e_mv (v := .slice _ _ _) (q0 rfl)) rfl rfl ?_
      refine xV (e_len Try.underlying43 (q0 rfl)) rfl rfl ?_
      refine xV (e_lt (q0 rfl) (q0 rfl)) rfl rfl ?_
      refine XN ?_
      refine thenJ_normal ?_
      refine H_cond rfl (fun hlt => ?_) (fun hlt => ?_)
      · have hlt' : k < xs.length := by simpa using hlt
        obtain ⟨y, hy⟩ : ∃ y, xs[k]? = some y := ⟨_, List.getElem?_eq_getElem hlt'⟩
        refine H_skip ?_
        refine thenJ_normal ?_
        refine H_seq ?_
        refine H_block ?_
        refine H_seq ?_
        refine R1 rfl (by decide +kernel) ?_
        refine xV (e_mv (q0 rfl)) rfl rfl ?_
        refine xV (e_mv (v := .slice _ _ _) (q0 rfl)) rfl rfl ?_
        refine xV (e_mv (v := .int _ _) (q0 rfl)) rfl rfl ?_
        refine xV (e_idx _ Try.underlying43 Try.sizeOf50 (q0 rfl) (q0 rfl) (fun _ => ⟨rfl, by omega⟩)) rfl rfl ?_
        refine xV (e_lds Try.isAgg50 Try.sizeOf50 (q0 rfl) (rrs 0 rfl hy) rfl) rfl rfl ?_
        refine xV (e_mv (v := .slice _ _ _) (q0 rfl)) rfl rfl ?_
        refine xV (e_mv (v := .int _ _) (q0 rfl)) rfl rfl ?_
        refine xV (e_sub (q0 rfl) (q0 rfl) (fun _ => ⟨rfl, by omega, by omega⟩)) rfl rfl ?_
        refine xV (e_idx (k - 1) Try.underlying43 Try.sizeOf50 (q0 rfl) (q0 rfl) (fun _ => ⟨by omega, by omega⟩)) rfl rfl ?_
        refine xV (e_lds Try.isAgg50 Try.sizeOf50 (q0 rfl) (rrs 0 rfl hp) rfl) rfl rfl ?_
        refine xC (enV eg (q0 rfl) (fun _ => rfl)) (fun _ w _ => hcl y p w) rfl rfl ?_
        refine XN ?_
        refine thenJ_normal ?_
        have hdrop : xs.drop k = y :: xs.drop (k + 1) := by
          obtain ⟨q1, q2⟩ := List.getElem?_eq_some_iff.1 hy
          rw [List.drop_eq_getElem_cons q1, q2]
        refine H_cond rfl (fun heq => ?_) (fun heq => ?_)
        · have hcf2 : compactF eq xs = xs.take k ++ compactGo eq y (xs.drop (k + 1)) := by rw [hcf, hdrop]; simp only [compactGo]; rw [if_pos heq]
          refine H_seq ?_
          refine R0 ?_
          refine xV (e_mv (v := .slice _ _ _) (q0 rfl)) rfl rfl ?_
          refine xV (e_mv (v := .int _ _) (q0 rfl)) rfl rfl ?_
          refine xV (e_slLo _ Try.underlying43 Try.sizeOf50 (q0 rfl) (q0 rfl) (fun _ => ⟨rfl, by omega, by omega⟩)) rfl rfl ?_
          refine xV (e_as (v := .slice _ _ _) (q0 rfl)) rfl rfl ?_
          refine XN ?_
          refine thenJ_normal ?_
          refine H_seq ?_
          refine H_seq ?_
          refine R0 ?_
          refine xV (e_as (v := .int _ _) (q0 rfl)) rfl rfl ?_
          refine XN ?_
          refine thenJ_normal ?_
          refine H_block ?_
          refine H_loop [5, 7, 32, 33, 34, 35, 36, 37, 38, 39, 40, 41, 42, 43, 44, 45, 46, 47, 48, 49, 50, 51, 52, 53, 54, 55, 56, 57, 58] (fun s : Nat × Nat × List Ev => [(5, .int .i64 s.1), (7, .int .i64 s.2.1)]) (fun s => rowT 50 9 Ev.cells (some ⟨b, 0, none⟩) c s.2.2 :: L) (fun s => 1 ≤ s.2.1 ∧ k + s.2.1 ≤ xs.length ∧ s.2.2.length = xs.length ∧ s.2.2.drop (k + s.2.1 - 1) = xs.drop (k + s.2.1 - 1) ∧ s.1 ≤ k + s.2.1 - 1 ∧ ∃ p, xs[k + s.2.1 - 1]? = some p ∧ compactF eq xs = s.2.2.take s.1 ++ compactGo eq p (xs.drop (k + s.2.1))) (fun s => xs.length - (k + s.2.1)) (k, 1, xs) ⟨rfl, rfl, trivial⟩ (fun _ h => h) rfl ⟨Nat.le_refl _, by show k + 1 ≤ xs.length; omega, rfl, rfl, by simp, y, by simpa using hy, by simpa using hcf2⟩ ?_
          rintro s g3 ⟨h2, hkn2, hyl, hyd, hi, p2, hp2, hcf3⟩
          refine H_seq ?_
          refine H_seq ?_
          refine R0 ?_
          refine xV (e_mv (v := .int _ _) (q0 rfl)) rfl rfl ?_
          refine xV (e_mv (v := .slice _ _ _) (q0 rfl)) rfl rfl ?_
          refine xV (e_len Try.underlying43 (q0 rfl)) rfl rfl ?_
          refine xV (e_lt (q0 rfl) (q0 rfl)) rfl rfl ?_
          refine XN ?_
          refine thenJ_normal ?_
          refine H_cond rfl (fun hlt2 => ?_) (fun hlt2 => ?_)
          · have hlt2' : k + s.2.1 < xs.length := by simp at hlt2; omega
            obtain ⟨z, hz⟩ : ∃ z, xs[k + s.2.1]? = some z := ⟨_, List.getElem?_eq_getElem hlt2'⟩
            have hzy : s.2.2[k + s.2.1]? = some z := by
              have : (s.2.2.drop (k + s.2.1 - 1))[1]? = (xs.drop (k + s.2.1 - 1))[1]? := by rw [hyd]
              rw [List.getElem?_drop, List.getElem?_drop, show k + s.2.1 - 1 + 1 = k + s.2.1 by omega] at this
              rw [this]; exact hz
            have hpy : s.2.2[k + (s.2.1 - 1)]? = some p2 := by
              have : (s.2.2.drop (k + s.2.1 - 1))[0]? = (xs.drop (k + s.2.1 - 1))[0]? := by rw [hyd]
              rw [List.getElem?_drop, List.getElem?_drop, Nat.add_zero] at this
              rw [show k + (s.2.1 - 1) = k + s.2.1 - 1 by omega, this]; exact hp2
            have hdrop2 : xs.drop (k + s.2.1) = z :: xs.drop (k + s.2.1 + 1) := by
              obtain ⟨q1, q2⟩ := List.getElem?_eq_some_iff.1 hz
              rw [List.drop_eq_getElem_cons q1, q2]
            have hdd : s.2.2.drop (k + s.2.1) = xs.drop (k + s.2.1) := by
              have := congrArg (List.drop 1) hyd
              rw [List.drop_drop, List.drop_drop, show k + s.2.1 - 1 + 1 = k + s.2.1 by omega] at this
              exact this
            refine H_skip ?_
            refine thenJ_normal ?_
            refine H_seq ?_
            refine H_block ?_
            refine H_seq ?_
            refine R1 rfl (by decide +kernel) ?_
            refine xV (e_mv (q0 rfl)) rfl rfl ?_
            refine xV (e_mv (v := .slice _ _ _) (q0 rfl)) rfl rfl ?_
            refine xV (e_mv (v := .int _ _) (q0 rfl)) rfl rfl ?_
            refine xV (e_idx _ Try.underlying43 Try.sizeOf50 (q0 rfl) (q0 rfl) (fun _ => ⟨rfl, by omega⟩)) rfl rfl ?_
            refine xV (e_lds Try.isAgg50 Try.sizeOf50 (q0 rfl) (rrs2 0 rfl hzy) rfl) rfl rfl ?_
            refine xV (e_mv (v := .slice _ _ _) (q0 rfl)) rfl rfl ?_
            refine xV (e_mv (v := .int _ _) (q0 rfl)) rfl rfl ?_
            refine xV (e_sub (q0 rfl) (q0 rfl) (fun _ => ⟨rfl, by omega, by omega⟩)) rfl rfl ?_
            refine xV (e_idx (s.2.1 - 1) Try.underlying43 Try.sizeOf50 (q0 rfl) (q0 rfl) (fun _ => ⟨by omega, by omega⟩)) rfl rfl ?_
            refine xV (e_lds Try.isAgg50 Try.sizeOf50 (q0 rfl) (rrs2 0 rfl hpy) rfl) rfl rfl ?_
            refine xC (enV eg (q0 rfl) (fun _ => rfl)) (fun _ w _ => hcl z p2 w) rfl rfl ?_
            refine xV (e_not (q0 rfl)) rfl rfl ?_
            refine XN ?_
            refine thenJ_normal ?_
            refine H_cond rfl (fun heq2 => ?_) (fun heq2 => ?_)
            · obtain ⟨q, hq⟩ : ∃ q, s.2.2[s.1]? = some q := ⟨_, List.getElem?_eq_getElem (by omega)⟩
              refine H_seq ?_
              refine R0 ?_
              refine xV (e_mv (v := .slice _ _ _) (q0 rfl)) rfl rfl ?_
              refine xV (e_mv (v := .int _ _) (q0 rfl)) rfl rfl ?_
              refine xV (e_mv (v := .slice _ _ _) (q0 rfl)) rfl rfl ?_
              refine xV (e_mv (v := .int _ _) (q0 rfl)) rfl rfl ?_
              refine xV (e_idx _ Try.underlying43 Try.sizeOf50 (q0 rfl) (q0 rfl) (fun _ => ⟨rfl, by omega⟩)) rfl rfl ?_
              refine xV (e_lds Try.isAgg50 Try.sizeOf50 (q0 rfl) (rrs2 0 rfl hzy) rfl) rfl rfl ?_
              refine xV (e_idx _ Try.underlying43 Try.sizeOf50 (q0 rfl) (q0 rfl) (fun _ => ⟨rfl, by omega⟩)) rfl rfl ?_
              refine X_eff (f_storeR0 0 z rfl rfl Try.sizeOf50 rfl rfl rfl hq rfl rfl ?_)
              refine XN ?_
              refine thenJ_normal ?_
              refine R0 ?_
              refine xV (e_mv (v := .int _ _) (q0 rfl)) rfl rfl ?_
              refine xV (e_add (q0 rfl) (q0 rfl) (fun _ => ⟨rfl, by omega, by omega⟩)) rfl rfl ?_
              refine xV (e_as (v := .int _ _) (q0 rfl)) rfl rfl ?_
              refine XN ?_
              refine blockJ_normal ?_
              refine thenJ_normal ?_
              refine R0 ?_
              refine xV (e_mv (v := .int _ _) (q0 rfl)) rfl rfl ?_
              refine xV (e_add (q0 rfl) (q0 rfl) (fun _ => ⟨rfl, by omega, by omega⟩)) rfl rfl ?_
              refine xV (e_as (v := .int _ _) (q0 rfl)) rfl rfl ?_
              refine XN ?_
              exact loopJ_normal (s.1 + 1, s.2.1 + 1, s.2.2.set s.1 z) (by repeat (first | exact agree_self | exact agree_over | refine agree_upd rfl ?_ | refine agree_updL rfl ?_ | refine agree_over2 rfl ?_)) ⟨rfl, rfl, trivial⟩ (fun _ h => h) rfl ⟨by show 1 ≤ s.2.1 + 1; omega, by show k + (s.2.1 + 1) ≤ _; omega, by simpa using hyl, by
                show (s.2.2.set s.1 z).drop (k + (s.2.1 + 1) - 1) = _
                rw [show k + (s.2.1 + 1) - 1 = k + s.2.1 by omega, List.drop_set_of_lt (by omega)]
                exact hdd, by show s.1 + 1 ≤ k + (s.2.1 + 1) - 1; omega, z, by simpa using hz, by
                show _ = (s.2.2.set s.1 z).take (s.1 + 1) ++ _
                rw [hcf3, hdrop2]
                simp only [compactGo]
                rw [if_neg (by simpa using heq2), List.take_add_one, List.take_set_of_le (by omega), List.getElem?_set_self (by omega)]
                simp [Nat.add_assoc]⟩ (by show xs.length - (k + (s.2.1 + 1)) < xs.length - (k + s.2.1); omega)
            · refine H_skip ?_
              refine blockJ_normal ?_
              refine thenJ_normal ?_
              refine R0 ?_
              refine xV (e_mv (v := .int _ _) (q0 rfl)) rfl rfl ?_
              refine xV (e_add (q0 rfl) (q0 rfl) (fun _ => ⟨rfl, by omega, by omega⟩)) rfl rfl ?_
              refine xV (e_as (v := .int _ _) (q0 rfl)) rfl rfl ?_
              refine XN ?_
              exact loopJ_normal (s.1, s.2.1 + 1, s.2.2) (by repeat (first | exact agree_self | exact agree_over | refine agree_upd rfl ?_ | refine agree_updL rfl ?_ | refine agree_over2 rfl ?_)) ⟨rfl, rfl, trivial⟩ (fun _ h => h) rfl ⟨by show 1 ≤ s.2.1 + 1; omega, by show k + (s.2.1 + 1) ≤ _; omega, hyl, by
                show s.2.2.drop (k + (s.2.1 + 1) - 1) = _
                rw [show k + (s.2.1 + 1) - 1 = k + s.2.1 by omega]
                exact hdd, by show s.1 ≤ k + (s.2.1 + 1) - 1; omega, z, by simpa using hz, by
                show _ = s.2.2.take s.1 ++ _
                rw [hcf3, hdrop2]
                simp only [compactGo]
                rw [if_pos (by simpa using heq2)]
                simp [Nat.add_assoc]⟩ (by show xs.length - (k + (s.2.1 + 1)) < xs.length - (k + s.2.1); omega)
          · have hend : k + s.2.1 = xs.length := by simp at hlt2; omega
            have hcf4 : compactF eq xs = s.2.2.take s.1 := by rw [hcf3, hend, List.drop_length]; simp [compactGo]
            refine H_exit ?_
            refine thenJ_exit ?_
            refine loopJ_exit ?_
            refine blockJ_hit ?_
            refine thenJ_normal ?_
            refine H_seq ?_
            refine R0 ?_
            refine xV (e_mv (v := .slice _ _ _) (q0 rfl)) rfl rfl ?_
            refine xV (e_mv (v := .int _ _) (q0 rfl)) rfl rfl ?_
            refine xV (e_slLo _ Try.underlying43 Try.sizeOf50 (q0 rfl) (q0 rfl) (fun _ => ⟨rfl, by omega, by omega⟩)) rfl rfl ?_
            refine X_eff (f_clearR (i := s.1) (k := 9) 0 Try.underlying43 Try.zeroValue50 rfl rfl rfl rfl ⟨by omega, by omega⟩ ?_)
            refine XN ?_
            refine thenJ_normal ?_
            refine H_seq ?_
            refine R0 ?_
            refine xV (e_mv (v := .slice _ _ _) (q0 rfl)) rfl rfl ?_
            refine xV (e_mv (v := .int _ _) (q0 rfl)) rfl rfl ?_
            refine xV (e_slHi _ Try.underlying43 Try.sizeOf50 (q0 rfl) (q0 rfl) (fun _ => ⟨rfl, by omega⟩)) rfl rfl ?_
            refine xV (e_as (v := .slice _ _ _) (q0 rfl)) rfl rfl ?_
            refine XN ?_
            refine thenJ_normal ?_
            refine H_ret ?_
            refine blockJ_ret ?_
            refine thenJ_ret ?_
            refine loopJ_ret ?_
            refine blockJ_ret ?_
            refine thenJ_ret ?_
            exact ret1 (v := .slice _ _ _) rfl rfl hmk fun w' hw => ⟨(), by rw [hcf4, List.length_take, Nat.min_eq_left (by omega)], by rw [hcf4]; exact hw⟩
        · refine H_skip ?_
          refine blockJ_normal ?_
          refine thenJ_normal ?_
          refine R0 ?_
          refine xV (e_mv (v := .int _ _) (q0 rfl)) rfl rfl ?_
          refine xV (e_add (q0 rfl) (q0 rfl) (fun _ => ⟨rfl, by omega, by omega⟩)) rfl rfl ?_
          refine xV (e_as (v := .int _ _) (q0 rfl)) rfl rfl ?_
          refine XN ?_
          exact loopJ_normal (k + 1) (by repeat (first | exact agree_self | exact agree_over | refine agree_upd rfl ?_ | refine agree_updL rfl ?_ | refine agree_over2 rfl ?_)) ⟨rfl, trivial⟩ (fun _ h => h) rfl ⟨by omega, by omega, y, by simpa using hy, by
            rw [hcf, hdrop]
            simp only [compactGo]
            rw [if_neg (by simpa using heq), take_snoc _ _ _ hy]
            simp⟩ (by show xs.length - (k + 1) < xs.length - k; omega)
      · have hend : k = xs.length := by simp at hlt; omega
        have hcf4 : compactF eq xs = xs := by rw [hcf, hend, List.drop_length, List.take_length]; simp [compactGo]
        refine H_exit ?_
        refine thenJ_exit ?_
        refine loopJ_exit ?_
        refine blockJ_hit ?_
        refine thenJ_normal ?_
        refine H_seq ?_
        refine R0 ?_
        refine xV (e_mv (v := .slice _ _ _) (q0 rfl)) rfl rfl ?_
        refine xV (e_as (v := .slice _ _ _) (q0 rfl)) rfl rfl ?_
        refine XN ?_
        refine thenJ_normal ?_
        refine H_ret ?_
        exact ret1 (v := .slice _ _ _) rfl rfl hmk fun w' hw => ⟨(), by rw [hcf4], by rw [hcf4]; exact hw⟩


end Go.Proofs.Cus

/-
  The walks: the set.
-/
namespace Go.Proofs.Cus
open Go Go.RowKit Go.Proofs.E

theorem compactAt_w {w0 w : World} {L : List E.Item} {j c : Nat} {A : Option Addr} {xs : List Ev} (hw : Mem w0 L w) (hk : L[j]? = some (evRow A c xs)) (hmk : marks L = []) (hn : xs.length ≤ 1000000) :
    Calls Try.prog 74 #[.slice A xs.length c, .func (.func 75) #[] #[]] w fun e w' => ∃ _ : Unit, e = .returned (.slice A (compactF sameNum xs).length c) ∧ Mem w0 (L.set j (evRow A c (compactF sameNum xs))) w' :=
  (compactEv_w sameNum 75 Try.call75 set2_w (hw.front hk) (marks_erase L j hmk) hn).mono fun _ _ ⟨_, he, hm⟩ => ⟨(), he, hm.back hk⟩

theorem compact_len {α : Type} (eq : α → α → Bool) : ∀ (xs : List α), (compactF eq xs).length ≤ xs.length
  | [] => Nat.le_refl _
  | x :: xs => by
    have : ∀ (xs : List α) (p : α), (compactGo eq p xs).length ≤ xs.length := by
      intro xs
      induction xs with
      | nil => intro p; exact Nat.le_refl _
      | cons y ys ih =>
        intro p
        simp only [compactGo]
        split
        · have := ih y; simp; omega
        · have := ih y; simp; omega
    have := this xs x
    simp [compactF]; omega
theorem setOf_len (l : List Ev) : (setOf l).length ≤ l.length := by
  have := compact_len sameNum (l.mergeSort le1)
  simpa [setOf] using this
attribute [local irreducible] compactF
theorem set_w (A : Option Addr) (n c : Nat) (xs : List Ev) (w : World) (hx : EvsAt w A n xs) (hn : n ≤ 10000) :
    Calls Try.prog 49 #[.slice A n c] w fun e w' => ∃ x : Option Addr × Nat, e = .returned (.slice x.1 (setOf xs).length x.2) ∧ Mem w [evRow x.1 x.2 (setOf xs)] w' := by
  have hl := hx.1
  subst hl
  refine H_enter Try.func49 rfl Try.ntmps49 rfl ?_
  refine H_seq ?_
  refine R0 ?_
  refine xV (e_as (v := .slice _ _ _) (q0 rfl)) rfl rfl ?_
  refine XN ?_
  refine thenJ_normal ?_
  refine H_seq ?_
  refine R0 ?_
  refine xV (e_mv (v := .slice _ _ _) (q0 rfl)) rfl rfl ?_
  refine xCX (en Try.call69 (ha1 (q0 rfl))) (fun w hw => clone_w A xs.length c xs w (hx.mem hw) hn) rfl (fun _ => rfl) fun x => ?_
  refine xV (e_as (v := .slice _ _ _) (q0 rfl)) rfl rfl ?_
  refine XN ?_
  refine thenJ_normal ?_
  refine H_seq ?_
  refine R0 ?_
  refine xV (e_mv (v := .slice _ _ _) (q0 rfl)) rfl rfl ?_
  refine X_eff (f_callM (en Try.call70 (ha2 (q0 rfl) (q0 rfl))) (fun w hw => sort1_w (j := 0) hw rfl (by omega)) rfl (fun _ => rfl) fun u => ?_)
  refine XN ?_
  refine thenJ_normal ?_
  refine H_seq ?_
  refine R0 ?_
  refine xV (e_mv (v := .slice _ _ _) (q0 rfl)) rfl rfl ?_
  have e1 : xs.length = (xs.mergeSort le1).length := by simp
  rw [e1]
  refine X_eff (f_callM (en Try.call74 (ha2 (q0 rfl) (q0 rfl))) (fun w hw => compactAt_w (j := 0) hw rfl rfl (by simp; omega)) rfl (fun _ => rfl) fun u => ?_)
  refine xV (e_as (v := .slice _ _ _) (q0 rfl)) rfl rfl ?_
  refine XN ?_
  refine thenJ_normal ?_
  refine H_seq ?_
  refine R0 ?_
  refine xV (e_mv (v := .slice _ _ _) (q0 rfl)) rfl rfl ?_
  refine X_eff (f_callM (en Try.call70 (ha2 (q0 rfl) (q0 rfl))) (fun w hw => sort2_w (j := 0) hw rfl (by have := compact_len sameNum (xs.mergeSort le1); simp at this; omega)) rfl (fun _ => rfl) fun u => ?_)
  refine XN ?_
  refine thenJ_normal ?_
  refine H_seq ?_
  refine R0 ?_
  refine xV (e_mv (v := .slice _ _ _) (q0 rfl)) rfl rfl ?_
  refine xV (e_as (v := .slice _ _ _) (q0 rfl)) rfl rfl ?_
  refine XN ?_
  refine thenJ_normal ?_
  refine H_ret ?_
  have e2 : (compactF sameNum (xs.mergeSort le1)).length = (setOf xs).length := by simp [setOf]
  exact ret1 (v := .slice _ _ _) rfl rfl rfl fun w' hw => ⟨x, by rw [← e2], hw⟩

end Go.Proofs.Cus

/-
  The walks: the reference's set.
-/
namespace Go.Proofs.Cus
open Go Go.RowKit Go.Proofs.E

theorem take_while {p : Ev → Bool} : ∀ {l : List Ev} {k : Nat}, k ≤ l.length → (l.take k).all p = true → (∀ x, l[k]? = some x → p x = false) → l.takeWhile p = l.take k ∧ l.dropWhile p = l.drop k
  | [], k, hk, _, _ => by simp
  | a :: l, 0, _, _, h => by
    have := h a rfl
    simp [this]
  | a :: l, k + 1, hk, ha, h => by
    simp only [List.take_succ_cons, List.all_cons, Bool.and_eq_true] at ha
    have := take_while (l := l) (k := k) (by simpa using hk) ha.2 (fun x hx => h x (by simpa using hx))
    simp [ha.1, this]
theorem scan_len (xs : List Ev) (e : Ev) (k : Nat) : ((xs.take k).foldl scanStep ([], e)).1.length ≤ xs.length := by
  rw [(scan_fst (xs.take k) [] e).1]
  have h1 := List.length_filter_le (fun x => !sameNum x e) (xs.take k)
  have h2 := List.length_take_le k xs
  simp; have h3 : (xs.take k).length ≤ xs.length := by rw [List.length_take]; omega
  omega
attribute [local irreducible] evLess

theorem refSet_len : ∀ (l s : List Ev), (l.foldl withE s).length ≤ s.length + l.length
  | [], s => by simp
  | x :: l, s => by
    have h1 := refSet_len l (withE s x)
    have h2 : (withE s x).length ≤ s.length + 1 := by
      have h3 := scan_len s x s.length
      rw [List.take_length] at h3
      simp only [withE, List.length_append, List.length_cons]
      have : ∀ (p : Ev → Bool) (o : List Ev), (o.takeWhile p).length + (o.dropWhile p).length = o.length := fun p o => by
        rw [← List.length_append, List.takeWhile_append_dropWhile]
      have := this (fun y => evLess y (s.foldl scanStep ([], x)).2) (s.foldl scanStep ([], x)).1
      omega
    simp only [List.foldl_cons, List.length_cons]
    omega
attribute [local irreducible] withE

end Go.Proofs.Cus
