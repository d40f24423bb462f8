import Derived.Test.YtcpihdljjckecaaGreatDoorConEb
import Derived.Test.YtcpihdljjckecaaGreatDoorProg
import Derived.Sort.Statements
import Derived.KernelRfl
set_option linter.unusedVariables false
set_option linter.unusedSimpArgs false
/-
  Plain functions: fleets, events, their errors and their order (no program in sight).
-/
namespace Go.Proofs.Cus

structure Ev where
  device : Int
  seq : Int
  at_ : Int
  late : Int
  kind : Int
  bike : Int
  place : Int
  rider : Int
  ride : Int
structure Fl where
  bikes : Int
  riders : Int
  devices : Int
  docks : List Int
  trucks : List Int

def within (n low high : Int) : Bool := decide (low ≤ n) && decide (n ≤ high)
def allIn (l : List Int) (most : Int) : Bool := l.all fun n => within n 1 most
def flErr (f : Fl) : Int :=
  if ((!within f.bikes 1 128 || !within f.riders 1 128) || !within f.devices 1 256) = true then 1
  else if 32 < f.docks.length ∨ 8 < f.trucks.length then 8
  else if (!allIn f.docks 32 || !allIn f.trucks 32) = true then 1 else 0
def placed (f : Fl) (e : Ev) : Bool :=
  if e.kind = 1 then (decide (0 ≤ e.place) && decide (e.place.tdiv 32 < f.docks.length)) && decide (e.place.tmod 32 < f.docks.getD (e.place.tdiv 32).toNat 0)
  else if e.kind = 2 then within e.place 0 63
  else if e.kind = 7 then within e.place 0 ((f.trucks.length : Int) - 1)
  else decide (e.place = 0)
def named (f : Fl) (e : Ev) : Bool :=
  (if e.kind = 3 then within e.rider 0 (f.riders - 1) else decide (e.rider = 0)) && (if e.kind = 3 ∨ e.kind = 4 then within e.ride 1 1000000 else decide (e.ride = 0))
def evErr (f : Fl) (e : Ev) : Int :=
  if flErr f ≠ 0 then flErr f
  else if ((((!within e.device 0 (f.devices - 1) || !within e.seq 1 1048576) || decide (e.at_ < 0)) || decide (e.late < e.at_)) || decide (4294943999 < e.late)) = true then 1
  else if within e.kind 1 10 = false then 14
  else if (!within e.bike 0 (f.bikes - 1) || (decide (e.kind = 10) && !decide (e.bike = 0))) = true then 1
  else if placed f e = false then 7
  else if named f e = false then 1 else 0

end Go.Proofs.Cus

/-
  The walks: fleets and events, each by itself.
-/
namespace Go.Proofs.Cus
open Go Go.RowKit Go.Proofs.E

abbrev IntsAt (w : World) (A : Option Addr) (n : Nat) (xs : List Int) : Prop := SlAt w 1 encInt A n xs
def Ev.cells (e : Ev) : List Value := [.int .i64 e.device, .int .i64 e.seq, .int .i64 e.at_, .int .i64 e.late, .int .i64 e.kind, .int .i64 e.bike, .int .i64 e.place, .int .i64 e.rider, .int .i64 e.ride]
/-- where a fleet's lists lie -/
structure FA where
  dA : Option Addr
  dn : Nat
  dc : Nat
  tA : Option Addr
  tn : Nat
  tc : Nat
def Fl.cells (f : Fl) (a : FA) : List Value := [.int .i64 f.bikes, .int .i64 f.riders, .int .i64 f.devices, .slice a.dA a.dn a.dc, .slice a.tA a.tn a.tc]
structure FlAt (w : World) (f : Fl) (a : FA) : Prop where
  docks : IntsAt w a.dA a.dn f.docks
  trucks : IntsAt w a.tA a.tn f.trucks
theorem FlAt.mem {w0 w : World} {L : List E.Item} {f : Fl} {a : FA} (h : FlAt w0 f a) (hm : Mem w0 L w) : FlAt w f a := ⟨h.docks.mem hm, h.trucks.mem hm⟩

theorem within_w (n low high : Int) (w : World) : Calls Tryz.prog 133 #[.int .i64 n, .int .i64 low, .int .i64 high] w fun e w' => e = .returned (.bool (within n low high)) ∧ Bel w w' := by
  refine H_enter Tryz.func133 rfl Tryz.ntmps133 rfl ?_
  refine H_seq ?_
  refine R0 ?_
  refine xV (e_as (v := .bool _) (q0 rfl)) rfl rfl ?_
  refine XN ?_
  refine thenJ_normal ?_
  refine H_seq ?_
  refine R0 ?_
  refine xV (e_mv (v := .int _ _) (q0 rfl)) rfl rfl ?_
  refine xV (e_mv (v := .int _ _) (q0 rfl)) rfl rfl ?_
  refine xV (e_le (q0 rfl) (q0 rfl)) rfl rfl ?_
  refine xV (e_mv (v := .bool _) (q0 rfl)) rfl rfl ?_
  refine xVT (e_mv (v := .int _ _) (q0 rfl)) rfl rfl rfl rfl ?_
  refine xVT (e_mv (v := .int _ _) (q0 rfl)) rfl rfl rfl rfl ?_
  refine xVT (e_le (q1 rfl) (q1 rfl)) rfl rfl rfl rfl ?_
  refine xV (e_and (q0 rfl) rfl (fun h => by first | rfl | (rw [h]; rfl))) rfl rfl ?_
  refine xV (e_as (v := .bool _) (q0 rfl)) rfl rfl ?_
  refine XN ?_
  refine thenJ_normal ?_
  refine H_ret ?_
  exact ret1 (v := .bool _) rfl rfl rfl fun w' hw => ⟨rfl, hw.1⟩

theorem take_snoc {α : Type} (l : List α) (k : Nat) (v : α) (h : l[k]? = some v) : l.take (k + 1) = l.take k ++ [v] := by
  rw [List.take_add_one, h]; rfl
attribute [local irreducible] within allIn

theorem all_w (A : Option Addr) (n c : Nat) (xs : List Int) (most : Int) (w : World) (hx : IntsAt w A n xs) :
    Calls Tryz.prog 134 #[.slice A n c, .int .i64 most] w fun e w' => e = .returned (.bool (allIn xs most)) ∧ Bel w w' := by
  have hl := hx.1
  have hn := hx.2.1
  refine H_enter Tryz.func134 rfl Tryz.ntmps134 rfl ?_
  refine H_seq ?_
  refine R0 ?_
  refine xV (e_as (v := .bool _) (q0 rfl)) rfl rfl ?_
  refine XN ?_
  refine thenJ_normal ?_
  refine H_seq ?_
  refine H_seq ?_
  refine R0 ?_
  refine xV (e_mv (v := .slice _ _ _) (q0 rfl)) rfl rfl ?_
  refine xV (e_len Tryz.underlying42 (q0 rfl)) rfl rfl ?_
  refine xV (e_mv (v := .int _ _) (q0 rfl)) rfl rfl ?_
  refine XN ?_
  refine thenJ_normal ?_
  refine H_block ?_
  refine H_loop [4, 6, 9, 10, 11, 12, 13, 14, 15, 16, 17] (fun k : Nat => [(9, .int .i64 k)]) (fun _ => _) (fun k => k ≤ n ∧ (xs.take k).all (fun m => within m 1 most) = true) (fun k => n - k) 0 ⟨rfl, trivial⟩ (fun _ h => h) rfl ⟨Nat.zero_le _, rfl⟩ ?_
  rintro k g ⟨hk, hall⟩
  refine H_seq ?_
  refine R0 ?_
  refine xV (e_lt (q0 rfl) (q0 rfl)) rfl rfl ?_
  refine XN ?_
  refine thenJ_normal ?_
  refine H_seq ?_
  refine H_cond rfl (fun hlt => ?_) (fun hlt => ?_)
  · simp at hlt
    obtain ⟨b, off, x, rfl, hbl, hxk, hrx⟩ := hx.at_ hlt
    refine H_skip ?_
    refine thenJ_normal ?_
    refine H_seq ?_
    refine H_block ?_
    refine H_seq ?_
    refine R0 ?_
    refine xV (e_idx _ Tryz.underlying42 Tryz.sizeOf3 (q0 rfl) (q0 rfl) (fun _ => ⟨rfl, by omega⟩)) rfl rfl ?_
    refine xV (eL Tryz.isAgg3 (q0 rfl)) rfl rfl ?_
    refine xV (e_as (v := .int _ _) (q0 rfl)) rfl rfl ?_
    refine XN ?_
    refine thenJ_normal ?_
    refine H_seq ?_
    refine R0 ?_
    refine xV (e_mv (v := .int _ _) (q0 rfl)) rfl rfl ?_
    refine xV (e_mv (v := .int _ _) (q0 rfl)) rfl rfl ?_
    refine xC (en Tryz.call133 (ha3 (q0 rfl) (q0 rfl) (q0 rfl))) (fun _ w _ => within_w x 1 most w) rfl rfl ?_
    refine xV (e_not (q0 rfl)) rfl rfl ?_
    refine XN ?_
    refine thenJ_normal ?_
    refine H_cond rfl (fun hb => ?_) (fun hb => ?_)
    · refine H_seq ?_
      refine R0 ?_
      refine xV (e_as (v := .bool _) (q0 rfl)) rfl rfl ?_
      refine XN ?_
      refine thenJ_normal ?_
      refine H_ret ?_
      refine blockJ_ret ?_
      refine thenJ_ret ?_
      refine loopJ_ret ?_
      refine blockJ_ret ?_
      refine thenJ_ret ?_
      exact ret1 (v := .bool _) rfl rfl rfl fun w' hw => ⟨ret_bool (by
        unfold allIn
        rw [eq_comm, List.all_eq_false]
        exact ⟨x, List.mem_of_getElem? hxk, by simpa using hb⟩), hw.1⟩
    · refine H_skip ?_
      refine blockJ_normal ?_
      refine thenJ_normal ?_
      refine R0 ?_
      refine xV (e_add (q0 rfl) (q0 rfl) (fun _ => ⟨rfl, by omega, by omega⟩)) rfl rfl ?_
      refine xV (e_mv (v := .int _ _) (q0 rfl)) rfl rfl ?_
      refine XN ?_
      exact loopJ_normal (k + 1) (by repeat (first | exact agree_self | exact agree_over | refine agree_upd rfl ?_ | refine agree_updL rfl ?_ | refine agree_over2 rfl ?_)) ⟨rfl, trivial⟩ (fun _ h => h) rfl ⟨by omega, by rw [take_snoc _ _ _ hxk, List.all_append, hall]; simpa using hb⟩ (by show n - (k + 1) < n - k; omega)
  · obtain rfl : k = n := by simp at hlt; omega
    refine H_exit ?_
    refine thenJ_exit ?_
    refine loopJ_exit ?_
    refine blockJ_hit ?_
    refine thenJ_normal ?_
    refine H_seq ?_
    refine R0 ?_
    refine xV (e_as (v := .bool _) (q0 rfl)) rfl rfl ?_
    refine XN ?_
    refine thenJ_normal ?_
    refine H_ret ?_
    exact ret1 (v := .bool _) rfl rfl rfl fun w' hw => ⟨ret_bool (by unfold allIn; rw [← hall, List.take_of_length_le (by omega)]), hw.1⟩
theorem fleet_w (f : Fl) (a : FA) (w : World) (hx : FlAt w f a) : Calls Tryz.prog 91 #[.agg (f.cells a).toArray] w fun e w' => e = .returned (.int .i64 (flErr f)) ∧ Bel w w' := by
  have hl := hx.docks.1
  have hl2 := hx.trucks.1
  refine H_enter Tryz.func91 rfl Tryz.ntmps91 rfl ?_
  refine H_seq ?_
  refine R0 ?_
  refine X_box (v := .agg _) rfl rfl fun b1 => ?_
  refine xV (e_as (v := .int _ _) (q0 rfl)) rfl rfl ?_
  refine XN ?_
  refine thenJ_normal ?_
  refine H_seq ?_
  refine H_seq ?_
  refine R0 ?_
  refine xV (e_fld Tryz.underlying44 rfl Tryz.sizeOf3 rfl (q0 rfl)) rfl rfl ?_
  refine xV (eL Tryz.isAgg3 (q0 rfl)) rfl rfl ?_
  refine xC (en Tryz.call133 (ha3 (q0 rfl) (q0 rfl) (q0 rfl))) (fun _ w _ => within_w f.bikes 1 128 w) rfl rfl ?_
  refine xV (e_not (q0 rfl)) rfl rfl ?_
  refine xV (e_mv (v := .bool _) (q0 rfl)) rfl rfl ?_
  refine xVF (e_fld Tryz.underlying44 rfl Tryz.sizeOf3 rfl (q0 rfl)) rfl rfl rfl rfl ?_
  refine xVF (eL Tryz.isAgg3 (q1 rfl)) rfl rfl rfl rfl ?_
  refine xCF (en Tryz.call133 (ha3 (q1 (v := .int _ _) rfl) (q0 rfl) (q0 rfl))) (fun _ w _ => within_w f.riders 1 128 w) rfl rfl rfl rfl ?_
  refine xVF (e_not (q1 rfl)) rfl rfl rfl rfl ?_
  refine xV (e_or (q0 rfl) rfl (fun h => by first | rfl | (rw [h]; rfl))) rfl rfl ?_
  refine xV (e_mv (v := .bool _) (q0 rfl)) rfl rfl ?_
  refine xVF (e_fld Tryz.underlying44 rfl Tryz.sizeOf3 rfl (q0 rfl)) rfl rfl rfl rfl ?_
  refine xVF (eL Tryz.isAgg3 (q1 rfl)) rfl rfl rfl rfl ?_
  refine xCF (en Tryz.call133 (ha3 (q1 (v := .int _ _) rfl) (q0 rfl) (q0 rfl))) (fun _ w _ => within_w f.devices 1 256 w) rfl rfl rfl rfl ?_
  refine xVF (e_not (q1 rfl)) rfl rfl rfl rfl ?_
  refine xV (e_or (q0 rfl) rfl (fun h => by first | rfl | (rw [h]; rfl))) rfl rfl ?_
  refine XN ?_
  refine thenJ_normal ?_
  refine H_cond rfl (fun h1 => ?_) (fun h1 => ?_)
  · refine H_seq ?_
    refine R0 ?_
    refine xV (e_as (v := .int _ _) (q0 rfl)) rfl rfl ?_
    refine XN ?_
    refine thenJ_normal ?_
    refine H_ret ?_
    refine thenJ_ret ?_
    exact ret1 (v := .int _ _) rfl rfl rfl fun w' hw => ⟨ret_int (by unfold flErr; rw [if_pos h1]), hw.1⟩
  · refine H_skip ?_
    refine thenJ_normal ?_
    refine H_seq ?_
    refine H_seq ?_
    refine R0 ?_
    refine xV (e_fld Tryz.underlying44 rfl Tryz.sizeOf42 rfl (q0 rfl)) rfl rfl ?_
    refine xV (eL Tryz.isAgg42 (q0 rfl)) rfl rfl ?_
    refine xV (e_len Tryz.underlying42 (q0 rfl)) rfl rfl ?_
    refine xV (e_gt (q0 rfl) (q0 rfl)) rfl rfl ?_
    refine xV (e_mv (v := .bool _) (q0 rfl)) rfl rfl ?_
    refine xVF (e_fld Tryz.underlying44 rfl Tryz.sizeOf42 rfl (q0 rfl)) rfl rfl rfl rfl ?_
    refine xVF (eL Tryz.isAgg42 (q1 rfl)) rfl rfl rfl rfl ?_
    refine xVF (e_len Tryz.underlying42 (q1 rfl)) rfl rfl rfl rfl ?_
    refine xVF (e_gt (q1 rfl) (q0 rfl)) rfl rfl rfl rfl ?_
    refine xV (e_or (q0 rfl) rfl (fun h => by first | rfl | (rw [h]; rfl))) rfl rfl ?_
    refine XN ?_
    refine thenJ_normal ?_
    refine H_cond rfl (fun h2 => ?_) (fun h2 => ?_)
    · refine H_seq ?_
      refine R0 ?_
      refine xV (e_as (v := .int _ _) (q0 rfl)) rfl rfl ?_
      refine XN ?_
      refine thenJ_normal ?_
      refine H_ret ?_
      refine thenJ_ret ?_
      exact ret1 (v := .int _ _) rfl rfl rfl fun w' hw => ⟨ret_int (by unfold flErr; rw [if_neg (by rw [h1]; decide), if_pos (by simp at h2; omega)]), hw.1⟩
    · refine H_skip ?_
      refine thenJ_normal ?_
      refine H_seq ?_
      refine H_seq ?_
      refine R0 ?_
      refine xV (e_fld Tryz.underlying44 rfl Tryz.sizeOf42 rfl (q0 rfl)) rfl rfl ?_
      refine xV (eL Tryz.isAgg42 (q0 rfl)) rfl rfl ?_
      refine xC (en Tryz.call134 (ha2 (q0 rfl) (q0 rfl))) (fun _ w hm => all_w a.dA a.dn a.dc f.docks 32 w (hx.docks.mem hm)) rfl rfl ?_
      refine xV (e_not (q0 rfl)) rfl rfl ?_
      refine xV (e_mv (v := .bool _) (q0 rfl)) rfl rfl ?_
      refine xVF (e_fld Tryz.underlying44 rfl Tryz.sizeOf42 rfl (q0 rfl)) rfl rfl rfl rfl ?_
      refine xVF (eL Tryz.isAgg42 (q1 rfl)) rfl rfl rfl rfl ?_
      refine xCF (en Tryz.call134 (ha2 (q1 (v := .slice _ _ _) rfl) (q0 rfl))) (fun _ w hm => all_w a.tA a.tn a.tc f.trucks 32 w (hx.trucks.mem hm)) rfl rfl rfl rfl ?_
      refine xVF (e_not (q1 rfl)) rfl rfl rfl rfl ?_
      refine xV (e_or (q0 rfl) rfl (fun h => by first | rfl | (rw [h]; rfl))) rfl rfl ?_
      refine XN ?_
      refine thenJ_normal ?_
      refine H_cond rfl (fun h3 => ?_) (fun h3 => ?_)
      · refine H_seq ?_
        refine R0 ?_
        refine xV (e_as (v := .int _ _) (q0 rfl)) rfl rfl ?_
        refine XN ?_
        refine thenJ_normal ?_
        refine H_ret ?_
        refine thenJ_ret ?_
        exact ret1 (v := .int _ _) rfl rfl rfl fun w' hw => ⟨ret_int (by unfold flErr; rw [if_neg (by rw [h1]; decide), if_neg (by simp at h2; omega), if_pos h3]), hw.1⟩
      · refine H_skip ?_
        refine thenJ_normal ?_
        refine H_seq ?_
        refine R0 ?_
        refine xV (e_as (v := .int _ _) (q0 rfl)) rfl rfl ?_
        refine XN ?_
        refine thenJ_normal ?_
        refine H_ret ?_
        exact ret1 (v := .int _ _) rfl rfl rfl fun w' hw => ⟨ret_int (by unfold flErr; rw [if_neg (by rw [h1]; decide), if_neg (by simp at h2; omega), if_neg (by rw [h3]; decide)]), hw.1⟩

end Go.Proofs.Cus

/-
  The walks: an event's errors. (Printed by mk_cb.py.)
-/
namespace Go.Proofs.Cus
open Go Go.RowKit Go.Proofs.E

theorem flErr_ok {f : Fl} (h : flErr f = 0) : (1 ≤ f.bikes ∧ f.bikes ≤ 128) ∧ (0 ≤ f.riders ∧ f.riders ≤ 1000) ∧ (1 ≤ f.devices ∧ f.devices ≤ 256) ∧ f.docks.length ≤ 32 ∧ f.trucks.length ≤ 8 ∧ allIn f.docks 32 = true ∧ allIn f.trucks 32 = true := by
  unfold flErr at h
  split at h
  · cases h
  · rename_i h1
    split at h
    · cases h
    · rename_i h2
      split at h
      · cases h
      · rename_i h3
        simp [within] at h1 h3
        refine ⟨?_, ?_, ?_, ?_, ?_, h3.1, h3.2⟩ <;> omega

attribute [local irreducible] within allIn flErr
theorem placed_w (f : Fl) (a : FA) (e : Ev) (w : World) (hx : FlAt w f a) (hp : -9223372036854775808 ≤ e.place ∧ e.place ≤ 9223372036854775807) : Calls Tryz.prog 223 #[.agg (f.cells a).toArray, .agg e.cells.toArray] w fun r w' => r = .returned (.bool (placed f e)) ∧ Bel w w' := by
  have hl := hx.docks.1
  have hl2 := hx.trucks.1
  have hn2 := hx.trucks.2.1
  refine H_enter Tryz.func223 rfl Tryz.ntmps223 rfl ?_
  refine H_seq ?_
  refine R0 ?_
  refine X_box (v := .agg _) rfl rfl fun b2 => ?_
  refine X_box (v := .agg _) rfl rfl fun b3 => ?_
  refine xV (e_as (v := .bool _) (q0 rfl)) rfl rfl ?_
  refine XN ?_
  refine thenJ_normal ?_
  refine H_seq ?_
  refine H_seq ?_
  refine R0 ?_
  refine xV (e_fld Tryz.underlying24 rfl Tryz.sizeOf3 rfl (q0 rfl)) rfl rfl ?_
  refine xV (eL Tryz.isAgg3 (q0 rfl)) rfl rfl ?_
  refine XN ?_
  refine thenJ_normal ?_
  refine H_block ?_
  refine H_seq ?_
  refine R0 ?_
  refine xV (e_eq (q0 rfl) (q0 rfl)) rfl rfl ?_
  refine xV (e_as (v := .bool _) (q0 rfl)) rfl rfl ?_
  refine XN ?_
  refine thenJ_normal ?_
  refine H_cond rfl (fun h1 => ?_) (fun h1 => ?_)
  · have hk1 : e.kind = 1 := by simpa using h1
    by_cases hin : (decide (0 ≤ e.place) && decide (e.place.tdiv 32 < (a.dn : Int))) = true
    case neg =>
      have hd : (decide (0 ≤ e.place) && decide (e.place.tdiv 32 < (a.dn : Int))) = false := by simpa using hin
      refine H_seq ?_
      refine R1 rfl (by decide +kernel) ?_
      refine xV (e_fld Tryz.underlying24 rfl Tryz.sizeOf3 rfl (q0 rfl)) rfl rfl ?_
      refine xV (eL Tryz.isAgg3 (q0 rfl)) rfl rfl ?_
      refine xV (e_quoT (q0 rfl) (q0 rfl) (fun _ => by omega)) rfl rfl ?_
      refine xV (e_fld Tryz.underlying24 rfl Tryz.sizeOf3 rfl (q0 rfl)) rfl rfl ?_
      refine xV (eL Tryz.isAgg3 (q0 rfl)) rfl rfl ?_
      refine xV (e_remT (q0 rfl) (q0 rfl) (fun _ => by omega)) rfl rfl ?_
      refine xV (e_as (v := .int _ _) (q0 rfl)) rfl rfl ?_
      refine xV (e_as (v := .int _ _) (q0 rfl)) rfl rfl ?_
      refine XN ?_
      refine thenJ_normal ?_
      refine H_seq ?_
      refine R0 ?_
      refine xV (e_fld Tryz.underlying24 rfl Tryz.sizeOf3 rfl (q0 rfl)) rfl rfl ?_
      refine xV (eL Tryz.isAgg3 (q0 rfl)) rfl rfl ?_
      refine xV (e_ge (q0 rfl) (q0 rfl)) rfl rfl ?_
      refine xV (e_mv (v := .bool _) (q0 rfl)) rfl rfl ?_
      refine xVT (e_mv (v := .int _ _) (q0 rfl)) rfl rfl rfl rfl ?_
      refine xVT (e_fld Tryz.underlying44 rfl Tryz.sizeOf42 rfl (q0 rfl)) rfl rfl rfl rfl ?_
      refine xVT (eL Tryz.isAgg42 (q1 rfl)) rfl rfl rfl rfl ?_
      refine xVT (e_len Tryz.underlying42 (q1 rfl)) rfl rfl rfl rfl ?_
      refine xVT (e_lt (q1 rfl) (q1 rfl)) rfl rfl rfl rfl ?_
      refine xV (e_and (q0 rfl) rfl (fun h => by first | rfl | (rw [h]; rfl))) rfl rfl ?_
      refine xV (e_mv (v := .bool _) (q0 rfl)) rfl rfl ?_
      refine xVT (e_dead (v := .int .i64 0) (hd)) rfl rfl rfl rfl ?_
      refine xVT (e_dead (v := .pointer none) (hd)) rfl rfl rfl rfl ?_
      refine xVT (e_dead (v := .slice none 0 0) (hd)) rfl rfl rfl rfl ?_
      refine xVT (e_dead (v := .int .i64 0) (hd)) rfl rfl rfl rfl ?_
      refine xVT (e_dead (v := .pointer none) (hd)) rfl rfl rfl rfl ?_
      refine xVT (e_dead (v := .int .i64 0) (hd)) rfl rfl rfl rfl ?_
      refine xVT (e_dead (v := .bool false) (hd)) rfl rfl rfl rfl ?_
      refine xV (e_and (q0 rfl) rfl (fun h => by first | rfl | (rw [h]; rfl))) rfl rfl ?_
      refine xV (e_as (v := .bool _) (q0 rfl)) rfl rfl ?_
      refine XN ?_
      refine thenJ_normal ?_
      refine H_ret ?_
      refine blockJ_ret ?_
      refine thenJ_ret ?_
      exact ret1 (v := .bool _) rfl rfl rfl fun w' hw => ⟨ret_bool (by unfold placed; rw [if_pos hk1, hl, hd]; rfl), hw.1⟩
    case pos =>
      have h0 : 0 ≤ e.place := by simp at hin; exact hin.1
      have hlt : e.place.tdiv 32 < (a.dn : Int) := by simp at hin; exact hin.2
      have hq : 0 ≤ e.place.tdiv 32 := Int.tdiv_nonneg h0 (by decide)
      have hj : e.place.tdiv 32 = ((e.place.tdiv 32).toNat : Int) := by omega
      have hjn : (e.place.tdiv 32).toNat < a.dn := by omega
      obtain ⟨dA, dn, dc, tA, tn, tc⟩ := a
      obtain ⟨b, off, x, hA, hbl, hxk, hrx⟩ := hx.docks.at_ hjn
      simp only at hA
      subst hA
      refine H_seq ?_
      refine R1 rfl (by decide +kernel) ?_
      refine xV (e_fld Tryz.underlying24 rfl Tryz.sizeOf3 rfl (q0 rfl)) rfl rfl ?_
      refine xV (eL Tryz.isAgg3 (q0 rfl)) rfl rfl ?_
      refine xV (e_quoT (q0 rfl) (q0 rfl) (fun _ => by omega)) rfl rfl ?_
      refine xV (e_fld Tryz.underlying24 rfl Tryz.sizeOf3 rfl (q0 rfl)) rfl rfl ?_
      refine xV (eL Tryz.isAgg3 (q0 rfl)) rfl rfl ?_
      refine xV (e_remT (q0 rfl) (q0 rfl) (fun _ => by omega)) rfl rfl ?_
      refine xV (e_as (v := .int _ _) (q0 rfl)) rfl rfl ?_
      refine xV (e_as (v := .int _ _) (q0 rfl)) rfl rfl ?_
      refine XN ?_
      refine thenJ_normal ?_
      refine H_seq ?_
      refine R0 ?_
      refine xV (e_fld Tryz.underlying24 rfl Tryz.sizeOf3 rfl (q0 rfl)) rfl rfl ?_
      refine xV (eL Tryz.isAgg3 (q0 rfl)) rfl rfl ?_
      refine xV (e_ge (q0 rfl) (q0 rfl)) rfl rfl ?_
      refine xV (e_mv (v := .bool _) (q0 rfl)) rfl rfl ?_
      refine xVT (e_mv (v := .int _ _) (q0 rfl)) rfl rfl rfl rfl ?_
      refine xVT (e_fld Tryz.underlying44 rfl Tryz.sizeOf42 rfl (q0 rfl)) rfl rfl rfl rfl ?_
      refine xVT (eL Tryz.isAgg42 (q1 rfl)) rfl rfl rfl rfl ?_
      refine xVT (e_len Tryz.underlying42 (q1 rfl)) rfl rfl rfl rfl ?_
      refine xVT (e_lt (q1 rfl) (q1 rfl)) rfl rfl rfl rfl ?_
      refine xV (e_and (q0 rfl) rfl (fun h => by first | rfl | (rw [h]; rfl))) rfl rfl ?_
      refine xV (e_mv (v := .bool _) (q0 rfl)) rfl rfl ?_
      refine xVT (e_mv (v := .int _ _) (q0 rfl)) rfl rfl rfl rfl ?_
      refine xVT (e_fld Tryz.underlying44 rfl Tryz.sizeOf42 rfl (q0 rfl)) rfl rfl rfl rfl ?_
      refine xVT (eL Tryz.isAgg42 (q1 rfl)) rfl rfl rfl rfl ?_
      refine xVT (e_mv (v := .int _ _) (q0 rfl)) rfl rfl rfl rfl ?_
      refine xVT (e_idx (e.place.tdiv 32).toNat Tryz.underlying42 Tryz.sizeOf3 (q1 rfl) (q1 rfl) (fun _ => ⟨hj, hjn⟩)) rfl rfl rfl rfl ?_
      refine xVT (eL Tryz.isAgg3 (q1 rfl)) rfl rfl rfl rfl ?_
      refine xVT (e_lt (q1 rfl) (q1 rfl)) rfl rfl rfl rfl ?_
      refine xV (e_and (q0 rfl) rfl (fun h => by first | rfl | (rw [h]; rfl))) rfl rfl ?_
      refine xV (e_as (v := .bool _) (q0 rfl)) rfl rfl ?_
      refine XN ?_
      refine thenJ_normal ?_
      refine H_ret ?_
      refine blockJ_ret ?_
      refine thenJ_ret ?_
      exact ret1 (v := .bool _) rfl rfl rfl fun w' hw => ⟨ret_bool (by unfold placed; rw [if_pos hk1, List.getD_eq_getElem?_getD, hxk, hl]; rfl), hw.1⟩
  · have hk1 : ¬ e.kind = 1 := by simpa using h1
    refine H_seq ?_
    refine R0 ?_
    refine xV (e_eq (q0 rfl) (q0 rfl)) rfl rfl ?_
    refine xV (e_as (v := .bool _) (q0 rfl)) rfl rfl ?_
    refine XN ?_
    refine thenJ_normal ?_
    refine H_cond rfl (fun h2 => ?_) (fun h2 => ?_)
    · refine H_seq ?_
      refine R0 ?_
      refine xV (e_fld Tryz.underlying24 rfl Tryz.sizeOf3 rfl (q0 rfl)) rfl rfl ?_
      refine xV (eL Tryz.isAgg3 (q0 rfl)) rfl rfl ?_
      refine xC (en Tryz.call133 (ha3 (q0 rfl) (q0 rfl) (q0 rfl))) (fun _ w _ => within_w e.place 0 63 w) rfl rfl ?_
      refine xV (e_as (v := .bool _) (q0 rfl)) rfl rfl ?_
      refine XN ?_
      refine thenJ_normal ?_
      refine H_ret ?_
      refine blockJ_ret ?_
      refine thenJ_ret ?_
      exact ret1 (v := .bool _) rfl rfl rfl fun w' hw => ⟨ret_bool (by unfold placed; rw [if_neg hk1, if_pos (by simpa using h2)]), hw.1⟩
    · refine H_seq ?_
      refine R0 ?_
      refine xV (e_eq (q0 rfl) (q0 rfl)) rfl rfl ?_
      refine xV (e_as (v := .bool _) (q0 rfl)) rfl rfl ?_
      refine XN ?_
      refine thenJ_normal ?_
      refine H_cond rfl (fun h7 => ?_) (fun h7 => ?_)
      · refine H_seq ?_
        refine R0 ?_
        refine xV (e_fld Tryz.underlying24 rfl Tryz.sizeOf3 rfl (q0 rfl)) rfl rfl ?_
        refine xV (eL Tryz.isAgg3 (q0 rfl)) rfl rfl ?_
        refine xV (e_fld Tryz.underlying44 rfl Tryz.sizeOf42 rfl (q0 rfl)) rfl rfl ?_
        refine xV (eL Tryz.isAgg42 (q0 rfl)) rfl rfl ?_
        refine xV (e_len Tryz.underlying42 (q0 rfl)) rfl rfl ?_
        refine xV (e_sub (q0 rfl) (q0 rfl) (fun _ => ⟨rfl, by omega, by omega⟩)) rfl rfl ?_
        refine xC (en Tryz.call133 (ha3 (q0 rfl) (q0 rfl) (q0 rfl))) (fun _ w _ => within_w e.place 0 ((a.tn : Int) - 1) w) rfl rfl ?_
        refine xV (e_as (v := .bool _) (q0 rfl)) rfl rfl ?_
        refine XN ?_
        refine thenJ_normal ?_
        refine H_ret ?_
        refine blockJ_ret ?_
        refine thenJ_ret ?_
        exact ret1 (v := .bool _) rfl rfl rfl fun w' hw => ⟨ret_bool (by unfold placed; rw [if_neg hk1, if_neg (by simpa using h2), if_pos (by simpa using h7), hl2]), hw.1⟩
      · refine H_skip ?_
        refine blockJ_normal ?_
        refine thenJ_normal ?_
        refine H_seq ?_
        refine R0 ?_
        refine xV (e_fld Tryz.underlying24 rfl Tryz.sizeOf3 rfl (q0 rfl)) rfl rfl ?_
        refine xV (eL Tryz.isAgg3 (q0 rfl)) rfl rfl ?_
        refine xV (e_eq (q0 rfl) (q0 rfl)) rfl rfl ?_
        refine xV (e_as (v := .bool _) (q0 rfl)) rfl rfl ?_
        refine XN ?_
        refine thenJ_normal ?_
        refine H_ret ?_
        exact ret1 (v := .bool _) rfl rfl rfl fun w' hw => ⟨ret_bool (by unfold placed; rw [if_neg hk1, if_neg (by simpa using h2), if_neg (by simpa using h7)]), hw.1⟩
attribute [local irreducible] placed
theorem named_w (f : Fl) (a : FA) (e : Ev) (w : World) (hr : 0 ≤ f.riders ∧ f.riders ≤ 1000) : Calls Tryz.prog 224 #[.agg (f.cells a).toArray, .agg e.cells.toArray] w fun r w' => r = .returned (.bool (named f e)) ∧ Bel w w' := by
  refine H_enter Tryz.func224 rfl Tryz.ntmps224 rfl ?_
  refine H_seq ?_
  refine R0 ?_
  refine X_box (v := .agg _) rfl rfl fun b2 => ?_
  refine X_box (v := .agg _) rfl rfl fun b3 => ?_
  refine xV (e_as (v := .bool _) (q0 rfl)) rfl rfl ?_
  refine XN ?_
  refine thenJ_normal ?_
  refine H_seq ?_
  refine R1 rfl (by decide +kernel) ?_
  refine xV (e_fld Tryz.underlying24 rfl Tryz.sizeOf3 rfl (q0 rfl)) rfl rfl ?_
  refine xV (eL Tryz.isAgg3 (q0 rfl)) rfl rfl ?_
  refine xV (e_eq (q0 rfl) (q0 rfl)) rfl rfl ?_
  refine xV (e_fld Tryz.underlying24 rfl Tryz.sizeOf3 rfl (q0 rfl)) rfl rfl ?_
  refine xV (eL Tryz.isAgg3 (q0 rfl)) rfl rfl ?_
  refine xV (e_eq (q0 rfl) (q0 rfl)) rfl rfl ?_
  refine xV (e_as (v := .bool _) (q0 rfl)) rfl rfl ?_
  refine xV (e_as (v := .bool _) (q0 rfl)) rfl rfl ?_
  refine XN ?_
  refine thenJ_normal ?_
  refine H_seq ?_
  refine H_seq ?_
  refine R0 ?_
  refine xV (e_fld Tryz.underlying24 rfl Tryz.sizeOf3 rfl (q0 rfl)) rfl rfl ?_
  refine xV (eL Tryz.isAgg3 (q0 rfl)) rfl rfl ?_
  refine xV (e_eq (q0 rfl) (q0 rfl)) rfl rfl ?_
  refine XN ?_
  refine thenJ_normal ?_
  refine H_cond rfl (fun h3 => ?_) (fun h3 => ?_)
  · have hk : e.kind = 3 := by simpa using h3
    refine R0 ?_
    refine xV (e_fld Tryz.underlying24 rfl Tryz.sizeOf3 rfl (q0 rfl)) rfl rfl ?_
    refine xV (eL Tryz.isAgg3 (q0 rfl)) rfl rfl ?_
    refine xV (e_fld Tryz.underlying44 rfl Tryz.sizeOf3 rfl (q0 rfl)) rfl rfl ?_
    refine xV (eL Tryz.isAgg3 (q0 rfl)) rfl rfl ?_
    refine xV (e_sub (q0 rfl) (q0 rfl) (fun _ => ⟨rfl, by omega, by omega⟩)) rfl rfl ?_
    refine xC (en Tryz.call133 (ha3 (q0 rfl) (q0 rfl) (q0 rfl))) (fun _ w _ => within_w e.rider 0 (f.riders - 1) w) rfl rfl ?_
    refine xV (e_as (v := .bool _) (q0 rfl)) rfl rfl ?_
    refine XN ?_
    refine thenJ_normal ?_
    refine H_seq ?_
    refine H_seq ?_
    refine R0 ?_
    refine xV (e_fld Tryz.underlying24 rfl Tryz.sizeOf3 rfl (q0 rfl)) rfl rfl ?_
    refine xV (eL Tryz.isAgg3 (q0 rfl)) rfl rfl ?_
    refine xV (e_eq (q0 rfl) (q0 rfl)) rfl rfl ?_
    refine xV (e_mv (v := .bool _) (q0 rfl)) rfl rfl ?_
    refine xVF (e_fld Tryz.underlying24 rfl Tryz.sizeOf3 rfl (q0 rfl)) rfl rfl rfl rfl ?_
    refine xVF (eL Tryz.isAgg3 (q1 rfl)) rfl rfl rfl rfl ?_
    refine xVF (e_eq (q1 rfl) (q0 rfl)) rfl rfl rfl rfl ?_
    refine xV (e_or (q0 rfl) rfl (fun h => by first | rfl | (rw [h]; rfl))) rfl rfl ?_
    refine XN ?_
    refine thenJ_normal ?_
    refine H_cond rfl (fun h4 => ?_) (fun h4 => ?_)
    · refine R0 ?_
      refine xV (e_fld Tryz.underlying24 rfl Tryz.sizeOf3 rfl (q0 rfl)) rfl rfl ?_
      refine xV (eL Tryz.isAgg3 (q0 rfl)) rfl rfl ?_
      refine xC (en Tryz.call133 (ha3 (q0 rfl) (q0 rfl) (q0 rfl))) (fun _ w _ => within_w e.ride 1 1000000 w) rfl rfl ?_
      refine xV (e_as (v := .bool _) (q0 rfl)) rfl rfl ?_
      refine XN ?_
      refine thenJ_normal ?_
      refine H_seq ?_
      refine R0 ?_
      refine xV (e_mv (v := .bool _) (q0 rfl)) rfl rfl ?_
      refine xV (e_mv (v := .bool _) (q0 rfl)) rfl rfl ?_
      refine xVT (e_mv (v := .bool _) (q0 rfl)) rfl rfl rfl rfl ?_
      refine xV (e_and (q0 rfl) rfl (fun h => by first | rfl | (rw [h]; rfl))) rfl rfl ?_
      refine xV (e_as (v := .bool _) (q0 rfl)) rfl rfl ?_
      refine XN ?_
      refine thenJ_normal ?_
      refine H_ret ?_
      exact ret1 (v := .bool _) rfl rfl rfl fun w' hw => ⟨ret_bool (by unfold named; rw [if_pos hk, if_pos (Or.inl hk)]), hw.1⟩
    · simp [hk] at h4
  · have hk : ¬ e.kind = 3 := by simpa using h3
    refine H_skip ?_
    refine thenJ_normal ?_
    refine H_seq ?_
    refine H_seq ?_
    refine R0 ?_
    refine xV (e_fld Tryz.underlying24 rfl Tryz.sizeOf3 rfl (q0 rfl)) rfl rfl ?_
    refine xV (eL Tryz.isAgg3 (q0 rfl)) rfl rfl ?_
    refine xV (e_eq (q0 rfl) (q0 rfl)) rfl rfl ?_
    refine xV (e_mv (v := .bool _) (q0 rfl)) rfl rfl ?_
    refine xVF (e_fld Tryz.underlying24 rfl Tryz.sizeOf3 rfl (q0 rfl)) rfl rfl rfl rfl ?_
    refine xVF (eL Tryz.isAgg3 (q1 rfl)) rfl rfl rfl rfl ?_
    refine xVF (e_eq (q1 rfl) (q0 rfl)) rfl rfl rfl rfl ?_
    refine xV (e_or (q0 rfl) rfl (fun h => by first | rfl | (rw [h]; rfl))) rfl rfl ?_
    refine XN ?_
    refine thenJ_normal ?_
    refine H_cond rfl (fun h4 => ?_) (fun h4 => ?_)
    · refine R0 ?_
      refine xV (e_fld Tryz.underlying24 rfl Tryz.sizeOf3 rfl (q0 rfl)) rfl rfl ?_
      refine xV (eL Tryz.isAgg3 (q0 rfl)) rfl rfl ?_
      refine xC (en Tryz.call133 (ha3 (q0 rfl) (q0 rfl) (q0 rfl))) (fun _ w _ => within_w e.ride 1 1000000 w) rfl rfl ?_
      refine xV (e_as (v := .bool _) (q0 rfl)) rfl rfl ?_
      refine XN ?_
      refine thenJ_normal ?_
      refine H_seq ?_
      refine R0 ?_
      refine xV (e_mv (v := .bool _) (q0 rfl)) rfl rfl ?_
      refine xV (e_mv (v := .bool _) (q0 rfl)) rfl rfl ?_
      refine xVT (e_mv (v := .bool _) (q0 rfl)) rfl rfl rfl rfl ?_
      refine xV (e_and (q0 rfl) rfl (fun h => by first | rfl | (rw [h]; rfl))) rfl rfl ?_
      refine xV (e_as (v := .bool _) (q0 rfl)) rfl rfl ?_
      refine XN ?_
      refine thenJ_normal ?_
      refine H_ret ?_
      exact ret1 (v := .bool _) rfl rfl rfl fun w' hw => ⟨ret_bool (by unfold named; rw [if_neg hk, if_pos (by simpa using h4)]), hw.1⟩
    · refine H_skip ?_
      refine thenJ_normal ?_
      refine H_seq ?_
      refine R0 ?_
      refine xV (e_mv (v := .bool _) (q0 rfl)) rfl rfl ?_
      refine xV (e_mv (v := .bool _) (q0 rfl)) rfl rfl ?_
      refine xVT (e_mv (v := .bool _) (q0 rfl)) rfl rfl rfl rfl ?_
      refine xV (e_and (q0 rfl) rfl (fun h => by first | rfl | (rw [h]; rfl))) rfl rfl ?_
      refine xV (e_as (v := .bool _) (q0 rfl)) rfl rfl ?_
      refine XN ?_
      refine thenJ_normal ?_
      refine H_ret ?_
      exact ret1 (v := .bool _) rfl rfl rfl fun w' hw => ⟨ret_bool (by unfold named; rw [if_neg hk, if_neg (by simpa using h4)]), hw.1⟩
theorem within_one (n m : Int) : within n m m = decide (n = m) := by unfold within; rw [Bool.eq_iff_iff]; simp; omega
attribute [local irreducible] named
theorem check_w (f : Fl) (a : FA) (e : Ev) (w : World) (hx : FlAt w f a) (hp : -9223372036854775808 ≤ e.place ∧ e.place ≤ 9223372036854775807) : Calls Tryz.prog 167 #[.agg (f.cells a).toArray, .agg e.cells.toArray] w fun r w' => r = .returned (.int .i64 (evErr f e)) ∧ Bel w w' := by
  refine H_enter Tryz.func167 rfl Tryz.ntmps167 rfl ?_
  refine H_seq ?_
  refine R0 ?_
  refine X_box (v := .agg _) rfl rfl fun b2 => ?_
  refine X_box (v := .agg _) rfl rfl fun b3 => ?_
  refine xV (e_as (v := .int _ _) (q0 rfl)) rfl rfl ?_
  refine XN ?_
  refine thenJ_normal ?_
  refine H_seq ?_
  refine H_seq ?_
  refine R0 ?_
  refine xV (eS Tryz.isAgg44 Tryz.sizeOf44 (q0 rfl)) rfl rfl ?_
  refine xC (en Tryz.call91 (ha1 (q0 rfl))) (fun _ w hm => fleet_w f a w (hx.mem hm)) rfl rfl ?_
  refine xV (e_as (v := .int _ _) (q0 rfl)) rfl rfl ?_
  refine XN ?_
  refine thenJ_normal ?_
  refine H_seq ?_
  refine R0 ?_
  refine xV (e_mv (v := .int _ _) (q0 rfl)) rfl rfl ?_
  refine xV (e_ne (q0 rfl) (q0 rfl)) rfl rfl ?_
  refine XN ?_
  refine thenJ_normal ?_
  refine H_cond rfl (fun h0 => ?_) (fun h0 => ?_)
  · refine H_seq ?_
    refine R0 ?_
    refine xV (e_mv (v := .int _ _) (q0 rfl)) rfl rfl ?_
    refine xV (e_as (v := .int _ _) (q0 rfl)) rfl rfl ?_
    refine XN ?_
    refine thenJ_normal ?_
    refine H_ret ?_
    refine thenJ_ret ?_
    exact ret1 (v := .int _ _) rfl rfl rfl fun w' hw => ⟨ret_int (by unfold evErr; rw [if_pos (by simpa using h0)]), hw.1⟩
  · have hf : flErr f = 0 := by simpa using h0
    have hf' : ¬ flErr f ≠ 0 := by simpa using hf
    have hb := flErr_ok hf
    refine H_skip ?_
    refine thenJ_normal ?_
    refine H_seq ?_
    refine H_seq ?_
    refine R0 ?_
    refine xV (e_fld Tryz.underlying24 rfl Tryz.sizeOf3 rfl (q0 rfl)) rfl rfl ?_
    refine xV (eL Tryz.isAgg3 (q0 rfl)) rfl rfl ?_
    refine xV (e_fld Tryz.underlying44 rfl Tryz.sizeOf3 rfl (q0 rfl)) rfl rfl ?_
    refine xV (eL Tryz.isAgg3 (q0 rfl)) rfl rfl ?_
    refine xV (e_sub (q0 rfl) (q0 rfl) (fun _ => ⟨rfl, by omega, by omega⟩)) rfl rfl ?_
    refine xC (en Tryz.call133 (ha3 (q0 rfl) (q0 rfl) (q0 rfl))) (fun _ w _ => within_w e.device 0 (f.devices - 1) w) rfl rfl ?_
    refine xV (e_not (q0 rfl)) rfl rfl ?_
    refine xV (e_mv (v := .bool _) (q0 rfl)) rfl rfl ?_
    refine xVF (e_fld Tryz.underlying24 rfl Tryz.sizeOf3 rfl (q0 rfl)) rfl rfl rfl rfl ?_
    refine xVF (eL Tryz.isAgg3 (q1 rfl)) rfl rfl rfl rfl ?_
    refine xCF (en Tryz.call133 (ha3 (q1 (v := .int _ _) rfl) (q0 rfl) (q0 rfl))) (fun _ w _ => within_w e.seq 1 1048576 w) rfl rfl rfl rfl ?_
    refine xVF (e_not (q1 rfl)) rfl rfl rfl rfl ?_
    refine xV (e_or (q0 rfl) rfl (fun h => by first | rfl | (rw [h]; rfl))) rfl rfl ?_
    refine xV (e_mv (v := .bool _) (q0 rfl)) rfl rfl ?_
    refine xVF (e_fld Tryz.underlying24 rfl Tryz.sizeOf3 rfl (q0 rfl)) rfl rfl rfl rfl ?_
    refine xVF (eL Tryz.isAgg3 (q1 rfl)) rfl rfl rfl rfl ?_
    refine xVF (e_lt (q1 rfl) (q0 rfl)) rfl rfl rfl rfl ?_
    refine xV (e_or (q0 rfl) rfl (fun h => by first | rfl | (rw [h]; rfl))) rfl rfl ?_
    refine xV (e_mv (v := .bool _) (q0 rfl)) rfl rfl ?_
    refine xVF (e_fld Tryz.underlying24 rfl Tryz.sizeOf3 rfl (q0 rfl)) rfl rfl rfl rfl ?_
    refine xVF (eL Tryz.isAgg3 (q1 rfl)) rfl rfl rfl rfl ?_
    refine xVF (e_fld Tryz.underlying24 rfl Tryz.sizeOf3 rfl (q0 rfl)) rfl rfl rfl rfl ?_
    refine xVF (eL Tryz.isAgg3 (q1 rfl)) rfl rfl rfl rfl ?_
    refine xVF (e_lt (q1 rfl) (q1 rfl)) rfl rfl rfl rfl ?_
    refine xV (e_or (q0 rfl) rfl (fun h => by first | rfl | (rw [h]; rfl))) rfl rfl ?_
    refine xV (e_mv (v := .bool _) (q0 rfl)) rfl rfl ?_
    refine xVF (e_fld Tryz.underlying24 rfl Tryz.sizeOf3 rfl (q0 rfl)) rfl rfl rfl rfl ?_
    refine xVF (eL Tryz.isAgg3 (q1 rfl)) rfl rfl rfl rfl ?_
    refine xVF (e_gt (q1 rfl) (q0 rfl)) rfl rfl rfl rfl ?_
    refine xV (e_or (q0 rfl) rfl (fun h => by first | rfl | (rw [h]; rfl))) rfl rfl ?_
    refine XN ?_
    refine thenJ_normal ?_
    refine H_cond rfl (fun h1 => ?_) (fun h1 => ?_)
    · refine H_seq ?_
      refine R0 ?_
      refine xV (e_as (v := .int _ _) (q0 rfl)) rfl rfl ?_
      refine XN ?_
      refine thenJ_normal ?_
      refine H_ret ?_
      refine thenJ_ret ?_
      exact ret1 (v := .int _ _) rfl rfl rfl fun w' hw => ⟨ret_int (by unfold evErr; rw [if_neg hf', if_pos h1]), hw.1⟩
    · have h1' : ¬ ((((!within e.device 0 (f.devices - 1) || !within e.seq 1 1048576) || decide (e.at_ < 0)) || decide (e.late < e.at_)) || decide (4294943999 < e.late)) = true := by rw [show _ = false from h1]; decide
      refine H_skip ?_
      refine thenJ_normal ?_
      refine H_seq ?_
      refine H_seq ?_
      refine R0 ?_
      refine xV (e_fld Tryz.underlying24 rfl Tryz.sizeOf3 rfl (q0 rfl)) rfl rfl ?_
      refine xV (eL Tryz.isAgg3 (q0 rfl)) rfl rfl ?_
      refine xC (en Tryz.call133 (ha3 (q0 rfl) (q0 rfl) (q0 rfl))) (fun _ w _ => within_w e.kind 1 10 w) rfl rfl ?_
      refine xV (e_not (q0 rfl)) rfl rfl ?_
      refine XN ?_
      refine thenJ_normal ?_
      refine H_cond rfl (fun h2 => ?_) (fun h2 => ?_)
      · refine H_seq ?_
        refine R0 ?_
        refine xV (e_as (v := .int _ _) (q0 rfl)) rfl rfl ?_
        refine XN ?_
        refine thenJ_normal ?_
        refine H_ret ?_
        refine thenJ_ret ?_
        exact ret1 (v := .int _ _) rfl rfl rfl fun w' hw => ⟨ret_int (by unfold evErr; rw [if_neg hf', if_neg h1', if_pos (by simpa using h2)]), hw.1⟩
      · have h2' : ¬ within e.kind 1 10 = false := by simpa using h2
        refine H_skip ?_
        refine thenJ_normal ?_
        refine H_seq ?_
        refine H_seq ?_
        refine R0 ?_
        refine xV (e_fld Tryz.underlying24 rfl Tryz.sizeOf3 rfl (q0 rfl)) rfl rfl ?_
        refine xV (eL Tryz.isAgg3 (q0 rfl)) rfl rfl ?_
        refine xV (e_fld Tryz.underlying44 rfl Tryz.sizeOf3 rfl (q0 rfl)) rfl rfl ?_
        refine xV (eL Tryz.isAgg3 (q0 rfl)) rfl rfl ?_
        refine xV (e_sub (q0 rfl) (q0 rfl) (fun _ => ⟨rfl, by omega, by omega⟩)) rfl rfl ?_
        refine xC (en Tryz.call133 (ha3 (q0 rfl) (q0 rfl) (q0 rfl))) (fun _ w _ => within_w e.bike 0 (f.bikes - 1) w) rfl rfl ?_
        refine xV (e_not (q0 rfl)) rfl rfl ?_
        refine xV (e_mv (v := .bool _) (q0 rfl)) rfl rfl ?_
        refine xVF (e_fld Tryz.underlying24 rfl Tryz.sizeOf3 rfl (q0 rfl)) rfl rfl rfl rfl ?_
        refine xVF (eL Tryz.isAgg3 (q1 rfl)) rfl rfl rfl rfl ?_
        refine xVF (e_eq (q1 rfl) (q0 rfl)) rfl rfl rfl rfl ?_
        refine xVF (e_mv (v := .bool _) (q1 rfl)) rfl rfl rfl rfl ?_
        refine xVT2 (e_fld Tryz.underlying24 rfl Tryz.sizeOf3 rfl (q0 rfl)) rfl rfl rfl rfl ?_
        refine xVT2 (eL Tryz.isAgg3 (q1 rfl)) rfl rfl rfl rfl ?_
        refine xVT2 (e_ne (q1 rfl) (q0 rfl)) rfl rfl rfl rfl ?_
        refine xVF (e_and (q1 rfl) rfl (fun h => by first | rfl | (rw [h]; rfl))) rfl rfl rfl rfl ?_
        refine xV (e_or (q0 rfl) rfl (fun h => by first | rfl | (rw [h]; rfl))) rfl rfl ?_
        refine XN ?_
        refine thenJ_normal ?_
        refine H_cond rfl (fun h3 => ?_) (fun h3 => ?_)
        · refine H_seq ?_
          refine R0 ?_
          refine xV (e_as (v := .int _ _) (q0 rfl)) rfl rfl ?_
          refine XN ?_
          refine thenJ_normal ?_
          refine H_ret ?_
          refine thenJ_ret ?_
          exact ret1 (v := .int _ _) rfl rfl rfl fun w' hw => ⟨ret_int (by unfold evErr; rw [if_neg hf', if_neg h1', if_neg h2', if_pos h3]), hw.1⟩
        · have h3' : ¬ (!within e.bike 0 (f.bikes - 1) || (decide (e.kind = 10) && !decide (e.bike = 0))) = true := by rw [show _ = false from h3]; decide
          refine H_skip ?_
          refine thenJ_normal ?_
          refine H_seq ?_
          refine H_seq ?_
          refine R0 ?_
          refine xV (eS Tryz.isAgg44 Tryz.sizeOf44 (q0 rfl)) rfl rfl ?_
          refine xV (eS Tryz.isAgg24 Tryz.sizeOf24 (q0 rfl)) rfl rfl ?_
          refine xC (en Tryz.call223 (ha2 (q0 rfl) (q0 rfl))) (fun _ w hm => placed_w f a e w (hx.mem hm) hp) rfl rfl ?_
          refine xV (e_not (q0 rfl)) rfl rfl ?_
          refine XN ?_
          refine thenJ_normal ?_
          refine H_cond rfl (fun h4 => ?_) (fun h4 => ?_)
          · refine H_seq ?_
            refine R0 ?_
            refine xV (e_as (v := .int _ _) (q0 rfl)) rfl rfl ?_
            refine XN ?_
            refine thenJ_normal ?_
            refine H_ret ?_
            refine thenJ_ret ?_
            exact ret1 (v := .int _ _) rfl rfl rfl fun w' hw => ⟨ret_int (by unfold evErr; rw [if_neg hf', if_neg h1', if_neg h2', if_neg h3', if_pos (by simpa using h4)]), hw.1⟩
          · have h4' : ¬ placed f e = false := by simpa using h4
            refine H_skip ?_
            refine thenJ_normal ?_
            refine H_seq ?_
            refine H_seq ?_
            refine R0 ?_
            refine xV (eS Tryz.isAgg44 Tryz.sizeOf44 (q0 rfl)) rfl rfl ?_
            refine xV (eS Tryz.isAgg24 Tryz.sizeOf24 (q0 rfl)) rfl rfl ?_
            refine xC (en Tryz.call224 (ha2 (q0 rfl) (q0 rfl))) (fun _ w hm => named_w f a e w hb.2.1) rfl rfl ?_
            refine xV (e_not (q0 rfl)) rfl rfl ?_
            refine XN ?_
            refine thenJ_normal ?_
            refine H_cond rfl (fun h5 => ?_) (fun h5 => ?_)
            · refine H_seq ?_
              refine R0 ?_
              refine xV (e_as (v := .int _ _) (q0 rfl)) rfl rfl ?_
              refine XN ?_
              refine thenJ_normal ?_
              refine H_ret ?_
              refine thenJ_ret ?_
              exact ret1 (v := .int _ _) rfl rfl rfl fun w' hw => ⟨ret_int (by unfold evErr; rw [if_neg hf', if_neg h1', if_neg h2', if_neg h3', if_neg h4', if_pos (by simpa using h5)]), hw.1⟩
            · refine H_skip ?_
              refine thenJ_normal ?_
              refine H_seq ?_
              refine R0 ?_
              refine xV (e_as (v := .int _ _) (q0 rfl)) rfl rfl ?_
              refine XN ?_
              refine thenJ_normal ?_
              refine H_ret ?_
              exact ret1 (v := .int _ _) rfl rfl rfl fun w' hw => ⟨ret_int (by unfold evErr; rw [if_neg hf', if_neg h1', if_neg h2', if_neg h3', if_neg h4', if_neg (by simpa using h5)]), hw.1⟩

end Go.Proofs.Cus

/-
  Plain facts: the order of events; the set of events (no program in sight).
-/
namespace Go.Proofs.Cus
open Go.Sort

deriving instance DecidableEq, Inhabited for Ev

def cmpI (a b : Int) : Int := if a < b then -1 else if b < a then 1 else 0
def lexCmp : List Int → List Int → Int
  | a :: l, b :: r => if cmpI a b ≠ 0 then cmpI a b else lexCmp l r
  | _, _ => 0
def Ev.keys (e : Ev) : List Int := [e.at_, e.device, e.seq, e.late, e.kind, e.bike, e.place, e.rider, e.ride]
def evCmp (a b : Ev) : Int := lexCmp a.keys b.keys
def orI (l : List Int) : Int := (l.find? (fun x => decide (x ≠ 0))).getD 0
def setCmp (a b : Ev) : Int := orI [cmpI a.device b.device, cmpI a.seq b.seq, evCmp a b]
def lexLt : List Int → List Int → Bool
  | a :: l, b :: r => if a ≠ b then decide (a < b) else lexLt l r
  | _, _ => false
def evLess (a b : Ev) : Bool := lexLt a.keys b.keys
def sameNum (a b : Ev) : Bool := [a.device, a.seq] == [b.device, b.seq]

theorem lexLt_irrefl : ∀ l, lexLt l l = false
  | [] => rfl
  | a :: l => by simp [lexLt, lexLt_irrefl l]
theorem lexLt_trans : ∀ {a b c : List Int}, a.length = b.length → b.length = c.length → lexLt a b = true → lexLt b c = true → lexLt a c = true
  | [], [], [], _, _, h, _ => by simp [lexLt] at h
  | x :: a, y :: b, z :: c, h1, h2, h3, h4 => by
    simp only [List.length_cons, Nat.add_right_cancel_iff] at h1 h2
    simp only [lexLt] at h3 h4 ⊢
    by_cases e1 : x = y
    · subst e1
      simp only [ne_eq, not_true, if_false] at h3
      by_cases e2 : x = z
      · subst e2
        simp only [ne_eq, not_true, if_false] at h4 ⊢
        exact lexLt_trans h1 h2 h3 h4
      · simp only [ne_eq, e2, not_false_eq_true, if_true] at h4 ⊢
        exact h4
    · simp only [ne_eq, e1, not_false_eq_true, if_true, decide_eq_true_eq] at h3
      by_cases e2 : y = z
      · subst e2
        simp only [ne_eq, e1, not_false_eq_true, if_true, decide_eq_true_eq]
        exact h3
      · simp only [ne_eq, e2, not_false_eq_true, if_true, decide_eq_true_eq] at h4
        have e3 : x ≠ z := by omega
        simp only [ne_eq, e3, not_false_eq_true, if_true, decide_eq_true_eq]
        omega
  | [], [], _ :: _, _, h, _, _ => by simp at h
  | [], _ :: _, _, h, _, _, _ => by simp at h
  | _ :: _, [], _, h, _, _, _ => by simp at h
  | _ :: _, _ :: _, [], _, h, _, _ => by simp at h
theorem lexLt_total : ∀ {a b : List Int}, a.length = b.length → lexLt a b = false → lexLt b a = false → a = b
  | [], [], _, _, _ => rfl
  | x :: a, y :: b, h1, h2, h3 => by
    simp only [List.length_cons, Nat.add_right_cancel_iff] at h1
    simp only [lexLt] at h2 h3
    by_cases e : x = y
    · subst e
      simp only [ne_eq, not_true, if_false] at h2 h3
      rw [lexLt_total h1 h2 h3]
    · simp only [ne_eq, e, not_false_eq_true, if_true, decide_eq_false_iff_not, Ne.symm e] at h2 h3
      omega
  | [], _ :: _, h, _, _ => by simp at h
  | _ :: _, [], h, _, _ => by simp at h
theorem swo_key {α : Type} (key : α → List Int) (n : Nat) (hn : ∀ x, (key x).length = n) : SWO (fun x y => lexLt (key x) (key y)) where
  irrefl x := lexLt_irrefl _
  trans x y z h1 h2 := lexLt_trans (by rw [hn, hn]) (by rw [hn, hn]) h1 h2
  ntrans x y z h1 h2 := by
    cases h : lexLt (key x) (key z) with
    | false => rfl
    | true =>
      cases h3 : lexLt (key y) (key x) with
      | true =>
        have := lexLt_trans (by rw [hn, hn]) (by rw [hn, hn]) h3 h
        rw [h2] at this; cases this
      | false =>
        have := lexLt_total (by rw [hn, hn]) h1 h3
        rw [this] at h
        rw [h2] at h; cases h
theorem lexCmp_lt : ∀ (a b : List Int), decide (lexCmp a b < 0) = lexLt a b
  | [], [] => rfl
  | [], _ :: _ => rfl
  | _ :: _, [] => rfl
  | x :: a, y :: b => by
    simp only [lexCmp, lexLt, cmpI]
    by_cases h1 : x < y
    · have : x ≠ y := by omega
      simp [h1, this]
    · by_cases h2 : y < x
      · have : x ≠ y := by omega
        simp [h1, h2, this]
      · have : x = y := by omega
        subst this
        simp [lexCmp_lt a b]
def Ev.keys2 (e : Ev) : List Int := e.device :: e.seq :: e.keys
theorem setCmp_lt (a b : Ev) : decide (setCmp a b < 0) = lexLt a.keys2 b.keys2 := by
  have h3 := lexCmp_lt a.keys b.keys
  simp only [setCmp, Ev.keys2, lexLt, orI, evCmp, cmpI]
  by_cases h1 : a.device < b.device
  · have : a.device ≠ b.device := by omega
    simp [h1, this]
  · by_cases h2 : b.device < a.device
    · have : a.device ≠ b.device := by omega
      simp [h1, h2, this]
    · have : a.device = b.device := by omega
      simp only [this, Int.lt_irrefl, if_false, ne_eq, not_true]
      by_cases h4 : a.seq < b.seq
      · have : a.seq ≠ b.seq := by omega
        simp [h4, this]
      · by_cases h5 : b.seq < a.seq
        · have : a.seq ≠ b.seq := by omega
          simp [h4, h5, this]
        · have : a.seq = b.seq := by omega
          simp only [this, Int.lt_irrefl, if_false, ne_eq, not_true]
          rw [← h3]
          by_cases h6 : lexCmp a.keys b.keys = 0 <;> simp [h6]
theorem keys_inj {a b : Ev} (h : a.keys = b.keys) : a = b := by
  cases a; cases b
  simp only [Ev.keys, List.cons.injEq, and_true] at h
  obtain ⟨rfl, rfl, rfl, rfl, rfl, rfl, rfl, rfl, rfl⟩ := h
  rfl
theorem keys2_inj {a b : Ev} (h : a.keys2 = b.keys2) : a = b := keys_inj (by simp only [Ev.keys2, List.cons.injEq] at h; exact h.2.2)

theorem less_irrefl (a : Ev) : evLess a a = false := lexLt_irrefl _
theorem less_trans {a b c : Ev} (h1 : evLess a b = true) (h2 : evLess b c = true) : evLess a c = true := lexLt_trans (a := a.keys) (b := b.keys) (c := c.keys) rfl rfl h1 h2
theorem less_total {a b : Ev} (h1 : evLess a b = false) (h2 : evLess b a = false) : a = b := keys_inj (lexLt_total rfl h1 h2)
theorem less_asymm {a b : Ev} (h1 : evLess a b = true) : evLess b a = false := by
  cases h : evLess b a with
  | false => rfl
  | true => have := less_trans h1 h; rw [less_irrefl] at this; cases this
theorem same_iff {a b : Ev} : sameNum a b = true ↔ a.device = b.device ∧ a.seq = b.seq := by simp [sameNum]
theorem same_refl (a : Ev) : sameNum a a = true := same_iff.2 ⟨rfl, rfl⟩
theorem same_symm {a b : Ev} (h : sameNum a b = true) : sameNum b a = true := by rw [same_iff] at *; omega
theorem same_trans {a b c : Ev} (h : sameNum a b = true) (h2 : sameNum b c = true) : sameNum a c = true := by rw [same_iff] at *; omega
theorem same_comm (a b : Ev) : sameNum a b = sameNum b a := by
  cases h : sameNum a b with
  | true => rw [same_symm h]
  | false => cases h2 : sameNum b a with
    | false => rfl
    | true => rw [same_symm h2] at h; cases h

/-- s is the set of the events of l -/
structure IsSet (l s : List Ev) : Prop where
  sorted : s.Pairwise (fun a b => evLess a b = true)
  mem : ∀ e, e ∈ s ↔ e ∈ l ∧ ∀ e' ∈ l, sameNum e e' = true → evLess e' e = false
theorem strict_unique : ∀ {s t : List Ev}, s.Pairwise (fun a b => evLess a b = true) → t.Pairwise (fun a b => evLess a b = true) → (∀ e, e ∈ s ↔ e ∈ t) → s = t
  | [], [], _, _, _ => rfl
  | [], b :: t, _, _, h => by have := (h b).2 (by simp); simp at this
  | a :: s, [], _, _, h => by have := (h a).1 (by simp); simp at this
  | a :: s, b :: t, hs, ht, h => by
    rw [List.pairwise_cons] at hs ht
    have hab : a = b := by
      have h1 := (h a).1 (by simp)
      have h2 := (h b).2 (by simp)
      rcases List.mem_cons.1 h1 with h1 | h1
      · exact h1
      · rcases List.mem_cons.1 h2 with h2 | h2
        · exact h2.symm
        · have := less_asymm (ht.1 a h1)
          rw [hs.1 b h2] at this; cases this
    subst hab
    congr 1
    refine strict_unique hs.2 ht.2 fun e => ?_
    have he := h e
    simp only [List.mem_cons] at he
    constructor
    · intro hm
      rcases he.1 (.inr hm) with rfl | h3
      · have := hs.1 e hm; rw [less_irrefl] at this; cases this
      · exact h3
    · intro hm
      rcases he.2 (.inr hm) with rfl | h3
      · have := ht.1 e hm; rw [less_irrefl] at this; cases this
      · exact h3
theorem IsSet.unique {l s t : List Ev} (h1 : IsSet l s) (h2 : IsSet l t) : s = t := strict_unique h1.sorted h2.sorted fun e => by rw [h1.mem, h2.mem]
theorem IsSet.congr {l m s : List Ev} (h : IsSet l s) (hm : ∀ e, e ∈ l ↔ e ∈ m) : IsSet m s := ⟨h.sorted, fun e => by rw [h.mem, hm]; simp only [hm]⟩

/-! the program's way -/
def compactGo {α : Type} (eq : α → α → Bool) : α → List α → List α
  | _, [] => []
  | p, y :: ys => if eq y p = true then compactGo eq y ys else y :: compactGo eq y ys
def compactF {α : Type} (eq : α → α → Bool) : List α → List α
  | [] => []
  | x :: xs => x :: compactGo eq x xs
def le1 (a b : Ev) : Bool := !lexLt b.keys2 a.keys2
def le2 (a b : Ev) : Bool := !lexLt b.keys a.keys
def setOf (l : List Ev) : List Ev := (compactF sameNum (l.mergeSort le1)).mergeSort le2

theorem le1_num {a b : Ev} (h : le1 a b = true) : a.device < b.device ∨ (a.device = b.device ∧ a.seq ≤ b.seq) := by
  simp only [le1, Ev.keys2, lexLt, Bool.not_eq_true'] at h
  by_cases h1 : b.device = a.device
  · by_cases h2 : b.seq = a.seq
    · omega
    · simp only [h1, h2, ne_eq, not_true, if_false, not_false_eq_true, if_true, decide_eq_false_iff_not] at h; omega
  · simp only [h1, ne_eq, not_false_eq_true, if_true, decide_eq_false_iff_not] at h; omega
theorem le1_same {a b : Ev} (h : le1 a b = true) (hs : sameNum a b = true) : evLess b a = false := by
  rw [same_iff] at hs
  simpa [le1, Ev.keys2, lexLt, hs.1, hs.2, evLess] using h
theorem mem_compactGo {e : Ev} : ∀ (xs : List Ev) (p : Ev), (p :: xs).Pairwise (fun a b => le1 a b = true) →
    (e ∈ compactGo sameNum p xs ↔ e ∈ xs ∧ sameNum e p = false ∧ ∀ e' ∈ xs, sameNum e e' = true → evLess e' e = false)
  | [], p, _ => by simp [compactGo]
  | y :: ys, p, hp => by
    have hp' := hp
    rw [List.pairwise_cons] at hp
    have hy := hp.2
    rw [List.pairwise_cons] at hy
    have ih := mem_compactGo (e := e) ys y hp.2
    simp only [compactGo]
    by_cases hs : sameNum y p = true
    · rw [if_pos hs, ih]
      constructor
      · rintro ⟨h1, h2, h3⟩
        refine ⟨List.mem_cons_of_mem _ h1, ?_, fun e' he' hse => ?_⟩
        · cases h : sameNum e p with
          | false => rfl
          | true => rw [same_trans h (same_symm hs)] at h2; cases h2
        · rcases List.mem_cons.1 he' with rfl | he'
          · rw [hse] at h2; cases h2
          · exact h3 e' he' hse
      · rintro ⟨h1, h2, h3⟩
        have hne : e ≠ y := fun h => by subst h; rw [hs] at h2; cases h2
        refine ⟨(List.mem_cons.1 h1).resolve_left hne, ?_, fun e' he' => h3 e' (List.mem_cons_of_mem _ he')⟩
        cases h : sameNum e y with
        | false => rfl
        | true => rw [same_trans h hs] at h2; cases h2
    · rw [if_neg hs, List.mem_cons, ih]
      constructor
      · rintro (rfl | ⟨h1, h2, h3⟩)
        · refine ⟨by simp, by simpa using hs, fun e' he' hse => ?_⟩
          rcases List.mem_cons.1 he' with rfl | he'
          · exact less_irrefl _
          · exact le1_same (hy.1 e' he') hse
        · refine ⟨List.mem_cons_of_mem _ h1, ?_, fun e' he' hse => ?_⟩
          · cases h : sameNum e p with
            | false => rfl
            | true =>
              have a1 := le1_num (hp.1 y (by simp))
              have a2 := le1_num (hy.1 e h1)
              rw [same_iff] at h
              exact absurd (same_iff.2 (by omega)) hs
          · rcases List.mem_cons.1 he' with rfl | he'
            · rw [hse] at h2; cases h2
            · exact h3 e' he' hse
      · rintro ⟨h1, h2, h3⟩
        rcases List.mem_cons.1 h1 with h1 | h1
        · exact .inl h1
        · cases h : sameNum e y with
          | false => exact .inr ⟨h1, rfl, fun e' he' => h3 e' (List.mem_cons_of_mem _ he')⟩
          | true => exact .inl (less_total (le1_same (hy.1 e h1) (same_symm h)) (h3 y (by simp) h))
theorem compactGo_apart : ∀ (xs : List Ev) (p : Ev), (p :: xs).Pairwise (fun a b => le1 a b = true) → (compactGo sameNum p xs).Pairwise (fun a b => sameNum b a = false)
  | [], p, _ => by simp [compactGo]
  | y :: ys, p, hp => by
    rw [List.pairwise_cons] at hp
    simp only [compactGo]
    split
    · exact compactGo_apart ys y hp.2
    · refine List.pairwise_cons.2 ⟨fun e he => ((mem_compactGo ys y hp.2).1 he).2.1, compactGo_apart ys y hp.2⟩
theorem le_trans_of {key : Ev → List Int} {n : Nat} (hn : ∀ x, (key x).length = n) (a b c : Ev) (h1 : (!lexLt (key b) (key a)) = true) (h2 : (!lexLt (key c) (key b)) = true) : (!lexLt (key c) (key a)) = true := by
  simp only [Bool.not_eq_true'] at *
  exact (swo_key key n hn).ntrans c b a h2 h1
theorem le_total_of {key : Ev → List Int} {n : Nat} (hn : ∀ x, (key x).length = n) (a b : Ev) : ((!lexLt (key b) (key a)) || (!lexLt (key a) (key b))) = true := by
  cases h : lexLt (key b) (key a) with
  | false => rfl
  | true =>
    cases h2 : lexLt (key a) (key b) with
    | false => rfl
    | true =>
      have := (swo_key key n hn).trans a b a h2 h
      simp only [lexLt_irrefl] at this; cases this
theorem set_isSet (l : List Ev) : IsSet l (setOf l) := by
  have hp1 : (l.mergeSort le1).Perm l := List.mergeSort_perm _ _
  have hs1 : (l.mergeSort le1).Pairwise (fun a b => le1 a b = true) := List.pairwise_mergeSort (le_trans_of (key := Ev.keys2) (n := 11) (fun _ => rfl)) (le_total_of (key := Ev.keys2) (n := 11) (fun _ => rfl)) l
  have hmem : ∀ e, e ∈ compactF sameNum (l.mergeSort le1) ↔ e ∈ l ∧ ∀ e' ∈ l, sameNum e e' = true → evLess e' e = false := by
    intro e
    have hm : ∀ x, x ∈ l ↔ x ∈ l.mergeSort le1 := fun x => (hp1.mem_iff).symm
    simp only [hm]
    revert hs1
    generalize l.mergeSort le1 = s
    intro hs1
    cases s with
    | nil => simp [compactF]
    | cons x xs =>
      simp only [compactF, List.mem_cons, mem_compactGo xs x hs1]
      have hx := (List.pairwise_cons.1 hs1).1
      constructor
      · rintro (rfl | ⟨h1, h2, h3⟩)
        · refine ⟨.inl rfl, fun e' he' hse => ?_⟩
          rcases he' with rfl | he'
          · exact less_irrefl _
          · exact le1_same (hx e' he') hse
        · refine ⟨.inr h1, fun e' he' hse => ?_⟩
          rcases he' with rfl | he'
          · rw [hse] at h2; cases h2
          · exact h3 e' he' hse
      · rintro ⟨h1, h3⟩
        rcases h1 with h1 | h1
        · exact .inl h1
        · cases h : sameNum e x with
          | false => exact .inr ⟨h1, rfl, fun e' he' => h3 e' (.inr he')⟩
          | true => exact .inl (less_total (le1_same (hx e h1) (same_symm h)) (h3 x (.inl rfl) h))
  have hnd : (compactF sameNum (l.mergeSort le1)).Pairwise (fun a b => sameNum b a = false) := by
    cases hs : l.mergeSort le1 with
    | nil => simp [compactF]
    | cons x xs =>
      rw [hs] at hs1
      exact List.pairwise_cons.2 ⟨fun e he => ((mem_compactGo xs x hs1).1 he).2.1, compactGo_apart xs x hs1⟩
  have hp2 : (setOf l).Perm (compactF sameNum (l.mergeSort le1)) := List.mergeSort_perm _ _
  have hs2 : (setOf l).Pairwise (fun a b => le2 a b = true) := List.pairwise_mergeSort (le_trans_of (key := Ev.keys) (n := 9) (fun _ => rfl)) (le_total_of (key := Ev.keys) (n := 9) (fun _ => rfl)) _
  have hnd2 : (setOf l).Pairwise (fun a b => a ≠ b) := by
    have : (compactF sameNum (l.mergeSort le1)).Nodup := hnd.imp fun {a b} h e => by subst e; rw [same_refl] at h; cases h
    exact hp2.nodup_iff.2 this
  refine ⟨(hs2.and hnd2).imp fun {a b} ⟨h1, h2⟩ => ?_, fun e => by rw [hp2.mem_iff, hmem]⟩
  cases h : evLess a b with
  | true => rfl
  | false =>
    have h3 : evLess b a = false := by simpa [le2, evLess] using h1
    exact absurd (less_total h h3) h2

/-! the reference's way -/
def scanStep (s : List Ev × Ev) (x : Ev) : List Ev × Ev := if x.device ≠ s.2.device ∨ x.seq ≠ s.2.seq then (s.1 ++ [x], s.2) else if evLess x s.2 = true then (s.1, x) else s
def withE (l : List Ev) (e : Ev) : List Ev :=
  let s := l.foldl scanStep ([], e)
  s.1.takeWhile (fun x => evLess x s.2) ++ s.2 :: s.1.dropWhile (fun x => evLess x s.2)
def refSet (l : List Ev) : List Ev := l.foldl withE []

theorem scan_fst : ∀ (l : List Ev) (o : List Ev) (e : Ev), (l.foldl scanStep (o, e)).1 = o ++ l.filter (fun x => !sameNum x e) ∧ sameNum (l.foldl scanStep (o, e)).2 e = true ∧ (∀ x ∈ l, sameNum x e = true → evLess x (l.foldl scanStep (o, e)).2 = false) ∧ evLess e (l.foldl scanStep (o, e)).2 = false ∧ ((l.foldl scanStep (o, e)).2 = e ∨ (l.foldl scanStep (o, e)).2 ∈ l)
  | [], o, e => by simp [same_refl, less_irrefl]
  | x :: l, o, e => by
    simp only [List.foldl_cons]
    by_cases h : sameNum x e = true
    · have h' := same_iff.1 h
      by_cases hl : evLess x e = true
      · have hst : scanStep (o, e) x = (o, x) := by simp [scanStep, h'.1, h'.2, hl]
        rw [hst]
        obtain ⟨a1, a2, a3, a4, a5⟩ := scan_fst l o x
        refine ⟨?_, same_trans a2 h, fun y hy hs => ?_, ?_, ?_⟩
        · rw [a1]
          have : (l.filter fun y => !sameNum y x) = l.filter fun y => !sameNum y e := List.filter_congr fun y _ => by
            have : sameNum y x = sameNum y e := by
              cases hq : sameNum y e with
              | true => exact same_trans hq (same_symm h)
              | false => cases hr : sameNum y x with
                | false => rfl
                | true => rw [same_trans hr h] at hq; cases hq
            rw [this]
          simp [h, this]
        · rcases List.mem_cons.1 hy with rfl | hy
          · exact a4
          · exact a3 y hy (same_trans hs (same_symm h))
        · cases hq : evLess e (l.foldl scanStep (o, x)).2 with
          | false => rfl
          | true => rw [less_trans hl hq] at a4; cases a4
        · rcases a5 with a5 | a5
          · exact .inr (by rw [a5]; simp)
          · exact .inr (List.mem_cons_of_mem _ a5)
      · have hst : scanStep (o, e) x = (o, e) := by simp [scanStep, h'.1, h'.2, hl]
        rw [hst]
        obtain ⟨a1, a2, a3, a4, a5⟩ := scan_fst l o e
        refine ⟨by rw [a1]; simp [h], a2, fun y hy hs => ?_, a4, ?_⟩
        · rcases List.mem_cons.1 hy with rfl | hy
          · cases hq : evLess y (l.foldl scanStep (o, e)).2 with
            | false => rfl
            | true =>
              have := (swo_key Ev.keys 9 (fun _ => rfl)).ntrans y e (l.foldl scanStep (o, e)).2 (by simpa [evLess] using hl) a4
              rw [show lexLt y.keys (l.foldl scanStep (o, e)).2.keys = evLess y (l.foldl scanStep (o, e)).2 from rfl, hq] at this
              cases this
          · exact a3 y hy hs
        · rcases a5 with a5 | a5
          · exact .inl a5
          · exact .inr (List.mem_cons_of_mem _ a5)
    · have h' : x.device ≠ e.device ∨ x.seq ≠ e.seq := by
        by_cases hd : x.device = e.device
        · exact .inr fun hs => h (same_iff.2 ⟨hd, hs⟩)
        · exact .inl hd
      have hst : scanStep (o, e) x = (o ++ [x], e) := by simp only [scanStep]; rw [if_pos h']
      rw [hst]
      obtain ⟨a1, a2, a3, a4, a5⟩ := scan_fst l (o ++ [x]) e
      refine ⟨by rw [a1]; simp [h], a2, fun y hy hs => ?_, a4, ?_⟩
      · rcases List.mem_cons.1 hy with rfl | hy
        · exact absurd hs h
        · exact a3 y hy hs
      · rcases a5 with a5 | a5
        · exact .inl a5
        · exact .inr (List.mem_cons_of_mem _ a5)
theorem takeWhile_dropWhile_sorted : ∀ (o : List Ev) (e : Ev), o.Pairwise (fun a b => evLess a b = true) → (∀ x ∈ o, x ≠ e) → (o.takeWhile (fun x => evLess x e) ++ e :: o.dropWhile (fun x => evLess x e)).Pairwise (fun a b => evLess a b = true)
  | [], e, _, _ => by simp
  | x :: o, e, hp, hne => by
    have hp' := hp
    rw [List.pairwise_cons] at hp
    by_cases h : evLess x e = true
    · simp only [List.takeWhile_cons, List.dropWhile_cons, h, if_true, List.cons_append]
      refine List.pairwise_cons.2 ⟨fun y hy => ?_, takeWhile_dropWhile_sorted o e hp.2 (fun y hy => hne y (List.mem_cons_of_mem _ hy))⟩
      simp only [List.mem_append, List.mem_cons] at hy
      rcases hy with hy | rfl | hy
      · exact hp.1 y ((List.takeWhile_sublist _).mem hy)
      · exact h
      · exact hp.1 y ((List.dropWhile_sublist _).mem hy)
    · simp only [List.takeWhile_cons, List.dropWhile_cons, h, List.nil_append]
      have hex : evLess e x = true := by
        cases hq : evLess e x with
        | true => rfl
        | false => exact absurd (less_total (by simpa using h) hq) (hne x (by simp))
      refine List.pairwise_cons.2 ⟨fun y hy => ?_, hp'⟩
      rcases List.mem_cons.1 hy with rfl | hy
      · exact hex
      · exact less_trans hex (hp.1 y hy)
theorem with_isSet {m l : List Ev} (h : IsSet m l) (e : Ev) : IsSet (m ++ [e]) (withE l e) := by
  obtain ⟨a1, a2, a3, a4, a5⟩ := scan_fst l [] e
  simp only [withE]
  revert a1 a2 a3 a4 a5
  generalize l.foldl scanStep ([], e) = s
  obtain ⟨o, x⟩ := s
  intro a1 a2 a3 a4 a5
  simp only [List.nil_append] at a1 a2 a3 a4 a5 ⊢
  subst a1
  have hne : ∀ y ∈ l.filter (fun x => !sameNum x e), y ≠ x := fun y hy hyx => by
    subst hyx
    simp [a2] at hy
  refine ⟨takeWhile_dropWhile_sorted _ _ (h.sorted.filter _) hne, fun y => ?_⟩
  have hmem : (y ∈ (l.filter fun x => !sameNum x e).takeWhile (fun z => evLess z x) ++ x :: (l.filter fun x => !sameNum x e).dropWhile (fun z => evLess z x)) ↔ (y ∈ l ∧ sameNum y e = false) ∨ y = x := by
    have h1 : ∀ (p : Ev → Bool) (o : List Ev), y ∈ o.takeWhile p ∨ y ∈ o.dropWhile p ↔ y ∈ o := fun p o => by
      rw [← List.mem_append, List.takeWhile_append_dropWhile]
    have := h1 (fun z => evLess z x) (l.filter fun x => !sameNum x e)
    simp only [List.mem_filter, Bool.not_eq_true'] at this
    simp only [List.mem_append, List.mem_cons]
    constructor
    · rintro (h | h | h)
      · exact .inl (this.1 (.inl h))
      · exact .inr h
      · exact .inl (this.1 (.inr h))
    · rintro (h | h)
      · rcases this.2 h with h | h
        · exact .inl h
        · exact .inr (.inr h)
      · exact .inr (.inl h)
  rw [hmem]
  simp only [List.mem_append, List.mem_singleton, h.mem]
  constructor
  · rintro (⟨⟨h1, h2⟩, h3⟩ | rfl)
    · refine ⟨.inl h1, fun e' he' hs => ?_⟩
      rcases he' with he' | rfl
      · exact h2 e' he' hs
      · rw [hs] at h3; cases h3
    · refine ⟨?_, fun e' he' hs => ?_⟩
      · rcases a5 with a5 | a5
        · exact .inr a5
        · exact .inl ((h.mem y).1 a5).1
      · rcases he' with he' | rfl
        · -- the least of m with this number lies in l
          have hse : sameNum e' e = true := same_trans (same_symm hs) a2
          -- take the element of l below e'
          have key : ∃ q ∈ l, sameNum q e' = true ∧ evLess e' q = false := by
            have : ∀ (n : Nat) (z : Ev), z ∈ m → sameNum z e' = true → evLess e' z = false → (m.filter fun q => evLess q z).length ≤ n → ∃ q ∈ l, sameNum q e' = true ∧ evLess e' q = false := by
              intro n
              induction n with
              | zero =>
                intro z hz hzs hzl hn
                refine ⟨z, (h.mem z).2 ⟨hz, fun e2 he2 hs2 => ?_⟩, hzs, hzl⟩
                cases hq : evLess e2 z with
                | false => rfl
                | true =>
                  have : e2 ∈ m.filter fun q => evLess q z := List.mem_filter.2 ⟨he2, hq⟩
                  rw [List.eq_nil_of_length_eq_zero (Nat.le_zero.1 hn)] at this
                  cases this
              | succ n ih =>
                intro z hz hzs hzl hn
                by_cases hex : ∃ e2 ∈ m, sameNum z e2 = true ∧ evLess e2 z = true
                · obtain ⟨e2, he2, hs2, hl2⟩ := hex
                  refine ih e2 he2 (same_trans (same_symm hs2) hzs) ?_ ?_
                  · cases hq : evLess e' e2 with
                    | false => rfl
                    | true => rw [less_trans hq hl2] at hzl; cases hzl
                  · have hlt : (m.filter fun q => evLess q e2).length < (m.filter fun q => evLess q z).length := by
                      have hsub : (m.filter fun q => evLess q e2) = (m.filter fun q => evLess q z).filter fun q => evLess q e2 := by
                        rw [List.filter_filter]
                        refine List.filter_congr fun q _ => ?_
                        cases hq : evLess q e2 with
                        | false => simp
                        | true => simp [less_trans hq hl2]
                      rw [hsub]
                      exact List.length_filter_lt_length_iff_exists.2 ⟨e2, List.mem_filter.2 ⟨he2, hl2⟩, by rw [less_irrefl]; decide⟩
                    omega
                · refine ⟨z, (h.mem z).2 ⟨hz, fun e2 he2 hs2 => ?_⟩, hzs, hzl⟩
                  cases hq : evLess e2 z with
                  | false => rfl
                  | true => exact absurd ⟨e2, he2, hs2, hq⟩ hex
            exact this _ e' he' (same_refl _) (less_irrefl _) (Nat.le_refl _)
          obtain ⟨q, hq, hqs, hql⟩ := key
          have h1 := a3 q hq (same_trans hqs hse)
          cases h2 : evLess e' y with
          | false => rfl
          | true =>
            have := (swo_key Ev.keys 9 (fun _ => rfl)).ntrans e' q y hql h1
            rw [show lexLt e'.keys y.keys = evLess e' y from rfl, h2] at this
            cases this
        · exact a4
  · rintro ⟨h1, h2⟩
    cases hs : sameNum y e with
    | false =>
      rcases h1 with h1 | rfl
      · exact .inl ⟨⟨h1, fun e' he' => h2 e' (.inl he')⟩, rfl⟩
      · rw [same_refl] at hs; cases hs
    | true =>
      refine .inr (less_total ?_ ?_)
      · rcases h1 with h1 | rfl
        · exact a3 y ((h.mem y).2 ⟨h1, fun e' he' => h2 e' (.inl he')⟩) hs
        · exact a4
      · rcases a5 with rfl | a5
        · exact h2 x (.inr rfl) hs
        · exact h2 x (.inl ((h.mem x).1 a5).1) (same_trans hs (same_symm a2))
theorem refSet_isSet (l : List Ev) : IsSet l (refSet l) := by
  have : ∀ (l m s : List Ev), IsSet m s → IsSet (m ++ l) (l.foldl withE s) := by
    intro l
    induction l with
    | nil => intro m s h; simpa using h
    | cons x l ih =>
      intro m s h
      have := ih (m ++ [x]) (withE s x) (with_isSet h x)
      simpa using this
  have := this l [] [] ⟨by simp, by simp⟩
  simpa [refSet] using this
theorem refSet_eq (l : List Ev) : refSet l = setOf l := (refSet_isSet l).unique (set_isSet l)

end Go.Proofs.Cus

/-
  The walks: the order of events.
-/
namespace Go.Proofs.Cus
open Go Go.RowKit Go.Proofs.E

theorem lexCmp_drop {l r : List Int} {k : Nat} {x y : Int} (hx : l[k]? = some x) (hy : r[k]? = some y) : lexCmp (l.drop k) (r.drop k) = if cmpI x y ≠ 0 then cmpI x y else lexCmp (l.drop (k + 1)) (r.drop (k + 1)) := by
  obtain ⟨h1, h2⟩ := List.getElem?_eq_some_iff.1 hx
  obtain ⟨h3, h4⟩ := List.getElem?_eq_some_iff.1 hy
  rw [List.drop_eq_getElem_cons h1, List.drop_eq_getElem_cons h3, h2, h4]
  rfl

theorem isNaN_w (n : Int) (w : World) : Calls Tryz.prog 142 #[.int .i64 n] w fun e w' => e = .returned (.bool false) ∧ Bel w w' := by
  refine H_enter Tryz.func142 rfl Tryz.ntmps142 rfl ?_
  refine H_seq ?_
  refine R0 ?_
  refine xV (e_as (v := .bool _) (q0 rfl)) rfl rfl ?_
  refine XN ?_
  refine thenJ_normal ?_
  refine H_seq ?_
  refine R0 ?_
  refine xV (e_mv (v := .int _ _) (q0 rfl)) rfl rfl ?_
  refine xV (e_mv (v := .int _ _) (q0 rfl)) rfl rfl ?_
  refine xV (e_ne (q0 rfl) (q0 rfl)) rfl rfl ?_
  refine xV (e_as (v := .bool _) (q0 rfl)) rfl rfl ?_
  refine XN ?_
  refine thenJ_normal ?_
  refine H_ret ?_
  exact ret1 (v := .bool _) rfl rfl rfl fun w' hw => ⟨ret_bool (by simp), hw.1⟩
theorem compare_w (a b : Int) (w : World) : Calls Tryz.prog 105 #[.int .i64 a, .int .i64 b] w fun e w' => e = .returned (.int .i64 (cmpI a b)) ∧ Bel w w' := by
  refine H_enter Tryz.func105 rfl Tryz.ntmps105 rfl ?_
  refine H_seq ?_
  refine R0 ?_
  refine xV (e_as (v := .int _ _) (q0 rfl)) rfl rfl ?_
  refine XN ?_
  refine thenJ_normal ?_
  refine H_seq ?_
  refine R0 ?_
  refine xV (e_mv (v := .int _ _) (q0 rfl)) rfl rfl ?_
  refine xC (en Tryz.call142 (ha1 (q0 rfl))) (fun _ w _ => isNaN_w a w) rfl rfl ?_
  refine xV (e_as (v := .bool _) (q0 rfl)) rfl rfl ?_
  refine XN ?_
  refine thenJ_normal ?_
  refine H_seq ?_
  refine R0 ?_
  refine xV (e_mv (v := .int _ _) (q0 rfl)) rfl rfl ?_
  refine xC (en Tryz.call142 (ha1 (q0 rfl))) (fun _ w _ => isNaN_w b w) rfl rfl ?_
  refine xV (e_as (v := .bool _) (q0 rfl)) rfl rfl ?_
  refine XN ?_
  refine thenJ_normal ?_
  refine H_seq ?_
  refine H_seq ?_
  refine R0 ?_
  refine xV (e_mv (v := .bool _) (q0 rfl)) rfl rfl ?_
  refine XN ?_
  refine thenJ_normal ?_
  refine H_cond rfl (fun h1 => ?_) (fun h1 => ?_)
  · cases h1
  · refine H_skip ?_
    refine thenJ_normal ?_
    refine H_seq ?_
    refine H_seq ?_
    refine R0 ?_
    refine xV (e_mv (v := .bool _) (q0 rfl)) rfl rfl ?_
    refine XN ?_
    refine thenJ_normal ?_
    refine H_cond rfl (fun h2 => ?_) (fun h2 => ?_)
    · cases h2
    · refine H_skip ?_
      refine thenJ_normal ?_
      refine H_seq ?_
      refine H_seq ?_
      refine R0 ?_
      refine xV (e_mv (v := .int _ _) (q0 rfl)) rfl rfl ?_
      refine xV (e_mv (v := .int _ _) (q0 rfl)) rfl rfl ?_
      refine xV (e_lt (q0 rfl) (q0 rfl)) rfl rfl ?_
      refine XN ?_
      refine thenJ_normal ?_
      refine H_cond rfl (fun h3 => ?_) (fun h3 => ?_)
      · refine H_seq ?_
        refine R0 ?_
        refine xV (e_as (v := .int _ _) (q0 rfl)) rfl rfl ?_
        refine XN ?_
        refine thenJ_normal ?_
        refine H_ret ?_
        refine thenJ_ret ?_
        exact ret1 (v := .int _ _) rfl rfl rfl fun w' hw => ⟨ret_int (by unfold cmpI; rw [if_pos (by simpa using h3)]), hw.1⟩
      · refine H_skip ?_
        refine thenJ_normal ?_
        refine H_seq ?_
        refine H_seq ?_
        refine R0 ?_
        refine xV (e_mv (v := .int _ _) (q0 rfl)) rfl rfl ?_
        refine xV (e_mv (v := .int _ _) (q0 rfl)) rfl rfl ?_
        refine xV (e_gt (q0 rfl) (q0 rfl)) rfl rfl ?_
        refine XN ?_
        refine thenJ_normal ?_
        refine H_cond rfl (fun h4 => ?_) (fun h4 => ?_)
        · refine H_seq ?_
          refine R0 ?_
          refine xV (e_as (v := .int _ _) (q0 rfl)) rfl rfl ?_
          refine XN ?_
          refine thenJ_normal ?_
          refine H_ret ?_
          refine thenJ_ret ?_
          exact ret1 (v := .int _ _) rfl rfl rfl fun w' hw => ⟨ret_int (by unfold cmpI; rw [if_neg (by simpa using h3), if_pos (by simpa using h4)]), hw.1⟩
        · refine H_skip ?_
          refine thenJ_normal ?_
          refine H_seq ?_
          refine R0 ?_
          refine xV (e_as (v := .int _ _) (q0 rfl)) rfl rfl ?_
          refine XN ?_
          refine thenJ_normal ?_
          refine H_ret ?_
          exact ret1 (v := .int _ _) rfl rfl rfl fun w' hw => ⟨ret_int (by unfold cmpI; rw [if_neg (by simpa using h3), if_neg (by simpa using h4)]), hw.1⟩
theorem or_w (A : Option Addr) (n c : Nat) (xs : List Int) (w : World) (hx : IntsAt w A n xs) : Calls Tryz.prog 104 #[.slice A n c] w fun e w' => e = .returned (.int .i64 (orI xs)) ∧ Bel w w' := by
  have hl := hx.1
  have hn := hx.2.1
  refine H_enter Tryz.func104 rfl Tryz.ntmps104 rfl ?_
  refine H_seq ?_
  refine R0 ?_
  refine xV (e_as (v := .int _ _) (q0 rfl)) rfl rfl ?_
  refine XN ?_
  refine thenJ_normal ?_
  refine H_seq ?_
  refine R0 ?_
  refine xV (e_as (v := .int _ _) (q0 rfl)) rfl rfl ?_
  refine XN ?_
  refine thenJ_normal ?_
  refine H_seq ?_
  refine H_seq ?_
  refine R0 ?_
  refine xV (e_mv (v := .slice _ _ _) (q0 rfl)) rfl rfl ?_
  refine xV (e_len Tryz.underlying42 (q0 rfl)) rfl rfl ?_
  refine xV (e_mv (v := .int _ _) (q0 rfl)) rfl rfl ?_
  refine XN ?_
  refine thenJ_normal ?_
  refine H_block ?_
  refine H_loop [2, 5, 8, 9, 10, 11, 12, 13, 14, 15, 16] (fun k : Nat => [(8, .int .i64 k)]) (fun _ => _) (fun k => k ≤ n ∧ (xs.take k).find? (fun x => decide (x ≠ 0)) = none) (fun k => n - k) 0 ⟨rfl, trivial⟩ (fun _ h => h) rfl ⟨Nat.zero_le _, rfl⟩ ?_
  rintro k g ⟨hk, hno⟩
  refine H_seq ?_
  refine R0 ?_
  refine xV (e_lt (q0 rfl) (q0 rfl)) rfl rfl ?_
  refine XN ?_
  refine thenJ_normal ?_
  refine H_seq ?_
  refine H_cond rfl (fun hlt => ?_) (fun hlt => ?_)
  · simp at hlt
    obtain ⟨b, off, x, rfl, hbl, hxk, hrx⟩ := hx.at_ hlt
    refine H_skip ?_
    refine thenJ_normal ?_
    refine H_seq ?_
    refine H_block ?_
    refine H_seq ?_
    refine R0 ?_
    refine xV (e_idx _ Tryz.underlying42 Tryz.sizeOf3 (q0 rfl) (q0 rfl) (fun _ => ⟨rfl, by omega⟩)) rfl rfl ?_
    refine xV (eL Tryz.isAgg3 (q0 rfl)) rfl rfl ?_
    refine xV (e_as (v := .int _ _) (q0 rfl)) rfl rfl ?_
    refine XN ?_
    refine thenJ_normal ?_
    refine H_seq ?_
    refine R0 ?_
    refine xV (e_mv (v := .int _ _) (q0 rfl)) rfl rfl ?_
    refine xV (e_mv (v := .int _ _) (q0 rfl)) rfl rfl ?_
    refine xV (e_ne (q0 rfl) (q0 rfl)) rfl rfl ?_
    refine XN ?_
    refine thenJ_normal ?_
    refine H_cond rfl (fun h0 => ?_) (fun h0 => ?_)
    · refine H_seq ?_
      refine R0 ?_
      refine xV (e_mv (v := .int _ _) (q0 rfl)) rfl rfl ?_
      refine xV (e_as (v := .int _ _) (q0 rfl)) rfl rfl ?_
      refine XN ?_
      refine thenJ_normal ?_
      refine H_ret ?_
      refine blockJ_ret ?_
      refine thenJ_ret ?_
      refine loopJ_ret ?_
      refine blockJ_ret ?_
      refine thenJ_ret ?_
      exact ret1 (v := .int _ _) rfl rfl rfl fun w' hw => ⟨ret_int (by
        unfold orI
        have h0' : x ≠ 0 := by simpa using h0
        rw [← List.take_append_drop k xs, List.find?_append, hno]
        obtain ⟨q1, q2⟩ := List.getElem?_eq_some_iff.1 hxk
        rw [List.drop_eq_getElem_cons q1, q2]
        simp [h0']), hw.1⟩
    · refine H_skip ?_
      refine blockJ_normal ?_
      refine thenJ_normal ?_
      refine R0 ?_
      refine xV (e_add (q0 rfl) (q0 rfl) (fun _ => ⟨rfl, by omega, by omega⟩)) rfl rfl ?_
      refine xV (e_mv (v := .int _ _) (q0 rfl)) rfl rfl ?_
      refine XN ?_
      exact loopJ_normal (k + 1) (by repeat (first | exact agree_self | exact agree_over | refine agree_upd rfl ?_ | refine agree_updL rfl ?_ | refine agree_over2 rfl ?_)) ⟨rfl, trivial⟩ (fun _ h => h) rfl ⟨by omega, by rw [take_snoc _ _ _ hxk, List.find?_append, hno]; simp at h0; simp [h0]⟩ (by show n - (k + 1) < n - k; omega)
  · obtain rfl : k = n := by simp at hlt; omega
    refine H_exit ?_
    refine thenJ_exit ?_
    refine loopJ_exit ?_
    refine blockJ_hit ?_
    refine thenJ_normal ?_
    refine H_seq ?_
    refine R0 ?_
    refine xV (e_mv (v := .int _ _) (q0 rfl)) rfl rfl ?_
    refine xV (e_as (v := .int _ _) (q0 rfl)) rfl rfl ?_
    refine XN ?_
    refine thenJ_normal ?_
    refine H_ret ?_
    exact ret1 (v := .int _ _) rfl rfl rfl fun w' hw => ⟨ret_int (by unfold orI; rw [List.take_of_length_le (by omega)] at hno; rw [hno]; rfl), hw.1⟩

def keyCells (e : Ev) : List Value := e.keys.map (.int .i64)
theorem keyCells_at {e : Ev} {k : Nat} {x : Int} (h : e.keys[k]? = some x) : (keyCells e)[0 + k * 1]? = some (.int .i64 x) := by
  unfold keyCells; simp [h]
attribute [local irreducible] cmpI lexCmp

theorem evCmp_w (a b : Ev) (w : World) : Calls Tryz.prog 219 #[.agg a.cells.toArray, .agg b.cells.toArray] w fun e w' => e = .returned (.int .i64 (evCmp a b)) ∧ Bel w w' := by
  refine H_enter Tryz.func219 rfl Tryz.ntmps219 rfl ?_
  refine H_seq ?_
  refine R0 ?_
  refine X_box (v := .agg _) rfl rfl fun b2 => ?_
  refine X_box (v := .agg _) rfl rfl fun b3 => ?_
  refine xV (e_as (v := .int _ _) (q0 rfl)) rfl rfl ?_
  refine XN ?_
  refine thenJ_normal ?_
  refine H_seq ?_
  refine R0 ?_
  refine xV (e_fld Tryz.underlying24 rfl Tryz.sizeOf3 rfl (q0 rfl)) rfl rfl ?_
  refine xV (eL Tryz.isAgg3 (q0 rfl)) rfl rfl ?_
  refine xV (e_fld Tryz.underlying24 rfl Tryz.sizeOf3 rfl (q0 rfl)) rfl rfl ?_
  refine xV (eL Tryz.isAgg3 (q0 rfl)) rfl rfl ?_
  refine xV (e_fld Tryz.underlying24 rfl Tryz.sizeOf3 rfl (q0 rfl)) rfl rfl ?_
  refine xV (eL Tryz.isAgg3 (q0 rfl)) rfl rfl ?_
  refine xV (e_fld Tryz.underlying24 rfl Tryz.sizeOf3 rfl (q0 rfl)) rfl rfl ?_
  refine xV (eL Tryz.isAgg3 (q0 rfl)) rfl rfl ?_
  refine xV (e_fld Tryz.underlying24 rfl Tryz.sizeOf3 rfl (q0 rfl)) rfl rfl ?_
  refine xV (eL Tryz.isAgg3 (q0 rfl)) rfl rfl ?_
  refine xV (e_fld Tryz.underlying24 rfl Tryz.sizeOf3 rfl (q0 rfl)) rfl rfl ?_
  refine xV (eL Tryz.isAgg3 (q0 rfl)) rfl rfl ?_
  refine xV (e_fld Tryz.underlying24 rfl Tryz.sizeOf3 rfl (q0 rfl)) rfl rfl ?_
  refine xV (eL Tryz.isAgg3 (q0 rfl)) rfl rfl ?_
  refine xV (e_fld Tryz.underlying24 rfl Tryz.sizeOf3 rfl (q0 rfl)) rfl rfl ?_
  refine xV (eL Tryz.isAgg3 (q0 rfl)) rfl rfl ?_
  refine xV (e_fld Tryz.underlying24 rfl Tryz.sizeOf3 rfl (q0 rfl)) rfl rfl ?_
  refine xV (eL Tryz.isAgg3 (q0 rfl)) rfl rfl ?_
  refine xV (e_buildA Tryz.underlying443 Tryz.sizeOf3 Tryz.zeroValue443 (pt (v := .int _ _) rfl (pt (v := .int _ _) rfl (pt (v := .int _ _) rfl (pt (v := .int _ _) rfl (pt (v := .int _ _) rfl (pt (v := .int _ _) rfl (pt (v := .int _ _) rfl (pt (v := .int _ _) rfl (pt (v := .int _ _) rfl E.p0))))))))) rfl) rfl rfl ?_
  refine X_alloc Tryz.zeroValue443 rfl fun b5 => ?_
  refine X_st (v := .agg _) rfl rfl Tryz.sizeOf443 ?_
  refine XN ?_
  refine thenJ_normal ?_
  refine H_seq ?_
  refine R0 ?_
  refine xV (e_fld Tryz.underlying24 rfl Tryz.sizeOf3 rfl (q0 rfl)) rfl rfl ?_
  refine xV (eL Tryz.isAgg3 (q0 rfl)) rfl rfl ?_
  refine xV (e_fld Tryz.underlying24 rfl Tryz.sizeOf3 rfl (q0 rfl)) rfl rfl ?_
  refine xV (eL Tryz.isAgg3 (q0 rfl)) rfl rfl ?_
  refine xV (e_fld Tryz.underlying24 rfl Tryz.sizeOf3 rfl (q0 rfl)) rfl rfl ?_
  refine xV (eL Tryz.isAgg3 (q0 rfl)) rfl rfl ?_
  refine xV (e_fld Tryz.underlying24 rfl Tryz.sizeOf3 rfl (q0 rfl)) rfl rfl ?_
  refine xV (eL Tryz.isAgg3 (q0 rfl)) rfl rfl ?_
  refine xV (e_fld Tryz.underlying24 rfl Tryz.sizeOf3 rfl (q0 rfl)) rfl rfl ?_
  refine xV (eL Tryz.isAgg3 (q0 rfl)) rfl rfl ?_
  refine xV (e_fld Tryz.underlying24 rfl Tryz.sizeOf3 rfl (q0 rfl)) rfl rfl ?_
  refine xV (eL Tryz.isAgg3 (q0 rfl)) rfl rfl ?_
  refine xV (e_fld Tryz.underlying24 rfl Tryz.sizeOf3 rfl (q0 rfl)) rfl rfl ?_
  refine xV (eL Tryz.isAgg3 (q0 rfl)) rfl rfl ?_
  refine xV (e_fld Tryz.underlying24 rfl Tryz.sizeOf3 rfl (q0 rfl)) rfl rfl ?_
  refine xV (eL Tryz.isAgg3 (q0 rfl)) rfl rfl ?_
  refine xV (e_fld Tryz.underlying24 rfl Tryz.sizeOf3 rfl (q0 rfl)) rfl rfl ?_
  refine xV (eL Tryz.isAgg3 (q0 rfl)) rfl rfl ?_
  refine xV (e_buildA Tryz.underlying443 Tryz.sizeOf3 Tryz.zeroValue443 (pt (v := .int _ _) rfl (pt (v := .int _ _) rfl (pt (v := .int _ _) rfl (pt (v := .int _ _) rfl (pt (v := .int _ _) rfl (pt (v := .int _ _) rfl (pt (v := .int _ _) rfl (pt (v := .int _ _) rfl (pt (v := .int _ _) rfl E.p0))))))))) rfl) rfl rfl ?_
  refine X_alloc Tryz.zeroValue443 rfl fun b6 => ?_
  refine X_st (v := .agg _) rfl rfl Tryz.sizeOf443 ?_
  refine XN ?_
  refine thenJ_normal ?_
  refine H_seq ?_
  refine H_seq ?_
  refine R0 ?_
  refine xV (e_mv (v := .int _ _) (q0 rfl)) rfl rfl ?_
  refine XN ?_
  refine thenJ_normal ?_
  refine H_block ?_
  refine H_loop [4, 7, 8, 47, 48, 49, 50, 51, 52, 53, 54, 55, 56, 57, 58, 59, 60] (fun k : Nat => [(47, .int .i64 k)]) (fun _ => [box b6 443 (keyCells b), box b5 443 (keyCells a)]) (fun k => k ≤ 9 ∧ evCmp a b = lexCmp (a.keys.drop k) (b.keys.drop k)) (fun k => 9 - k) 0 ⟨rfl, trivial⟩ (fun w hw => hw.pick [0, 1] (by decide)) rfl ⟨Nat.zero_le _, rfl⟩ ?_
  rintro k g ⟨hk, hev⟩
  refine H_seq ?_
  refine R0 ?_
  refine xV (e_lt (q0 rfl) (q0 rfl)) rfl rfl ?_
  refine XN ?_
  refine thenJ_normal ?_
  refine H_seq ?_
  refine H_cond rfl (fun hlt => ?_) (fun hlt => ?_)
  · simp at hlt
    obtain ⟨x, hx⟩ : ∃ x, a.keys[k]? = some x := ⟨_, List.getElem?_eq_getElem (by show k < 9; omega)⟩
    obtain ⟨y, hy⟩ : ∃ y, b.keys[k]? = some y := ⟨_, List.getElem?_eq_getElem (by show k < 9; omega)⟩
    have hd := lexCmp_drop hx hy
    refine H_skip ?_
    refine thenJ_normal ?_
    refine H_seq ?_
    refine H_block ?_
    refine H_seq ?_
    refine R0 ?_
    refine xV (e_mv (v := .int _ _) (q0 rfl)) rfl rfl ?_
    refine xV (e_as (v := .int _ _) (q0 rfl)) rfl rfl ?_
    refine XN ?_
    refine thenJ_normal ?_
    refine H_seq ?_
    refine R1 rfl (by decide +kernel) ?_
    refine xV (e_mv (v := .int _ _) (q0 rfl)) rfl rfl ?_
    refine xV (e_idxA _ Tryz.underlying443 Tryz.sizeOf3 (q0 rfl) (q0 rfl) (fun _ => ⟨rfl, by omega⟩)) rfl rfl ?_
    refine xV (e_ld Tryz.isAgg3 (q0 rfl) (bx 1 rfl (keyCells_at hx))) rfl rfl ?_
    refine xV (e_mv (v := .int _ _) (q0 rfl)) rfl rfl ?_
    refine xV (e_idxA _ Tryz.underlying443 Tryz.sizeOf3 (q0 rfl) (q0 rfl) (fun _ => ⟨rfl, by omega⟩)) rfl rfl ?_
    refine xV (e_ld Tryz.isAgg3 (q0 rfl) (bx 0 rfl (keyCells_at hy))) rfl rfl ?_
    refine xC (en Tryz.call105 (ha2 (q0 rfl) (q0 rfl))) (fun _ w _ => compare_w x y w) rfl rfl ?_
    refine xV (e_as (v := .int _ _) (q0 rfl)) rfl rfl ?_
    refine XN ?_
    refine thenJ_normal ?_
    refine H_seq ?_
    refine R0 ?_
    refine xV (e_mv (v := .int _ _) (q0 rfl)) rfl rfl ?_
    refine xV (e_ne (q0 rfl) (q0 rfl)) rfl rfl ?_
    refine XN ?_
    refine thenJ_normal ?_
    refine H_cond rfl (fun hc => ?_) (fun hc => ?_)
    · refine H_seq ?_
      refine R0 ?_
      refine xV (e_mv (v := .int _ _) (q0 rfl)) rfl rfl ?_
      refine xV (e_as (v := .int _ _) (q0 rfl)) rfl rfl ?_
      refine XN ?_
      refine thenJ_normal ?_
      refine H_ret ?_
      refine blockJ_ret ?_
      refine thenJ_ret ?_
      refine loopJ_ret ?_
      refine blockJ_ret ?_
      refine thenJ_ret ?_
      exact ret1 (v := .int _ _) rfl rfl rfl fun w' hw => ⟨ret_int (by rw [hev, hd, if_pos (by simpa using hc)]), hw.1⟩
    · refine H_skip ?_
      refine blockJ_normal ?_
      refine thenJ_normal ?_
      refine R0 ?_
      refine xV (e_add (q0 rfl) (q0 rfl) (fun _ => ⟨rfl, by omega, by omega⟩)) rfl rfl ?_
      refine xV (e_mv (v := .int _ _) (q0 rfl)) rfl rfl ?_
      refine XN ?_
      exact loopJ_normal (k + 1) (by repeat (first | exact agree_self | exact agree_over | refine agree_upd rfl ?_ | refine agree_updL rfl ?_ | refine agree_over2 rfl ?_)) ⟨rfl, trivial⟩ (fun _ h => h) rfl ⟨by omega, by rw [hev, hd, if_neg (by simpa using hc)]⟩ (by show 9 - (k + 1) < 9 - k; omega)
  · obtain rfl : k = 9 := by simp at hlt; omega
    refine H_exit ?_
    refine thenJ_exit ?_
    refine loopJ_exit ?_
    refine blockJ_hit ?_
    refine thenJ_normal ?_
    refine H_seq ?_
    refine R0 ?_
    refine xV (e_as (v := .int _ _) (q0 rfl)) rfl rfl ?_
    refine XN ?_
    refine thenJ_normal ?_
    refine H_ret ?_
    exact ret1 (v := .int _ _) rfl rfl rfl fun w' hw => ⟨ret_int (by rw [hev]; unfold lexCmp; rfl), hw.1⟩

end Go.Proofs.Cus

/-
  The walks: numbers of events; the order in which the set is made; the reference's order.
-/
namespace Go.Proofs.Cus
open Go Go.RowKit Go.Proofs.E

theorem fl381 {fs : Array Field} (h : Tryz.prog.underlying 381 = some (.struct fs) := by exact Tryz.underlying381) : FieldsLie Tryz.prog fs [(0, 1), (1, 1)] := by
  rw [Tryz.underlying381] at h
  cases h
  intro w
  kernel_rfl
theorem eq381 (xs ys : List Int) (w : World) (hx : xs.length = 2 := by rfl) (hy : ys.length = 2 := by rfl) : (Op.equal 381 (.agg (intCells xs).toArray) (.agg (intCells ys).toArray)).run Tryz.prog w = .ok (xs == ys) w :=
  run_equal_ints w xs ys (by omega) Tryz.underlying381 (by kernel_rfl) ⟨by decide, rfl, Tryz.isAgg3, ⟨_, Tryz.underlying3⟩, by decide, rfl, Tryz.isAgg3, ⟨_, Tryz.underlying3⟩, trivial⟩ (by rw [hx]; rfl)

theorem number_w (e : Ev) (w : World) : Calls Tryz.prog 222 #[.agg e.cells.toArray] w fun r w' => r = .returned (.agg (intCells [e.device, e.seq]).toArray) ∧ Bel w w' := by
  refine H_enter Tryz.func222 rfl Tryz.ntmps222 rfl ?_
  refine H_seq ?_
  refine R0 ?_
  refine X_box (v := .agg _) rfl rfl fun b1 => ?_
  refine X_alloc Tryz.zeroValue381 rfl fun b2 => ?_
  refine XN ?_
  refine thenJ_normal ?_
  refine H_seq ?_
  refine R0 ?_
  refine xV (e_fld Tryz.underlying24 rfl Tryz.sizeOf3 rfl (q0 rfl)) rfl rfl ?_
  refine xV (eL Tryz.isAgg3 (q0 rfl)) rfl rfl ?_
  refine xV (e_fld Tryz.underlying24 rfl Tryz.sizeOf3 rfl (q0 rfl)) rfl rfl ?_
  refine xV (eL Tryz.isAgg3 (q0 rfl)) rfl rfl ?_
  refine xV (e_build Tryz.underlying381 fl381 Tryz.zeroValue381 (pt (v := .int _ _) rfl (pt (v := .int _ _) rfl E.p0)) rfl) rfl rfl ?_
  refine X_st (v := .agg _) rfl rfl Tryz.sizeOf381 ?_
  refine XN ?_
  refine thenJ_normal ?_
  refine H_ret ?_
  exact ret_of rfl (resc1 0 rfl rfl Tryz.isAgg381 Tryz.sizeOf381 rfl rfl) fun w' hw => ⟨rfl, hw.1⟩
theorem set2_w (a b : Ev) (w : World) : Calls Tryz.prog 221 #[.agg a.cells.toArray, .agg b.cells.toArray] w fun r w' => r = .returned (.bool (sameNum a b)) ∧ Bel w w' := by
  refine H_enter Tryz.func221 rfl Tryz.ntmps221 rfl ?_
  refine H_seq ?_
  refine R0 ?_
  refine X_box (v := .agg _) rfl rfl fun b2 => ?_
  refine X_box (v := .agg _) rfl rfl fun b3 => ?_
  refine xV (e_as (v := .bool _) (q0 rfl)) rfl rfl ?_
  refine XN ?_
  refine thenJ_normal ?_
  refine H_seq ?_
  refine R1 rfl (by decide +kernel) ?_
  refine xV (eS Tryz.isAgg24 Tryz.sizeOf24 (q0 rfl)) rfl rfl ?_
  refine xC (en Tryz.call222 (ha1 (q0 rfl))) (fun _ w _ => number_w a w) rfl rfl ?_
  refine xV (eS Tryz.isAgg24 Tryz.sizeOf24 (q0 rfl)) rfl rfl ?_
  refine xC (en Tryz.call222 (ha1 (q0 rfl))) (fun _ w _ => number_w b w) rfl rfl ?_
  refine xV (e_eqS (fun w => eq381 _ _ w) (by kernel_rfl) (q0 rfl) (q0 rfl)) rfl rfl ?_
  refine xV (e_as (v := .bool _) (q0 rfl)) rfl rfl ?_
  refine XN ?_
  refine thenJ_normal ?_
  refine H_ret ?_
  exact ret1 (v := .bool _) rfl rfl rfl fun w' hw => ⟨rfl, hw.1⟩
attribute [local irreducible] cmpI evCmp
set_option maxRecDepth 20000 in
theorem set1_w (a b : Ev) (w : World) : Calls Tryz.prog 218 #[.agg a.cells.toArray, .agg b.cells.toArray] w fun r w' => r = .returned (.int .i64 (setCmp a b)) ∧ Bel w w' := by
  refine H_enter Tryz.func218 rfl Tryz.ntmps218 rfl ?_
  refine H_seq ?_
  refine R0 ?_
  refine X_box (v := .agg _) rfl rfl fun b2 => ?_
  refine X_box (v := .agg _) rfl rfl fun b3 => ?_
  refine xV (e_as (v := .int _ _) (q0 rfl)) rfl rfl ?_
  refine XN ?_
  refine thenJ_normal ?_
  refine H_seq ?_
  refine RA rfl (by decide +kernel) ?_
  refine aV 0 (by decide +kernel) rfl (e_fld Tryz.underlying24 rfl Tryz.sizeOf3 rfl (q0 rfl)) rfl ?_
  refine aV 1 (by decide +kernel) rfl (eL Tryz.isAgg3 (q0 rfl)) rfl ?_
  refine aV 2 (by decide +kernel) rfl (e_fld Tryz.underlying24 rfl Tryz.sizeOf3 rfl (q0 rfl)) rfl ?_
  refine aV 3 (by decide +kernel) rfl (eL Tryz.isAgg3 (q0 rfl)) rfl ?_
  refine aV 5 (by decide +kernel) rfl (e_fld Tryz.underlying24 rfl Tryz.sizeOf3 rfl (q0 rfl)) rfl ?_
  refine aV 6 (by decide +kernel) rfl (eL Tryz.isAgg3 (q0 rfl)) rfl ?_
  refine aV 7 (by decide +kernel) rfl (e_fld Tryz.underlying24 rfl Tryz.sizeOf3 rfl (q0 rfl)) rfl ?_
  refine aV 8 (by decide +kernel) rfl (eL Tryz.isAgg3 (q0 rfl)) rfl ?_
  refine aV 10 (by decide +kernel) rfl (eS Tryz.isAgg24 Tryz.sizeOf24 (q0 rfl)) rfl ?_
  refine aV 11 (by decide +kernel) rfl (eS Tryz.isAgg24 Tryz.sizeOf24 (q0 rfl)) rfl ?_
  refine aC 4 (by decide +kernel) rfl (en Tryz.call105 (ha2 (q0 rfl) (q0 rfl))) (fun _ w _ => compare_w a.device b.device w) rfl ?_
  refine aC 9 (by decide +kernel) rfl (en Tryz.call105 (ha2 (q0 rfl) (q0 rfl))) (fun _ w _ => compare_w a.seq b.seq w) rfl ?_
  refine aC 12 (by decide +kernel) rfl (en Tryz.call219 (ha2 (q0 rfl) (q0 rfl))) (fun _ w _ => evCmp_w a b w) rfl ?_
  refine rdy1 (i := 13) (by decide +kernel) (sub_drop 0) ?_
  refine aL rfl (f_slit [(.int .i64 0), (.int .i64 0), (.int .i64 0)] Tryz.underlying42 Tryz.sizeOf3 Tryz.zeroValue3 rfl (by kernel_rfl) (pt (v := .int _ _) rfl (pt (v := .int _ _) rfl (pt (v := .int _ _) rfl E.p0))) rfl rfl fun b18 => ?_)
  refine aRL (sub_drop 1) ?_
  refine aC 14 (by decide +kernel) rfl (en Tryz.call104 (ha1 (q0 rfl))) (fun _ w hm => or_w _ 3 3 [cmpI a.device b.device, cmpI a.seq b.seq, evCmp a b] w (slAt_box (enc := encInt) hm (j := 0) rfl (fun _ => rfl) (by simp))) rfl ?_
  refine aV 15 (by decide +kernel) rfl (e_as (v := .int _ _) (q0 rfl)) rfl ?_
  refine aZ (by decide +kernel) (sub_drop 0) ?_
  refine thenJ_normal ?_
  refine H_ret ?_

  exact ret1 (v := .int _ _) rfl rfl rfl fun w' hw => ⟨rfl, hw.1⟩

theorem lexLt_drop {l r : List Int} {k : Nat} {x y : Int} (hx : l[k]? = some x) (hy : r[k]? = some y) : lexLt (l.drop k) (r.drop k) = if x ≠ y then decide (x < y) else lexLt (l.drop (k + 1)) (r.drop (k + 1)) := by
  obtain ⟨h1, h2⟩ := List.getElem?_eq_some_iff.1 hx
  obtain ⟨h3, h4⟩ := List.getElem?_eq_some_iff.1 hy
  rw [List.drop_eq_getElem_cons h1, List.drop_eq_getElem_cons h3, h2, h4]
  rfl
attribute [local irreducible] lexLt

end Go.Proofs.Cus

/-
  The walks: the set of events (clone, sort, compact, sort), and the reference's.
-/
namespace Go.Proofs.Cus
open Go Go.RowKit Go.Proofs.E

abbrev EvsAt (w : World) (A : Option Addr) (n : Nat) (xs : List Ev) : Prop := SlAt w 9 Ev.cells A n xs
abbrev evRow (A : Option Addr) (c : Nat) (xs : List Ev) : E.Item := rowT 24 9 Ev.cells A c xs

theorem clone_w (A : Option Addr) (n c : Nat) (xs : List Ev) (w : World) (hx : EvsAt w A n xs) (hn : n ≤ 10000) :
    Calls Tryz.prog 217 #[.slice A n c] w fun e w' => ∃ x : Option Addr × Nat, e = .returned (.slice x.1 n x.2) ∧ Mem w [evRow x.1 x.2 xs] w' := by
  have hl := hx.1
  refine H_enter Tryz.func217 rfl Tryz.ntmps217 rfl ?_
  refine H_seq ?_
  refine R0 ?_
  refine xV (e_as (v := .slice _ _ _) (q0 rfl)) rfl rfl ?_
  refine XN ?_
  refine thenJ_normal ?_
  refine H_seq ?_
  refine H_seq ?_
  refine R0 ?_
  refine xV (e_mv (v := .slice _ _ _) (q0 rfl)) rfl rfl ?_
  refine xV (e_eqNilS Tryz.underlying117 (q0 rfl)) rfl rfl ?_
  refine XN ?_
  refine thenJ_normal ?_
  refine H_cond rfl (fun h1 => ?_) (fun h1 => ?_)
  · have hA0 : A = none := by simpa using h1
    have hn0 : n = 0 := by
      rcases Nat.eq_zero_or_pos n with h | h
      · exact h
      · obtain ⟨b, off, hb, _⟩ := hx.2.2 h; rw [hA0] at hb; cases hb
    subst hn0
    have : xs = [] := List.eq_nil_of_length_eq_zero hl
    subst this
    refine H_seq ?_
    refine R0 ?_
    refine xV (e_as (v := .slice _ _ _) (q0 rfl)) rfl rfl ?_
    refine XN ?_
    refine thenJ_normal ?_
    refine H_ret ?_
    refine thenJ_ret ?_
    exact ret1 (v := .slice _ _ _) rfl rfl rfl fun w' hw => ⟨(none, 0), rfl, hw.nilRow _ _ _ rfl⟩
  · refine H_skip ?_
    refine thenJ_normal ?_
    refine H_seq ?_
    refine R0 ?_
    refine X_eff (f_slit0 Ev.cells Tryz.underlying117 Tryz.sizeOf24 rfl fun A1 c1 => ?_)
    refine xV (e_mv (v := .slice _ _ _) (q0 rfl)) rfl rfl ?_
    refine X_append (f_append (k := 9) (i := Tryz.t24) (enc := Ev.cells) 0 Tryz.underlying117 (by kernel_rfl) rfl rfl rfl rfl (fun _ => rfl) (fun _ => rfl) rfl rfl rfl (fun w hw => hx.mem hw) ⟨by simp; omega, by decide⟩ rfl fun A2 c2 => ?_)
    refine xV (e_as (v := .slice _ _ _) (q0 rfl)) rfl rfl ?_
    refine XN ?_
    refine thenJ_normal ?_
    refine H_ret ?_
    exact ret1 (v := .slice _ _ _) rfl rfl rfl fun w' hw => ⟨(A2, c2), by rw [← hl]; rfl, hw⟩

/-! the sort -/
def sortEv_ren : Go.Shelf.Ren := ⟨fun | 6 => 159 | 15 => 141 | 14 => 209 | 28 => 190 | 29 => 191 | 20 => 278 | 21 => 279 | 22 => 280 | 23 => 281 | 24 => 282 | 25 => 283 | 26 => 284 | 27 => 285 | 46 => 309 | 47 => 240 | 48 => 241 | 49 => 310 | 50 => 311 | 57 => 332 | n => n, fun | 22 => 117 | 24 => 24 | 25 => 308 | 3 => 3 | 39 => 249 | 0 => 0 | 53 => 324 | 55 => 58 | 4 => 4 | 46 => 340 | 45 => 339 | 50 => 344 | 5 => 5 | 9 => 9 | 66 => 402 | 70 => 77 | 76 => 447 | 77 => 356 | n => n, fun | n => n⟩
theorem sortEv : Go.Proofs.SlLaysF0.n6 Tryz.prog sortEv_ren := {
  mixed := by kernel_rfl,
  f6 := ⟨Tryz.f159.name, by decide, Tryz.func159.trans (congrArg some (by kernel_rfl))⟩,
  f14 := ⟨Tryz.f209.name, by decide, Tryz.func209.trans (congrArg some (by kernel_rfl))⟩,
  f15 := Tryz.func141.trans (congrArg some (by kernel_rfl)),
  f20 := ⟨Tryz.f278.name, by decide, Tryz.func278.trans (congrArg some (by kernel_rfl))⟩,
  f21 := ⟨Tryz.f279.name, by decide, Tryz.func279.trans (congrArg some (by kernel_rfl))⟩,
  f22 := ⟨Tryz.f280.name, by decide, Tryz.func280.trans (congrArg some (by kernel_rfl))⟩,
  f23 := ⟨Tryz.f281.name, by decide, Tryz.func281.trans (congrArg some (by kernel_rfl))⟩,
  f24 := ⟨Tryz.f282.name, by decide, Tryz.func282.trans (congrArg some (by kernel_rfl))⟩,
  f25 := ⟨Tryz.f283.name, by decide, Tryz.func283.trans (congrArg some (by kernel_rfl))⟩,
  f26 := ⟨Tryz.f284.name, by decide, Tryz.func284.trans (congrArg some (by kernel_rfl))⟩,
  f27 := ⟨Tryz.f285.name, by decide, Tryz.func285.trans (congrArg some (by kernel_rfl))⟩,
  f28 := Tryz.func190.trans (congrArg some (by kernel_rfl)),
  f29 := Tryz.func191.trans (congrArg some (by kernel_rfl)),
  f46 := ⟨Tryz.f309.name, by decide, Tryz.func309.trans (congrArg some (by kernel_rfl))⟩,
  f47 := Tryz.func240.trans (congrArg some (by kernel_rfl)),
  f48 := Tryz.func241.trans (congrArg some (by kernel_rfl)),
  f49 := ⟨Tryz.f310.name, by decide, Tryz.func310.trans (congrArg some (by kernel_rfl))⟩,
  f50 := ⟨Tryz.f311.name, by decide, Tryz.func311.trans (congrArg some (by kernel_rfl))⟩,
  f57 := ⟨Tryz.f332.name, by decide, Tryz.func332.trans (congrArg some (by kernel_rfl))⟩,
  t0 := Tryz.underlying0,
  a0 := Tryz.isAgg0,
  z0 := Tryz.sizeOf0,
  v0 := Tryz.zeroValue0,
  t3 := Tryz.underlying3,
  a3 := Tryz.isAgg3,
  z3 := Tryz.sizeOf3,
  v3 := Tryz.zeroValue3,
  t4 := Tryz.underlying4,
  a4 := Tryz.isAgg4,
  z4 := Tryz.sizeOf4,
  v4 := Tryz.zeroValue4,
  t5 := Tryz.underlying5,
  a5 := Tryz.isAgg5,
  z5 := Tryz.sizeOf5,
  v5 := Tryz.zeroValue5,
  t9 := Tryz.underlying9,
  a9 := Tryz.isAgg9,
  z9 := Tryz.sizeOf9,
  v9 := Tryz.zeroValue9,
  t22 := Tryz.underlying117,
  a22 := Tryz.isAgg117,
  z22 := Tryz.sizeOf117,
  v22 := Tryz.zeroValue117,
  t25 := Tryz.underlying308,
  a25 := Tryz.isAgg308,
  z25 := Tryz.sizeOf308,
  v25 := Tryz.zeroValue308,
  t39 := Tryz.underlying249,
  a39 := Tryz.isAgg249,
  z39 := Tryz.sizeOf249,
  v39 := Tryz.zeroValue249,
  t45 := Tryz.underlying339,
  a45 := Tryz.isAgg339,
  z45 := Tryz.sizeOf339,
  v45 := Tryz.zeroValue339,
  t46 := Tryz.underlying340,
  a46 := Tryz.isAgg340,
  z46 := Tryz.sizeOf340,
  v46 := Tryz.zeroValue340,
  t50 := Tryz.underlying344,
  a50 := Tryz.isAgg344,
  z50 := Tryz.sizeOf344,
  v50 := Tryz.zeroValue344,
  t53 := Tryz.underlying324,
  a53 := Tryz.isAgg324,
  z53 := Tryz.sizeOf324,
  v53 := Tryz.zeroValue324,
  t55 := Tryz.underlying58,
  a55 := Tryz.isAgg58,
  z55 := Tryz.sizeOf58,
  v55 := Tryz.zeroValue58,
  t66 := Tryz.underlying402,
  a66 := Tryz.isAgg402,
  z66 := Tryz.sizeOf402,
  v66 := Tryz.zeroValue402,
  t70 := Tryz.underlying77,
  a70 := Tryz.isAgg77,
  z70 := Tryz.sizeOf77,
  v70 := Tryz.zeroValue77,
  t76 := Tryz.underlying447,
  a76 := Tryz.isAgg447,
  z76 := Tryz.sizeOf447,
  v76 := Tryz.zeroValue447,
  t77 := Tryz.underlying356,
  a77 := Tryz.isAgg356,
  z77 := Tryz.sizeOf356,
  v77 := Tryz.zeroValue356 }

open Go.Shelf Go.Lib Go.Sort in
theorem sortBy_w (cf : Ev → Ev → Int) (g : Nat) (hO : SWO (ltOf cf)) (hT : ∀ x y, ltOf cf x y = false → ltOf cf y x = false → x = y) (eg : ∀ args w, (callFunc g args).run Tryz.prog w = .ok (.enter g args) w)
    (hcl : ∀ (x y : Ev) (w : World), Calls Tryz.prog g #[.agg x.cells.toArray, .agg y.cells.toArray] w fun e w' => e = .returned (.int .i64 (cf x y)) ∧ Bel w w')
    {w0 w : World} {L : List E.Item} (hw : Mem w0 L w) {j c : Nat} {A : Option Addr} {xs : List Ev} (hk : L[j]? = some (evRow A c xs)) (hn : xs.length ≤ 1000000) :
    Calls Tryz.prog 159 #[.slice A xs.length c, .func (.func g) #[] #[]] w fun e w' => ∃ _ : Unit, e = .returned (.tuple #[]) ∧ Mem w0 (L.set j (evRow A c (xs.mergeSort fun x y => !ltOf cf y x))) w' := by
  rcases Nat.eq_zero_or_pos xs.length with h0 | h0
  · have : xs = [] := List.eq_nil_of_length_eq_zero h0
    subst this
    refine (AnyF.slices_SortFunc_none sortEv A c (.func (.func g) #[] #[]) w).mono ?_
    rintro e w' ⟨rfl, rfl⟩
    refine ⟨(), rfl, ?_⟩
    have hL : L.set j (evRow A c (([] : List Ev).mergeSort fun x y => !ltOf cf y x)) = L := by
      have : ([] : List Ev).mergeSort (fun x y => !ltOf cf y x) = [] := by simp
      rw [this]
      obtain ⟨h1, h2⟩ := List.getElem?_eq_some_iff.1 hk
      rw [← h2]; exact List.set_getElem_self h1
    rw [hL]; exact hw
  · obtain ⟨b, rfl⟩ := rowT_at hw hk h0
    have hb : b < w.heap.size := (hw.itemLt hk rfl).2
    have hcon := AnyQ.slices_SortFunc_total sortEv 9 Tryz.isAgg24 Tryz.sizeOf24 Ev.cells (fun _ => rfl) (fun x v hv => by simp [Ev.cells] at hv; rcases hv with rfl | rfl | rfl | rfl | rfl | rfl | rfl | rfl | rfl <;> rfl) cf hO g #[] b 0 c xs.toArray w eg
      (fun m os dk _ x y => by rw [Array.append_empty]; exact (hcl x y _).mono fun e w' ⟨he, hb⟩ => ⟨he, hb.grew⟩) (holdsK_row (fun _ => rfl) hw hk) hb (by simp; omega) hT
    have hcon' : Calls Tryz.prog 159 #[.slice (some ⟨b, 0, none⟩) xs.toArray.size c, .func (.func g) #[] #[]] w _ := hcon
    rw [List.size_toArray] at hcon'
    refine hcon'.mono ?_
    rintro e w' ⟨rfl, n, os, rfl⟩
    exact ⟨(), rfl, sorted_mem (fun _ => rfl) hw hk (by simp)⟩

open Go.Shelf Go.Lib Go.Sort in
theorem sort1_w {w0 w : World} {L : List E.Item} (hw : Mem w0 L w) {j c : Nat} {A : Option Addr} {xs : List Ev} (hk : L[j]? = some (evRow A c xs)) (hn : xs.length ≤ 1000000) :
    Calls Tryz.prog 159 #[.slice A xs.length c, .func (.func 218) #[] #[]] w fun e w' => ∃ _ : Unit, e = .returned (.tuple #[]) ∧ Mem w0 (L.set j (evRow A c (xs.mergeSort le1))) w' := by
  have hlt : (ltOf setCmp) = fun x y => lexLt x.keys2 y.keys2 := by funext x y; exact setCmp_lt x y
  have := sortBy_w setCmp 218 (by rw [hlt]; exact swo_key Ev.keys2 11 (fun _ => rfl)) (fun x y h1 h2 => by rw [hlt] at h1 h2; exact keys2_inj (lexLt_total rfl h1 h2)) Tryz.call218 set1_w hw hk hn
  rw [hlt] at this
  exact this
open Go.Shelf Go.Lib Go.Sort in
theorem sort2_w {w0 w : World} {L : List E.Item} (hw : Mem w0 L w) {j c : Nat} {A : Option Addr} {xs : List Ev} (hk : L[j]? = some (evRow A c xs)) (hn : xs.length ≤ 1000000) :
    Calls Tryz.prog 159 #[.slice A xs.length c, .func (.func 219) #[] #[]] w fun e w' => ∃ _ : Unit, e = .returned (.tuple #[]) ∧ Mem w0 (L.set j (evRow A c (xs.mergeSort le2))) w' := by
  have hlt : (ltOf evCmp) = fun x y => lexLt x.keys y.keys := by funext x y; exact lexCmp_lt x.keys y.keys
  have := sortBy_w evCmp 219 (by rw [hlt]; exact swo_key Ev.keys 9 (fun _ => rfl)) (fun x y h1 h2 => by rw [hlt] at h1 h2; exact keys_inj (lexLt_total rfl h1 h2)) Tryz.call219 evCmp_w hw hk hn
  rw [hlt] at this
  exact this

end Go.Proofs.Cus

/-
  The walks: replicas of events, looked at: do they fit, all of them in order.
-/
namespace Go.Proofs.Gos
open Go Go.RowKit Go.Proofs.E Go.Proofs.Cus

theorem fl24 {fs : Array Field} (h : Tryz.prog.underlying 24 = some (.struct fs) := by exact Tryz.underlying24) : FieldsLie Tryz.prog fs [(0, 1), (1, 1), (2, 1), (3, 1), (4, 1), (5, 1), (6, 1), (7, 1), (8, 1)] := by
  rw [Tryz.underlying24] at h
  cases h
  intro w
  kernel_rfl
theorem fl139 {fs : Array Field} (h : Tryz.prog.underlying 139 = some (.struct fs) := by exact Tryz.underlying139) : FieldsLie Tryz.prog fs [(0, 1), (1, 1)] := by
  rw [Tryz.underlying139] at h
  cases h
  intro w
  kernel_rfl
theorem fl306 {fs : Array Field} (h : Tryz.prog.underlying 306 = some (.struct fs) := by exact Tryz.underlying306) : FieldsLie Tryz.prog fs [(0, 1), (1, 1)] := by
  rw [Tryz.underlying306] at h
  cases h
  intro w
  kernel_rfl

/-- x, which is there, is at odds with e -/
def clashP (x e : Ev) : Bool := decide (x.device = e.device) && ((decide (x.seq < e.seq) && decide (e.at_ < x.at_)) || (decide (e.seq < x.seq) && decide (x.at_ < e.at_)))
def keyC (x : Ev) : List Value := [.int .i64 x.device, .int .i64 x.seq]
structure RpAt (w : World) (b o : Nat) (v : Value) (m : Nat) (es : Array MapEntry) (clock : Nat) (l : List Ev) : Prop where
  lt : b < w.heap.size
  row : RowAt w b o [v, .map (some m)]
  map : w.heap[m]? = some (.map es clock)
  born : BornOk es.toList clock
  evs : es.toList.map (fun e => (e.key, e.val)) = l.map fun x => (.agg (keyC x).toArray, .agg x.cells.toArray)
theorem RpAt.one {w : World} {b o m clock : Nat} {v : Value} {es : Array MapEntry} {l : List Ev} (h : RpAt w b o v m es clock l) {e : MapEntry} (he : e ∈ es.toList) : ∃ x ∈ l, e.key = .agg (keyC x).toArray ∧ e.val = .agg x.cells.toArray := by
  have h1 : (e.key, e.val) ∈ es.toList.map (fun e => (e.key, e.val)) := List.mem_map.2 ⟨e, he, rfl⟩
  rw [h.evs] at h1
  obtain ⟨x, hx, h2⟩ := List.mem_map.1 h1
  injection h2 with h2 h3
  exact ⟨x, hx, h2.symm, h3.symm⟩
theorem RpAt.two {w : World} {b o m clock : Nat} {v : Value} {es : Array MapEntry} {l : List Ev} (h : RpAt w b o v m es clock l) {x : Ev} (hx : x ∈ l) : ∃ e ∈ es.toList, e.key = .agg (keyC x).toArray ∧ e.val = .agg x.cells.toArray := by
  have h1 : ((.agg (keyC x).toArray, .agg x.cells.toArray) : Value × Value) ∈ l.map fun x => (Value.agg (keyC x).toArray, Value.agg x.cells.toArray) := List.mem_map.2 ⟨x, hx, rfl⟩
  rw [← h.evs] at h1
  obtain ⟨e, he, h2⟩ := List.mem_map.1 h1
  injection h2 with h2 h3
  exact ⟨e, he, h2, h3⟩
theorem cells_inj {x y : Ev} (h : (Value.agg x.cells.toArray) = .agg y.cells.toArray) : x = y := by
  obtain ⟨x1, x2, x3, x4, x5, x6, x7, x8, x9⟩ := x
  obtain ⟨y1, y2, y3, y4, y5, y6, y7, y8, y9⟩ := y
  simp only [Ev.cells, Value.agg.injEq] at h
  have h2 := congrArg Array.toList h
  simp only [List.cons.injEq, Value.int.injEq, true_and, and_true] at h2
  obtain ⟨rfl, rfl, rfl, rfl, rfl, rfl, rfl, rfl, rfl⟩ := h2
  rfl
theorem left_lt (es : List MapEntry) (seen : Array Nat) (e : MapEntry) (he : e ∈ es) (hs : seen.contains e.born = false) : (es.filter fun x => !(seen.push e.born).contains x.born).length < (es.filter fun x => !seen.contains x.born).length := by
  have hsub : ∀ x : MapEntry, (!(seen.push e.born).contains x.born) = true → (!seen.contains x.born) = true := fun x hx => by
    simp at hx ⊢; exact hx.1
  have key : ∀ l : List MapEntry, e ∈ l → (l.filter fun x => !(seen.push e.born).contains x.born).length < (l.filter fun x => !seen.contains x.born).length := by
    intro l
    induction l with
    | nil => intro h; cases h
    | cons y l ih =>
      intro hm
      have hle : ∀ l : List MapEntry, (l.filter fun x => !(seen.push e.born).contains x.born).length ≤ (l.filter fun x => !seen.contains x.born).length := by
        intro l
        induction l with
        | nil => simp
        | cons z l ih2 =>
          simp only [List.filter_cons]
          split
          · rename_i h; rw [if_pos (hsub z h)]; simp only [List.length_cons]; omega
          · split
            · simp only [List.length_cons]; omega
            · exact ih2
      rcases List.mem_cons.1 hm with rfl | hm
      · simp only [List.filter_cons]
        rw [if_neg (by simp), if_pos (by simpa using hs)]
        have := hle l
        simp only [List.length_cons]; omega
      · have := ih hm
        simp only [List.filter_cons]
        split
        · rename_i h; rw [if_pos (hsub y h)]; simp only [List.length_cons]; omega
        · split
          · simp only [List.length_cons]; omega
          · exact this
  exact key es he
theorem born_eq {es : List MapEntry} {clock : Nat} (h : BornOk es clock) {x y : MapEntry} (hx : x ∈ es) (hy : y ∈ es) (he : x.born = y.born) : x = y := by
  obtain ⟨i, hi, rfl⟩ := List.getElem_of_mem hx
  obtain ⟨j, hj, rfl⟩ := List.getElem_of_mem hy
  have := List.pairwise_iff_getElem.1 h.asc
  rcases Nat.lt_trichotomy i j with h1 | h1 | h1
  · have := this i j hi hj h1; omega
  · subst h1; rfl
  · have := this j i hj hi h1; omega
theorem fits_w {b o m clock : Nat} {v : Value} {es : Array MapEntry} {l : List Ev} (e : Ev) (w : World) (h : RpAt w b o v m es clock l) :
    Calls Tryz.prog 394 #[.pointer (some ⟨b, o, none⟩), .agg e.cells.toArray] w fun r w' => r = .returned (.bool (!l.any fun x => clashP x e)) ∧ Bel w w' := by
  have hlt := h.lt
  have hrow := h.row
  have hmap := h.map
  have hB := h.born
  have hmlt : m < w.heap.size := (Array.getElem?_eq_some_iff.1 hmap).1
  have hmm : ∀ (L : List E.Item) w', Mem w L w' → w'.heap[m]? = some (.map es clock) := fun L w' hw => (hw.1.block m hmlt).trans hmap
  refine H_enter Tryz.func394 rfl Tryz.ntmps394 rfl ?_
  refine H_seq ?_
  refine R0 ?_
  refine X_box (v := .agg _) rfl rfl fun b3 => ?_
  refine xV (e_as (v := .bool _) (q0 rfl)) rfl rfl ?_
  refine XN ?_
  refine thenJ_normal ?_
  refine H_seq ?_
  refine H_seq ?_
  refine R0 ?_
  refine xV (e_mv (v := .pointer _) (q0 rfl)) rfl rfl ?_
  refine xV (e_nilc (q0 rfl)) rfl rfl ?_
  refine xV (e_fld Tryz.underlying139 rfl Tryz.sizeOf137 rfl (q0 rfl)) rfl rfl ?_
  refine xV (eL Tryz.isAgg137 (q0 rfl)) rfl rfl ?_
  refine X_eff (f_range Tryz.underlying137 (hmm _) rfl rfl fun r => ?_)
  refine XN ?_
  refine thenJ_normal ?_
  refine H_block ?_
  refine H_loop [4, 6, 12, 13, 14, 15, 16, 17, 18, 19, 20, 21, 22, 23, 24, 25, 26, 27, 28, 29, 30, 31, 32, 33, 34, 35, 36, 37, 38, 39, 40, 41, 42, 43, 44, 45, 46, 47, 48] (fun _ : Array Nat => []) (fun seen => [mit r m clock seen clock, box b3 24 e.cells]) (fun seen => ∀ x ∈ es.toList, seen.contains x.born = true → ∀ y, x.val = .agg y.cells.toArray → clashP y e = false) (fun seen => (es.toList.filter fun x => !seen.contains x.born).length) #[] trivial (fun _ h => h) rfl (fun e _ hc => by simp at hc) ?_
  rintro seen g hinv
  refine H_seq ?_
  refine R0 ?_
  refine X_eff (f_next 0 (hmm _) hB rfl rfl (Nat.le_refl _) rfl (fun hall => ?_) (fun x he hs => ?_))
  · refine xV (e_ext (q0 rfl) rfl) rfl rfl ?_
    refine XN ?_
    refine thenJ_normal ?_
    refine H_seq ?_
    refine H_cond rfl (fun hb => ?_) (fun hb => ?_)
    · cases hb
    · refine H_exit ?_
      refine thenJ_exit ?_
      refine loopJ_exit ?_
      refine blockJ_hit ?_
      refine thenJ_normal ?_
      refine H_seq ?_
      refine R0 ?_
      refine xV (e_as (v := .bool _) (q0 rfl)) rfl rfl ?_
      refine XN ?_
      refine thenJ_normal ?_
      refine H_ret ?_
      exact ret1 (v := .bool _) rfl rfl rfl fun w' hw => ⟨ret_bool (by
        symm
        rw [Bool.not_eq_true', List.any_eq_false]
        intro y hy
        obtain ⟨x, hx, _, hv⟩ := h.two hy
        simpa using hinv x hx (hall x hx) y hv), hw.1⟩
  · obtain ⟨y, hy, hk, hv⟩ := h.one he
    obtain ⟨ek, ev', eb⟩ := x
    simp only at hk hv
    subst hk
    subst hv
    refine xV (e_ext (q0 rfl) rfl) rfl rfl ?_
    refine XN ?_
    refine thenJ_normal ?_
    refine H_seq ?_
    refine H_cond rfl (fun hb => ?_) (fun hb => ?_)
    · refine H_skip ?_
      refine thenJ_normal ?_
      refine H_block ?_
      refine H_seq ?_
      refine R0 ?_
      refine xV (e_entry 0 (hmm _) hB he (q0 rfl) rfl) rfl rfl ?_
      refine xV (e_ext (q0 rfl) rfl) rfl rfl ?_
      refine X_alloc Tryz.zeroValue24 rfl fun b6 => ?_
      refine X_st (v := .agg _) rfl rfl Tryz.sizeOf24 ?_
      refine XN ?_
      refine thenJ_normal ?_
      refine H_seq ?_
      refine R0 ?_
      refine xV (e_fld Tryz.underlying24 rfl Tryz.sizeOf3 rfl (q0 rfl)) rfl rfl ?_
      refine xV (eL Tryz.isAgg3 (q0 rfl)) rfl rfl ?_
      refine xV (e_fld Tryz.underlying24 rfl Tryz.sizeOf3 rfl (q0 rfl)) rfl rfl ?_
      refine xV (eL Tryz.isAgg3 (q0 rfl)) rfl rfl ?_
      refine xV (e_eq (q0 rfl) (q0 rfl)) rfl rfl ?_
      refine xV (e_mv (v := .bool _) (q0 rfl)) rfl rfl ?_
      refine xVT (e_fld Tryz.underlying24 rfl Tryz.sizeOf3 rfl (q0 rfl)) rfl rfl rfl rfl ?_
      refine xVT (eL Tryz.isAgg3 (q1 rfl)) rfl rfl rfl rfl ?_
      refine xVT (e_fld Tryz.underlying24 rfl Tryz.sizeOf3 rfl (q0 rfl)) rfl rfl rfl rfl ?_
      refine xVT (eL Tryz.isAgg3 (q1 rfl)) rfl rfl rfl rfl ?_
      refine xVT (e_lt (q1 rfl) (q1 rfl)) rfl rfl rfl rfl ?_
      refine xVT (e_mv (v := .bool _) (q1 rfl)) rfl rfl rfl rfl ?_
      refine xVT2 (e_fld Tryz.underlying24 rfl Tryz.sizeOf3 rfl (q0 rfl)) rfl rfl rfl rfl ?_
      refine xVT2 (eL Tryz.isAgg3 (q1 rfl)) rfl rfl rfl rfl ?_
      refine xVT2 (e_fld Tryz.underlying24 rfl Tryz.sizeOf3 rfl (q0 rfl)) rfl rfl rfl rfl ?_
      refine xVT2 (eL Tryz.isAgg3 (q1 rfl)) rfl rfl rfl rfl ?_
      refine xVT2 (e_gt (q1 rfl) (q1 rfl)) rfl rfl rfl rfl ?_
      refine xVT (e_and (q1 rfl) rfl (fun h => by first | rfl | (rw [h]; rfl))) rfl rfl rfl rfl ?_
      refine xVT (e_mv (v := .bool _) (q1 rfl)) rfl rfl rfl rfl ?_
      refine xVF2 (e_fld Tryz.underlying24 rfl Tryz.sizeOf3 rfl (q0 rfl)) rfl rfl rfl rfl ?_
      refine xVF2 (eL Tryz.isAgg3 (q1 rfl)) rfl rfl rfl rfl ?_
      refine xVF2 (e_fld Tryz.underlying24 rfl Tryz.sizeOf3 rfl (q0 rfl)) rfl rfl rfl rfl ?_
      refine xVF2 (eL Tryz.isAgg3 (q1 rfl)) rfl rfl rfl rfl ?_
      refine xVF2 (e_gt (q1 rfl) (q1 rfl)) rfl rfl rfl rfl ?_
      refine xVF2 (e_mv (v := .bool _) (q1 rfl)) rfl rfl rfl rfl ?_
      refine xVT2 (e_fld Tryz.underlying24 rfl Tryz.sizeOf3 rfl (q0 rfl)) rfl rfl rfl rfl ?_
      refine xVT2 (eL Tryz.isAgg3 (q1 rfl)) rfl rfl rfl rfl ?_
      refine xVT2 (e_fld Tryz.underlying24 rfl Tryz.sizeOf3 rfl (q0 rfl)) rfl rfl rfl rfl ?_
      refine xVT2 (eL Tryz.isAgg3 (q1 rfl)) rfl rfl rfl rfl ?_
      refine xVT2 (e_lt (q1 rfl) (q1 rfl)) rfl rfl rfl rfl ?_
      refine xVF2 (e_and (q1 rfl) rfl (fun h => by first | rfl | (rw [h]; rfl))) rfl rfl rfl rfl ?_
      refine xVT (e_or (q1 rfl) rfl (fun h => by first | rfl | (rw [h]; rfl))) rfl rfl rfl rfl ?_
      refine xV (e_and (q0 rfl) rfl (fun h => by first | rfl | (rw [h]; rfl))) rfl rfl ?_
      refine XN ?_
      refine thenJ_normal ?_
      refine H_cond rfl (fun hcl => ?_) (fun hcl => ?_)
      · refine H_seq ?_
        refine R0 ?_
        refine xV (e_as (v := .bool _) (q0 rfl)) rfl rfl ?_
        refine XN ?_
        refine thenJ_normal ?_
        refine H_ret ?_
        refine blockJ_ret ?_
        refine loopJ_ret ?_
        refine blockJ_ret ?_
        refine thenJ_ret ?_
        exact ret1 (v := .bool _) rfl rfl rfl fun w' hw => ⟨ret_bool (by
          have hc : clashP y e = true := by
            unfold clashP
            exact hcl
          symm
          rw [Bool.not_eq_false', List.any_eq_true]
          exact ⟨y, hy, hc⟩), hw.1⟩
      · refine H_skip ?_
        refine blockJ_normal ?_
        exact loopJ_normal (seen.push eb) (by repeat (first | exact agree_self | exact agree_over | refine agree_upd rfl ?_ | refine agree_updL rfl ?_ | refine agree_over2 rfl ?_)) trivial (fun _ h => h.tail) rfl (fun e' he' hc z hz => by
          by_cases hs' : seen.contains e'.born = true
          · exact hinv e' he' hs' z hz
          · have hbe : e'.born = eb := by simp at hc hs'; exact hc.resolve_left hs'
            have := born_eq hB he' he hbe
            subst this
            have := cells_inj hz
            subst this
            unfold clashP
            exact hcl) (left_lt es.toList seen ⟨_, _, eb⟩ he hs)
    · cases hb

/-! the order -/
def ordE (a b : Ev) : Int := if evLess a b = true then -1 else if evLess b a = true then 1 else 0
open Go.Shelf Go.Lib Go.Sort in
theorem ordE_lt (a b : Ev) : ltOf ordE a b = evLess a b := by
  unfold ltOf ordE
  cases h : evLess a b with
  | true => simp
  | false =>
    simp only [Bool.false_eq_true, if_false]
    split <;> simp
attribute [local irreducible] evLess
theorem lessP_w (a b : Ev) (w : World) : Calls Tryz.prog 210 #[.agg a.cells.toArray, .agg b.cells.toArray] w fun r w' => r = .returned (.bool (evLess a b)) ∧ Bel w w' := by
  have hlt : decide (evCmp a b < 0) = evLess a b := by unfold evLess; exact lexCmp_lt a.keys b.keys
  refine H_enter Tryz.func210 rfl Tryz.ntmps210 rfl ?_
  refine H_seq ?_
  refine R0 ?_
  refine X_box (v := .agg _) rfl rfl fun b2 => ?_
  refine X_box (v := .agg _) rfl rfl fun b3 => ?_
  refine xV (e_as (v := .bool _) (q0 rfl)) rfl rfl ?_
  refine XN ?_
  refine thenJ_normal ?_
  refine H_seq ?_
  refine R0 ?_
  refine xV (eS Tryz.isAgg24 Tryz.sizeOf24 (q0 rfl)) rfl rfl ?_
  refine xV (eS Tryz.isAgg24 Tryz.sizeOf24 (q0 rfl)) rfl rfl ?_
  refine xC (en Tryz.call219 (ha2 (q0 rfl) (q0 rfl))) (fun _ w _ => evCmp_w a b w) rfl rfl ?_
  refine xV (e_lt (q0 rfl) (q0 rfl)) rfl rfl ?_
  refine xV (e_as (v := .bool _) (q0 rfl)) rfl rfl ?_
  refine XN ?_
  refine thenJ_normal ?_
  refine H_ret ?_
  exact ret1 (v := .bool _) rfl rfl rfl fun w' hw => ⟨ret_bool hlt, hw.1⟩
theorem order_w (a b : Ev) (w : World) : Calls Tryz.prog 160 #[.agg a.cells.toArray, .agg b.cells.toArray] w fun r w' => r = .returned (.int .i64 (ordE a b)) ∧ Bel w w' := by
  refine H_enter Tryz.func160 rfl Tryz.ntmps160 rfl ?_
  refine H_seq ?_
  refine R0 ?_
  refine X_box (v := .agg _) rfl rfl fun b2 => ?_
  refine X_box (v := .agg _) rfl rfl fun b3 => ?_
  refine xV (e_as (v := .int _ _) (q0 rfl)) rfl rfl ?_
  refine XN ?_
  refine thenJ_normal ?_
  refine H_seq ?_
  refine H_block ?_
  refine H_seq ?_
  refine R0 ?_
  refine xV (eS Tryz.isAgg24 Tryz.sizeOf24 (q0 rfl)) rfl rfl ?_
  refine xV (eS Tryz.isAgg24 Tryz.sizeOf24 (q0 rfl)) rfl rfl ?_
  refine xC (en Tryz.call210 (ha2 (q0 rfl) (q0 rfl))) (fun _ w _ => lessP_w a b w) rfl rfl ?_
  refine xV (e_as (v := .bool _) (q0 rfl)) rfl rfl ?_
  refine XN ?_
  refine thenJ_normal ?_
  refine H_cond rfl (fun h1 => ?_) (fun h1 => ?_)
  · refine H_seq ?_
    refine R0 ?_
    refine xV (e_as (v := .int _ _) (q0 rfl)) rfl rfl ?_
    refine XN ?_
    refine thenJ_normal ?_
    refine H_ret ?_
    refine blockJ_ret ?_
    refine thenJ_ret ?_
    exact ret1 (v := .int _ _) rfl rfl rfl fun w' hw => ⟨ret_int (by unfold ordE; rw [if_pos h1]), hw.1⟩
  · refine H_seq ?_
    refine R0 ?_
    refine xV (eS Tryz.isAgg24 Tryz.sizeOf24 (q0 rfl)) rfl rfl ?_
    refine xV (eS Tryz.isAgg24 Tryz.sizeOf24 (q0 rfl)) rfl rfl ?_
    refine xC (en Tryz.call210 (ha2 (q0 rfl) (q0 rfl))) (fun _ w _ => lessP_w b a w) rfl rfl ?_
    refine xV (e_as (v := .bool _) (q0 rfl)) rfl rfl ?_
    refine XN ?_
    refine thenJ_normal ?_
    refine H_cond rfl (fun h2 => ?_) (fun h2 => ?_)
    · refine H_seq ?_
      refine R0 ?_
      refine xV (e_as (v := .int _ _) (q0 rfl)) rfl rfl ?_
      refine XN ?_
      refine thenJ_normal ?_
      refine H_ret ?_
      refine blockJ_ret ?_
      refine thenJ_ret ?_
      exact ret1 (v := .int _ _) rfl rfl rfl fun w' hw => ⟨ret_int (by unfold ordE; rw [if_neg (by rw [h1]; decide), if_pos h2]), hw.1⟩
    · refine H_skip ?_
      refine blockJ_normal ?_
      refine thenJ_normal ?_
      refine H_seq ?_
      refine R0 ?_
      refine xV (e_as (v := .int _ _) (q0 rfl)) rfl rfl ?_
      refine XN ?_
      refine thenJ_normal ?_
      refine H_ret ?_
      exact ret1 (v := .int _ _) rfl rfl rfl fun w' hw => ⟨ret_int (by unfold ordE; rw [if_neg (by rw [h1]; decide), if_neg (by rw [h2]; decide)]), hw.1⟩
open Go.Shelf Go.Lib Go.Sort in
theorem sort3_w {w0 w : World} {L : List E.Item} (hw : Mem w0 L w) {j c : Nat} {A : Option Addr} {xs : List Ev} (hk : L[j]? = some (evRow A c xs)) (hn : xs.length ≤ 1000000) :
    Calls Tryz.prog 159 #[.slice A xs.length c, .func (.func 160) #[] #[]] w fun e w' => ∃ _ : Unit, e = .returned (.tuple #[]) ∧ Mem w0 (L.set j (evRow A c (xs.mergeSort le2))) w' := by
  have hlt : (ltOf ordE) = fun x y => lexLt x.keys y.keys := by funext x y; rw [ordE_lt]; unfold evLess; rfl
  have := sortBy_w ordE 160 (by rw [hlt]; exact swo_key Ev.keys 9 (fun _ => rfl)) (fun x y h1 h2 => by rw [hlt] at h1 h2; exact keys_inj (lexLt_total rfl h1 h2)) Tryz.call160 order_w hw hk hn
  rw [hlt] at this
  exact this
theorem sort_perm {xs l : List Ev} (h : xs.Perm l) : xs.mergeSort le2 = l.mergeSort le2 := by
  have hp : ∀ l : List Ev, (l.mergeSort le2).Pairwise (fun a b => le2 a b = true) := fun l => List.pairwise_mergeSort (le_trans_of (key := Ev.keys) (n := 9) (fun _ => rfl)) (le_total_of (key := Ev.keys) (n := 9) (fun _ => rfl)) _
  refine List.Perm.eq_of_pairwise (le := fun a b => le2 a b = true) (fun a b _ _ h1 h2 => ?_) (hp xs) (hp l) (((List.mergeSort_perm _ _).trans h).trans (List.mergeSort_perm _ _).symm)
  unfold le2 at h1 h2
  exact keys_inj (lexLt_total rfl (by simpa using h2) (by simpa using h1))
def ai (cs : Array Value) (i : Nat) : Int := match cs[i]? with | some (.int _ n) => n | _ => 0
def dec (v : Value) : Ev := match v with | .agg cs => ⟨ai cs 0, ai cs 1, ai cs 2, ai cs 3, ai cs 4, ai cs 5, ai cs 6, ai cs 7, ai cs 8⟩ | _ => default
theorem dec_cells (x : Ev) : dec (.agg x.cells.toArray) = x := rfl
def evOf (e : MapEntry) : Ev := dec e.val
def bornA (vs : List MapEntry) : Array Nat := (vs.map (·.born)).toArray
theorem bornA_push (vs : List MapEntry) (e : MapEntry) : (bornA vs).push e.born = bornA (vs ++ [e]) := by unfold bornA; simp
theorem bornA_mem {vs : List MapEntry} {n : Nat} : (bornA vs).contains n = true ↔ ∃ e ∈ vs, e.born = n := by unfold bornA; simp
theorem all_perm {w : World} {b o m clock : Nat} {v : Value} {es : Array MapEntry} {l : List Ev} (h : RpAt w b o v m es clock l) {vs : List MapEntry} (hm : ∀ e ∈ vs, e ∈ es.toList) (hn : vs.Nodup) (hall : ∀ e ∈ es.toList, (bornA vs).contains e.born = true) : (vs.map evOf).Perm l := by
  have hne : es.toList.Nodup := h.born.asc.imp fun {a b} hab e => by subst e; omega
  have hp : vs.Perm es.toList := (List.perm_ext_iff_of_nodup hn hne).2 fun e => ⟨hm e, fun he => by
    obtain ⟨x, hx, hb⟩ := bornA_mem.1 (hall e he)
    have := born_eq h.born (hm x hx) he hb
    subst this; exact hx⟩
  have h2 := hp.map evOf
  have h3 : es.toList.map evOf = l := by
    have h4 := congrArg (List.map fun p : Value × Value => dec p.2) h.evs
    rw [List.map_map, List.map_map] at h4
    have h5 : ((fun p : Value × Value => dec p.2) ∘ fun x : Ev => (Value.agg (keyC x).toArray, Value.agg x.cells.toArray)) = id := by funext x; exact dec_cells x
    rw [h5, List.map_id] at h4
    exact h4
  rw [h3] at h2; exact h2
theorem nodup_len {α : Type} : ∀ {xs ys : List α}, xs.Nodup → (∀ x ∈ xs, x ∈ ys) → xs.length ≤ ys.length
  | [], ys, _, _ => Nat.zero_le _
  | x :: xs, ys, hn, hs => by
    obtain ⟨h1, h2⟩ := List.nodup_cons.1 hn
    obtain ⟨a, b, rfl⟩ := List.append_of_mem (hs x (List.mem_cons_self ..))
    have := nodup_len (xs := xs) (ys := a ++ b) h2 fun y hy => by
      have h3 := hs y (List.mem_cons_of_mem _ hy)
      rcases List.mem_append.1 h3 with h3 | h3
      · exact List.mem_append.2 (.inl h3)
      · rcases List.mem_cons.1 h3 with rfl | h3
        · exact absurd hy h1
        · exact List.mem_append.2 (.inr h3)
    simp only [List.length_append, List.length_cons] at this ⊢
    omega
/-- all events in order -/
theorem since_w {b o m clock : Nat} {v : Value} {es : Array MapEntry} {l : List Ev} (w : World) (h : RpAt w b o v m es clock l) (hp : ∀ x ∈ l, 0 ≤ x.device ∧ 1 ≤ x.seq) (hn : l.length ≤ 10000) :
    Calls Tryz.prog 109 #[.pointer (some ⟨b, o, none⟩), .slice none 0 0] w fun r w' => ∃ x : { x : Option Addr × Nat // l = [] → x = (none, 0) }, r = .returned (.slice x.1.1 l.length x.1.2) ∧ Mem w [evRow x.1.1 x.1.2 (l.mergeSort le2)] w' := by
  have hlt := h.lt
  have hrow := h.row
  have hmap := h.map
  have hB := h.born
  have hmlt : m < w.heap.size := (Array.getElem?_eq_some_iff.1 hmap).1
  have hmm : ∀ (L : List E.Item) w', Mem w L w' → w'.heap[m]? = some (.map es clock) := fun L w' hw => (hw.1.block m hmlt).trans hmap
  have hel : es.toList.length = l.length := by have := congrArg List.length h.evs; simpa using this
  refine H_enter Tryz.func109 rfl Tryz.ntmps109 rfl ?_
  refine H_seq ?_
  refine R0 ?_
  refine xV (e_as (v := .slice _ _ _) (q0 rfl)) rfl rfl ?_
  refine XN ?_
  refine thenJ_normal ?_
  refine H_seq ?_
  refine H_seq ?_
  refine R0 ?_
  refine xV (e_mv (v := .pointer _) (q0 rfl)) rfl rfl ?_
  refine xV (e_eqNilP Tryz.underlying101 (q0 rfl)) rfl rfl ?_
  refine XN ?_
  refine thenJ_normal ?_
  refine H_cond rfl (fun hnil => ?_) (fun hnil => ?_)
  · cases hnil
  · refine H_skip ?_
    refine thenJ_normal ?_
    refine H_seq ?_
    refine R0 ?_
    refine xV (e_as (v := .slice _ _ _) (q0 rfl)) rfl rfl ?_
    refine XN ?_
    refine thenJ_normal ?_
    refine H_seq ?_
    refine H_seq ?_
    refine R0 ?_
    refine xV (e_mv (v := .pointer _) (q0 rfl)) rfl rfl ?_
    refine xV (e_nilc (q0 rfl)) rfl rfl ?_
    refine xV (e_fld Tryz.underlying139 rfl Tryz.sizeOf137 rfl (q0 rfl)) rfl rfl ?_
    refine xV (eL Tryz.isAgg137 (q0 rfl)) rfl rfl ?_
    refine X_eff (f_range Tryz.underlying137 (hmm _) rfl rfl fun r => ?_)
    refine XN ?_
    refine thenJ_normal ?_
    refine H_block ?_
    refine H_loop [5, 6, 7, 8, 16, 17, 18, 19, 20, 21, 22, 23, 24, 25, 26, 27, 28, 29, 30, 31, 32, 33, 34, 35, 36, 37, 38] (fun q : List MapEntry × Option Addr × Nat => [(5, .slice q.2.1 (q.1.map evOf).length q.2.2)]) (fun q => [evRow q.2.1 q.2.2 (q.1.map evOf), mit r m clock (bornA q.1) clock]) (fun q => (∀ e ∈ q.1, e ∈ es.toList) ∧ q.1.Nodup ∧ (q.1 = [] → q.2 = (none, 0))) (fun q => (es.toList.filter fun x => !(bornA q.1).contains x.born).length) ([], none, 0) ⟨rfl, trivial⟩ (fun _ h => h.nilRow _ _ _ rfl) rfl ⟨fun _ h => (by cases h), List.nodup_nil, fun _ => rfl⟩ ?_
    rintro ⟨vs, A, cp⟩ g ⟨hin, hnd, hnil0⟩
    simp only at hin hnd hnil0
    refine H_seq ?_
    refine R0 ?_
    refine X_eff (f_next 1 (hmm _) hB rfl rfl (Nat.le_refl _) rfl (fun hall => ?_) (fun x he hs => ?_))
    · refine xV (e_ext (q0 rfl) rfl) rfl rfl ?_
      refine XN ?_
      refine thenJ_normal ?_
      refine H_seq ?_
      refine H_cond rfl (fun hb => ?_) (fun hb => ?_)
      · cases hb
      · have hperm := all_perm h hin hnd hall
        have hxl : (vs.map evOf).length = l.length := hperm.length_eq
        refine H_exit ?_
        refine thenJ_exit ?_
        refine loopJ_exit ?_
        refine blockJ_hit ?_
        refine thenJ_normal ?_
        refine H_seq ?_
        refine R0 ?_
        refine xV (e_mv (v := .slice _ _ _) (q0 rfl)) rfl rfl ?_
        refine X_eff (f_callM (en Tryz.call159 (ha2 (q0 rfl) (q0 rfl))) (fun w hw => sort3_w hw (j := 0) rfl (by rw [hxl]; omega)) rfl (fun _ => rfl) fun u => ?_)
        refine XN ?_
        refine thenJ_normal ?_
        refine H_seq ?_
        refine R0 ?_
        refine xV (e_mv (v := .slice _ _ _) (q0 rfl)) rfl rfl ?_
        refine xV (e_as (v := .slice _ _ _) (q0 rfl)) rfl rfl ?_
        refine XN ?_
        refine thenJ_normal ?_
        refine H_ret ?_
        exact ret1 (v := .slice _ _ _) rfl rfl rfl fun w' hw => ⟨⟨(A, cp), fun hl => hnil0 (by have h0 := hxl; rw [hl, List.length_map] at h0; exact List.eq_nil_of_length_eq_zero h0)⟩, congrArg (fun n => Ending.returned (.slice A n cp)) hxl, by rw [← sort_perm hperm]; exact hw.pick [0] (by decide)⟩
    · obtain ⟨y, hy, hk, hv⟩ := h.one he
      obtain ⟨hd0, hs0⟩ := hp y hy
      have hmx : (vs ++ [x]).map evOf = vs.map evOf ++ [y] := by simp [evOf, hv, dec_cells]
      have hnew : x ∉ vs := fun hx => by
        have := bornA_mem.2 ⟨x, hx, rfl⟩
        rw [hs] at this; cases this
      have hnd2 : (vs ++ [x]).Nodup := List.nodup_append.2 ⟨hnd, (by simp), fun a ha b hb e => hnew (by rw [← List.mem_singleton.1 hb, ← e]; exact ha)⟩
      have hvl : vs.length ≤ 10000 := by
        have := nodup_len hnd hin
        omega
      refine xV (e_ext (q0 rfl) rfl) rfl rfl ?_
      refine XN ?_
      refine thenJ_normal ?_
      refine H_seq ?_
      refine H_cond rfl (fun hb => ?_) (fun hb => ?_)
      · refine H_skip ?_
        refine thenJ_normal ?_
        refine H_block ?_
        refine H_seq ?_
        refine R0 ?_
        refine xV (e_entry 1 (hmm _) hB he (q0 rfl) rfl) rfl rfl ?_
        rw [hk, hv]
        refine xV (e_ext (q0 rfl) rfl) rfl rfl ?_
        refine xV (e_ext (q0 rfl) rfl) rfl rfl ?_
        refine X_alloc Tryz.zeroValue306 rfl fun b6 => ?_
        refine X_alloc Tryz.zeroValue24 rfl fun b7 => ?_
        refine X_st (v := .agg _) rfl rfl Tryz.sizeOf306 ?_
        refine X_st (v := .agg _) rfl rfl Tryz.sizeOf24 ?_
        refine XN ?_
        refine thenJ_normal ?_
        refine H_seq ?_
        refine R0 ?_
        refine xV (e_as (v := .int _ _) (q0 rfl)) rfl rfl ?_
        refine XN ?_
        refine thenJ_normal ?_
        refine H_seq ?_
        refine H_seq ?_
        refine R0 ?_
        refine xV (e_fld Tryz.underlying306 rfl Tryz.sizeOf3 rfl (q0 rfl)) rfl rfl ?_
        refine xV (eL Tryz.isAgg3 (q0 rfl)) rfl rfl ?_
        refine xV (e_mv (v := .slice _ _ _) (q0 rfl)) rfl rfl ?_
        refine xV (e_len Tryz.underlying42 (q0 rfl)) rfl rfl ?_
        refine xV (e_lt (q0 rfl) (q0 rfl)) rfl rfl ?_
        refine XN ?_
        refine thenJ_normal ?_
        refine H_cond rfl (fun hd => ?_) (fun hd => ?_)
        · exact absurd hd (by simp; omega)
        · refine H_skip ?_
          refine thenJ_normal ?_
          refine H_seq ?_
          refine R0 ?_
          refine xV (e_fld Tryz.underlying306 rfl Tryz.sizeOf3 rfl (q0 rfl)) rfl rfl ?_
          refine xV (eL Tryz.isAgg3 (q0 rfl)) rfl rfl ?_
          refine xV (e_mv (v := .int _ _) (q0 rfl)) rfl rfl ?_
          refine xV (e_gt (q0 rfl) (q0 rfl)) rfl rfl ?_
          refine XN ?_
          refine thenJ_normal ?_
          refine H_cond rfl (fun hq => ?_) (fun hq => ?_)
          · refine R0 ?_
            refine xV (e_mv (v := .slice _ _ _) (q0 rfl)) rfl rfl ?_
            refine xV (eS Tryz.isAgg24 Tryz.sizeOf24 (q0 rfl)) rfl rfl ?_
            refine X_push (k := 9) (i := Tryz.t24) 2 (y) Tryz.underlying117 (by kernel_rfl) rfl rfl rfl rfl Tryz.sizeOf24 Tryz.zeroValue24 rfl rfl rfl rfl rfl rfl ⟨by simp only [List.length_append, List.length_map, List.length_cons, List.length_nil]; omega, by decide⟩ rfl rfl fun B A2 c2 => ?_
            refine xV (e_as (v := .slice _ _ _) (q0 rfl)) rfl rfl ?_
            refine XN ?_
            refine blockJ_normal ?_
            exact loopJ_normal (vs ++ [x], A2, c2) (by repeat (first | exact agree_self | exact agree_over | refine agree_upd rfl ?_ | refine agree_updL rfl ?_ | refine agree_over2 rfl ?_)) ⟨by show _ = Value.slice A2 ((vs ++ [x]).map evOf).length c2; rw [hmx]; rfl, trivial⟩ (fun w hw => by show Mem _ [evRow A2 c2 ((vs ++ [x]).map evOf), mit r m clock (bornA (vs ++ [x])) clock] _; rw [hmx, ← bornA_push]; exact hw.tail.tail) rfl ⟨fun e h => by
              rcases List.mem_append.1 h with h | h
              · exact hin e h
              · rw [List.mem_singleton.1 h]; exact he, hnd2, fun h0 => by simp at h0⟩ (by rw [← bornA_push]; exact left_lt es.toList (bornA vs) x he hs)
          · exact absurd hq (by simp; omega)
      · cases hb
end Go.Proofs.Gos
