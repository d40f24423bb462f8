import Derived.Test.YtbocfacfgddbcaaGreatFarEb
import Derived.Test.YtbocfacfgddbcaaGreatProg
set_option linter.unusedVariables false
set_option linter.unusedSimpArgs false
/-
  Plain functions: fleets, events, their errors and their order (no program in sight).
-/
namespace Go.Proofs.Cus

structure Ev where
  device : Int
  seq : Int
  at_ : Int
  late : Int
  kind : Int
  bike : Int
  place : Int
  rider : Int
  ride : Int
structure Fl where
  bikes : Int
  riders : Int
  devices : Int
  docks : List Int
  trucks : List Int

def within (n low high : Int) : Bool := decide (low ≤ n) && decide (n ≤ high)
def allIn (l : List Int) (most : Int) : Bool := l.all fun n => within n 1 most
def flErr (f : Fl) : Int :=
  if ((!within f.bikes 1 128 || !within f.riders 1 128) || !within f.devices 1 256) = true then 1
  else if 32 < f.docks.length ∨ 8 < f.trucks.length then 8
  else if (!allIn f.docks 32 || !allIn f.trucks 32) = true then 1 else 0
def placed (f : Fl) (e : Ev) : Bool :=
  if e.kind = 1 then (decide (0 ≤ e.place) && decide (e.place.tdiv 32 < f.docks.length)) && decide (e.place.tmod 32 < f.docks.getD (e.place.tdiv 32).toNat 0)
  else if e.kind = 2 then within e.place 0 63
  else if e.kind = 7 then within e.place 0 ((f.trucks.length : Int) - 1)
  else decide (e.place = 0)
def named (f : Fl) (e : Ev) : Bool :=
  (if e.kind = 3 then within e.rider 0 (f.riders - 1) else decide (e.rider = 0)) && (if e.kind = 3 ∨ e.kind = 4 then within e.ride 1 1000000 else decide (e.ride = 0))
def evErr (f : Fl) (e : Ev) : Int :=
  if flErr f ≠ 0 then flErr f
  else if ((((!within e.device 0 (f.devices - 1) || !within e.seq 1 1048576) || decide (e.at_ < 0)) || decide (e.late < e.at_)) || decide (4294943999 < e.late)) = true then 1
  else if within e.kind 1 10 = false then 14
  else if (!within e.bike 0 (f.bikes - 1) || (decide (e.kind = 10) && !decide (e.bike = 0))) = true then 1
  else if placed f e = false then 7
  else if named f e = false then 1 else 0

end Go.Proofs.Cus

/-
  The walks: fleets and events, each by itself.
-/
namespace Go.Proofs.Cus
open Go Go.RowKit Go.Proofs.E

abbrev IntsAt (w : World) (A : Option Addr) (n : Nat) (xs : List Int) : Prop := SlAt w 1 encInt A n xs
def Ev.cells (e : Ev) : List Value := [.int .i64 e.device, .int .i64 e.seq, .int .i64 e.at_, .int .i64 e.late, .int .i64 e.kind, .int .i64 e.bike, .int .i64 e.place, .int .i64 e.rider, .int .i64 e.ride]
/-- where a fleet's lists lie -/
structure FA where
  dA : Option Addr
  dn : Nat
  dc : Nat
  tA : Option Addr
  tn : Nat
  tc : Nat
def Fl.cells (f : Fl) (a : FA) : List Value := [.int .i64 f.bikes, .int .i64 f.riders, .int .i64 f.devices, .slice a.dA a.dn a.dc, .slice a.tA a.tn a.tc]
structure FlAt (w : World) (f : Fl) (a : FA) : Prop where
  docks : IntsAt w a.dA a.dn f.docks
  trucks : IntsAt w a.tA a.tn f.trucks
theorem FlAt.mem {w0 w : World} {L : List E.Item} {f : Fl} {a : FA} (h : FlAt w0 f a) (hm : Mem w0 L w) : FlAt w f a := ⟨h.docks.mem hm, h.trucks.mem hm⟩

theorem within_w (n low high : Int) (w : World) : Calls Tryz.prog 77 #[.int .i64 n, .int .i64 low, .int .i64 high] w fun e w' => e = .returned (.bool (within n low high)) ∧ Bel w w' := by
  refine H_enter Tryz.func77 rfl Tryz.ntmps77 rfl ?_
  refine H_seq ?_
  refine R0 ?_
  refine xV (e_as (v := .bool _) (q0 rfl)) rfl rfl ?_
  refine XN ?_
  refine thenJ_normal ?_
  refine H_seq ?_
  refine R0 ?_
  refine xV (e_mv (v := .int _ _) (q0 rfl)) rfl rfl ?_
  refine xV (e_mv (v := .int _ _) (q0 rfl)) rfl rfl ?_
  refine xV (e_le (q0 rfl) (q0 rfl)) rfl rfl ?_
  refine xV (e_mv (v := .bool _) (q0 rfl)) rfl rfl ?_
  refine xVT (e_mv (v := .int _ _) (q0 rfl)) rfl rfl rfl rfl ?_
  refine xVT (e_mv (v := .int _ _) (q0 rfl)) rfl rfl rfl rfl ?_
  refine xVT (e_le (q1 rfl) (q1 rfl)) rfl rfl rfl rfl ?_
  refine xV (e_and (q0 rfl) rfl (fun h => by first | rfl | (rw [h]; rfl))) rfl rfl ?_
  refine xV (e_as (v := .bool _) (q0 rfl)) rfl rfl ?_
  refine XN ?_
  refine thenJ_normal ?_
  refine H_ret ?_
  exact ret1 (v := .bool _) rfl rfl rfl fun w' hw => ⟨rfl, hw.1⟩
theorem between_w (n low high : Int) (w : World) : Calls Tryz.prog 82 #[.int .i64 n, .int .i64 low, .int .i64 high] w fun e w' => e = .returned (.bool (within n low high)) ∧ Bel w w' := by
  refine H_enter Tryz.func82 rfl Tryz.ntmps82 rfl ?_
  refine H_seq ?_
  refine R0 ?_
  refine xV (e_as (v := .bool _) (q0 rfl)) rfl rfl ?_
  refine XN ?_
  refine thenJ_normal ?_
  refine H_seq ?_
  refine R0 ?_
  refine xV (e_mv (v := .int _ _) (q0 rfl)) rfl rfl ?_
  refine xV (e_mv (v := .int _ _) (q0 rfl)) rfl rfl ?_
  refine xV (e_ge (q0 rfl) (q0 rfl)) rfl rfl ?_
  refine xV (e_mv (v := .bool _) (q0 rfl)) rfl rfl ?_
  refine xVT (e_mv (v := .int _ _) (q0 rfl)) rfl rfl rfl rfl ?_
  refine xVT (e_mv (v := .int _ _) (q0 rfl)) rfl rfl rfl rfl ?_
  refine xVT (e_le (q1 rfl) (q1 rfl)) rfl rfl rfl rfl ?_
  refine xV (e_and (q0 rfl) rfl (fun h => by first | rfl | (rw [h]; rfl))) rfl rfl ?_
  refine xV (e_as (v := .bool _) (q0 rfl)) rfl rfl ?_
  refine XN ?_
  refine thenJ_normal ?_
  refine H_ret ?_
  exact ret1 (v := .bool _) rfl rfl rfl fun w' hw => ⟨rfl, hw.1⟩

theorem take_snoc {α : Type} (l : List α) (k : Nat) (v : α) (h : l[k]? = some v) : l.take (k + 1) = l.take k ++ [v] := by
  rw [List.take_add_one, h]; rfl
attribute [local irreducible] within allIn

theorem all_w (A : Option Addr) (n c : Nat) (xs : List Int) (most : Int) (w : World) (hx : IntsAt w A n xs) :
    Calls Tryz.prog 78 #[.slice A n c, .int .i64 most] w fun e w' => e = .returned (.bool (allIn xs most)) ∧ Bel w w' := by
  have hl := hx.1
  have hn := hx.2.1
  refine H_enter Tryz.func78 rfl Tryz.ntmps78 rfl ?_
  refine H_seq ?_
  refine R0 ?_
  refine xV (e_as (v := .bool _) (q0 rfl)) rfl rfl ?_
  refine XN ?_
  refine thenJ_normal ?_
  refine H_seq ?_
  refine H_seq ?_
  refine R0 ?_
  refine xV (e_mv (v := .slice _ _ _) (q0 rfl)) rfl rfl ?_
  refine xV (e_len Tryz.underlying22 (q0 rfl)) rfl rfl ?_
  refine xV (e_mv (v := .int _ _) (q0 rfl)) rfl rfl ?_
  refine XN ?_
  refine thenJ_normal ?_
  refine H_block ?_
  refine H_loop [4, 6, 9, 10, 11, 12, 13, 14, 15, 16, 17] (fun k : Nat => [(9, .int .i64 k)]) (fun _ => _) (fun k => k ≤ n ∧ (xs.take k).all (fun m => within m 1 most) = true) (fun k => n - k) 0 ⟨rfl, trivial⟩ (fun _ h => h) rfl ⟨Nat.zero_le _, rfl⟩ ?_
  rintro k g ⟨hk, hall⟩
  refine H_seq ?_
  refine R0 ?_
  refine xV (e_lt (q0 rfl) (q0 rfl)) rfl rfl ?_
  refine XN ?_
  refine thenJ_normal ?_
  refine H_seq ?_
  refine H_cond rfl (fun hlt => ?_) (fun hlt => ?_)
  · simp at hlt
    obtain ⟨b, off, x, rfl, hbl, hxk, hrx⟩ := hx.at_ hlt
    refine H_skip ?_
    refine thenJ_normal ?_
    refine H_seq ?_
    refine H_block ?_
    refine H_seq ?_
    refine R0 ?_
    refine xV (e_idx _ Tryz.underlying22 Tryz.sizeOf3 (q0 rfl) (q0 rfl) (fun _ => ⟨rfl, by omega⟩)) rfl rfl ?_
    refine xV (eL Tryz.isAgg3 (q0 rfl)) rfl rfl ?_
    refine xV (e_as (v := .int _ _) (q0 rfl)) rfl rfl ?_
    refine XN ?_
    refine thenJ_normal ?_
    refine H_seq ?_
    refine R0 ?_
    refine xV (e_mv (v := .int _ _) (q0 rfl)) rfl rfl ?_
    refine xV (e_mv (v := .int _ _) (q0 rfl)) rfl rfl ?_
    refine xC (en Tryz.call77 (ha3 (q0 rfl) (q0 rfl) (q0 rfl))) (fun _ w _ => within_w x 1 most w) rfl rfl ?_
    refine xV (e_not (q0 rfl)) rfl rfl ?_
    refine XN ?_
    refine thenJ_normal ?_
    refine H_cond rfl (fun hb => ?_) (fun hb => ?_)
    · refine H_seq ?_
      refine R0 ?_
      refine xV (e_as (v := .bool _) (q0 rfl)) rfl rfl ?_
      refine XN ?_
      refine thenJ_normal ?_
      refine H_ret ?_
      refine blockJ_ret ?_
      refine thenJ_ret ?_
      refine loopJ_ret ?_
      refine blockJ_ret ?_
      refine thenJ_ret ?_
      exact ret1 (v := .bool _) rfl rfl rfl fun w' hw => ⟨ret_bool (by
        unfold allIn
        rw [eq_comm, List.all_eq_false]
        exact ⟨x, List.mem_of_getElem? hxk, by simpa using hb⟩), hw.1⟩
    · refine H_skip ?_
      refine blockJ_normal ?_
      refine thenJ_normal ?_
      refine R0 ?_
      refine xV (e_add (q0 rfl) (q0 rfl) (fun _ => ⟨rfl, by omega, by omega⟩)) rfl rfl ?_
      refine xV (e_mv (v := .int _ _) (q0 rfl)) rfl rfl ?_
      refine XN ?_
      exact loopJ_normal (k + 1) (by repeat (first | exact agree_self | exact agree_over | refine agree_upd rfl ?_ | refine agree_updL rfl ?_ | refine agree_over2 rfl ?_)) ⟨rfl, trivial⟩ (fun _ h => h) rfl ⟨by omega, by rw [take_snoc _ _ _ hxk, List.all_append, hall]; simpa using hb⟩ (by show n - (k + 1) < n - k; omega)
  · obtain rfl : k = n := by simp at hlt; omega
    refine H_exit ?_
    refine thenJ_exit ?_
    refine loopJ_exit ?_
    refine blockJ_hit ?_
    refine thenJ_normal ?_
    refine H_seq ?_
    refine R0 ?_
    refine xV (e_as (v := .bool _) (q0 rfl)) rfl rfl ?_
    refine XN ?_
    refine thenJ_normal ?_
    refine H_ret ?_
    exact ret1 (v := .bool _) rfl rfl rfl fun w' hw => ⟨ret_bool (by unfold allIn; rw [← hall, List.take_of_length_le (by omega)]), hw.1⟩
theorem rall_w (A : Option Addr) (n c : Nat) (xs : List Int) (most : Int) (w : World) (hx : IntsAt w A n xs) :
    Calls Tryz.prog 83 #[.slice A n c, .int .i64 most] w fun e w' => e = .returned (.bool (allIn xs most)) ∧ Bel w w' := by
  have hl := hx.1
  have hn := hx.2.1
  refine H_enter Tryz.func83 rfl Tryz.ntmps83 rfl ?_
  refine H_seq ?_
  refine R0 ?_
  refine xV (e_as (v := .bool _) (q0 rfl)) rfl rfl ?_
  refine XN ?_
  refine thenJ_normal ?_
  refine H_seq ?_
  refine H_seq ?_
  refine R0 ?_
  refine xV (e_as (v := .int _ _) (q0 rfl)) rfl rfl ?_
  refine XN ?_
  refine thenJ_normal ?_
  refine H_block ?_
  refine H_loop [4, 5, 6, 7, 8, 9, 10, 11, 12, 13, 14, 15, 16, 17, 18] (fun k : Nat => [(5, .int .i64 k)]) (fun _ => _) (fun k => k ≤ n ∧ (xs.take k).all (fun m => within m 1 most) = true) (fun k => n - k) 0 ⟨rfl, trivial⟩ (fun _ h => h) rfl ⟨Nat.zero_le _, rfl⟩ ?_
  rintro k g ⟨hk, hall⟩
  refine H_seq ?_
  refine H_seq ?_
  refine R0 ?_
  refine xV (e_mv (v := .int _ _) (q0 rfl)) rfl rfl ?_
  refine xV (e_mv (v := .slice _ _ _) (q0 rfl)) rfl rfl ?_
  refine xV (e_len Tryz.underlying22 (q0 rfl)) rfl rfl ?_
  refine xV (e_lt (q0 rfl) (q0 rfl)) rfl rfl ?_
  refine XN ?_
  refine thenJ_normal ?_
  refine H_cond rfl (fun hlt => ?_) (fun hlt => ?_)
  · simp at hlt
    obtain ⟨b, off, x, rfl, hbl, hxk, hrx⟩ := hx.at_ hlt
    refine H_skip ?_
    refine thenJ_normal ?_
    refine H_seq ?_
    refine H_block ?_
    refine H_seq ?_
    refine R0 ?_
    refine xV (e_mv (v := .slice _ _ _) (q0 rfl)) rfl rfl ?_
    refine xV (e_mv (v := .int _ _) (q0 rfl)) rfl rfl ?_
    refine xV (e_idx _ Tryz.underlying22 Tryz.sizeOf3 (q0 rfl) (q0 rfl) (fun _ => ⟨rfl, by omega⟩)) rfl rfl ?_
    refine xV (eL Tryz.isAgg3 (q0 rfl)) rfl rfl ?_
    refine xV (e_mv (v := .int _ _) (q0 rfl)) rfl rfl ?_
    refine xC (en Tryz.call82 (ha3 (q0 rfl) (q0 rfl) (q0 rfl))) (fun _ w _ => between_w x 1 most w) rfl rfl ?_
    refine xV (e_not (q0 rfl)) rfl rfl ?_
    refine XN ?_
    refine thenJ_normal ?_
    refine H_cond rfl (fun hb => ?_) (fun hb => ?_)
    · refine H_seq ?_
      refine R0 ?_
      refine xV (e_as (v := .bool _) (q0 rfl)) rfl rfl ?_
      refine XN ?_
      refine thenJ_normal ?_
      refine H_ret ?_
      refine blockJ_ret ?_
      refine thenJ_ret ?_
      refine loopJ_ret ?_
      refine blockJ_ret ?_
      refine thenJ_ret ?_
      exact ret1 (v := .bool _) rfl rfl rfl fun w' hw => ⟨ret_bool (by
        unfold allIn
        rw [eq_comm, List.all_eq_false]
        exact ⟨x, List.mem_of_getElem? hxk, by simpa using hb⟩), hw.1⟩
    · refine H_skip ?_
      refine blockJ_normal ?_
      refine thenJ_normal ?_
      refine R0 ?_
      refine xV (e_mv (v := .int _ _) (q0 rfl)) rfl rfl ?_
      refine xV (e_add (q0 rfl) (q0 rfl) (fun _ => ⟨rfl, by omega, by omega⟩)) rfl rfl ?_
      refine xV (e_as (v := .int _ _) (q0 rfl)) rfl rfl ?_
      refine XN ?_
      exact loopJ_normal (k + 1) (by repeat (first | exact agree_self | exact agree_over | refine agree_upd rfl ?_ | refine agree_updL rfl ?_ | refine agree_over2 rfl ?_)) ⟨rfl, trivial⟩ (fun _ h => h) rfl ⟨by omega, by rw [take_snoc _ _ _ hxk, List.all_append, hall]; simpa using hb⟩ (by show n - (k + 1) < n - k; omega)
  · obtain rfl : k = n := by simp at hlt; omega
    refine H_exit ?_
    refine thenJ_exit ?_
    refine loopJ_exit ?_
    refine blockJ_hit ?_
    refine thenJ_normal ?_
    refine H_seq ?_
    refine R0 ?_
    refine xV (e_as (v := .bool _) (q0 rfl)) rfl rfl ?_
    refine XN ?_
    refine thenJ_normal ?_
    refine H_ret ?_
    exact ret1 (v := .bool _) rfl rfl rfl fun w' hw => ⟨ret_bool (by unfold allIn; rw [← hall, List.take_of_length_le (by omega)]), hw.1⟩
theorem fleet_w (f : Fl) (a : FA) (w : World) (hx : FlAt w f a) : Calls Tryz.prog 29 #[.agg (f.cells a).toArray] w fun e w' => e = .returned (.int .i64 (flErr f)) ∧ Bel w w' := by
  have hl := hx.docks.1
  have hl2 := hx.trucks.1
  refine H_enter Tryz.func29 rfl Tryz.ntmps29 rfl ?_
  refine H_seq ?_
  refine R0 ?_
  refine X_box (v := .agg _) rfl rfl fun b1 => ?_
  refine xV (e_as (v := .int _ _) (q0 rfl)) rfl rfl ?_
  refine XN ?_
  refine thenJ_normal ?_
  refine H_seq ?_
  refine H_seq ?_
  refine R0 ?_
  refine xV (e_fld Tryz.underlying24 rfl Tryz.sizeOf3 rfl (q0 rfl)) rfl rfl ?_
  refine xV (eL Tryz.isAgg3 (q0 rfl)) rfl rfl ?_
  refine xC (en Tryz.call77 (ha3 (q0 rfl) (q0 rfl) (q0 rfl))) (fun _ w _ => within_w f.bikes 1 128 w) rfl rfl ?_
  refine xV (e_not (q0 rfl)) rfl rfl ?_
  refine xV (e_mv (v := .bool _) (q0 rfl)) rfl rfl ?_
  refine xVF (e_fld Tryz.underlying24 rfl Tryz.sizeOf3 rfl (q0 rfl)) rfl rfl rfl rfl ?_
  refine xVF (eL Tryz.isAgg3 (q1 rfl)) rfl rfl rfl rfl ?_
  refine xCF (en Tryz.call77 (ha3 (q1 (v := .int _ _) rfl) (q0 rfl) (q0 rfl))) (fun _ w _ => within_w f.riders 1 128 w) rfl rfl rfl rfl ?_
  refine xVF (e_not (q1 rfl)) rfl rfl rfl rfl ?_
  refine xV (e_or (q0 rfl) rfl (fun h => by first | rfl | (rw [h]; rfl))) rfl rfl ?_
  refine xV (e_mv (v := .bool _) (q0 rfl)) rfl rfl ?_
  refine xVF (e_fld Tryz.underlying24 rfl Tryz.sizeOf3 rfl (q0 rfl)) rfl rfl rfl rfl ?_
  refine xVF (eL Tryz.isAgg3 (q1 rfl)) rfl rfl rfl rfl ?_
  refine xCF (en Tryz.call77 (ha3 (q1 (v := .int _ _) rfl) (q0 rfl) (q0 rfl))) (fun _ w _ => within_w f.devices 1 256 w) rfl rfl rfl rfl ?_
  refine xVF (e_not (q1 rfl)) rfl rfl rfl rfl ?_
  refine xV (e_or (q0 rfl) rfl (fun h => by first | rfl | (rw [h]; rfl))) rfl rfl ?_
  refine XN ?_
  refine thenJ_normal ?_
  refine H_cond rfl (fun h1 => ?_) (fun h1 => ?_)
  · refine H_seq ?_
    refine R0 ?_
    refine xV (e_as (v := .int _ _) (q0 rfl)) rfl rfl ?_
    refine XN ?_
    refine thenJ_normal ?_
    refine H_ret ?_
    refine thenJ_ret ?_
    exact ret1 (v := .int _ _) rfl rfl rfl fun w' hw => ⟨ret_int (by unfold flErr; rw [if_pos h1]), hw.1⟩
  · refine H_skip ?_
    refine thenJ_normal ?_
    refine H_seq ?_
    refine H_seq ?_
    refine R0 ?_
    refine xV (e_fld Tryz.underlying24 rfl Tryz.sizeOf22 rfl (q0 rfl)) rfl rfl ?_
    refine xV (eL Tryz.isAgg22 (q0 rfl)) rfl rfl ?_
    refine xV (e_len Tryz.underlying22 (q0 rfl)) rfl rfl ?_
    refine xV (e_gt (q0 rfl) (q0 rfl)) rfl rfl ?_
    refine xV (e_mv (v := .bool _) (q0 rfl)) rfl rfl ?_
    refine xVF (e_fld Tryz.underlying24 rfl Tryz.sizeOf22 rfl (q0 rfl)) rfl rfl rfl rfl ?_
    refine xVF (eL Tryz.isAgg22 (q1 rfl)) rfl rfl rfl rfl ?_
    refine xVF (e_len Tryz.underlying22 (q1 rfl)) rfl rfl rfl rfl ?_
    refine xVF (e_gt (q1 rfl) (q0 rfl)) rfl rfl rfl rfl ?_
    refine xV (e_or (q0 rfl) rfl (fun h => by first | rfl | (rw [h]; rfl))) rfl rfl ?_
    refine XN ?_
    refine thenJ_normal ?_
    refine H_cond rfl (fun h2 => ?_) (fun h2 => ?_)
    · refine H_seq ?_
      refine R0 ?_
      refine xV (e_as (v := .int _ _) (q0 rfl)) rfl rfl ?_
      refine XN ?_
      refine thenJ_normal ?_
      refine H_ret ?_
      refine thenJ_ret ?_
      exact ret1 (v := .int _ _) rfl rfl rfl fun w' hw => ⟨ret_int (by unfold flErr; rw [if_neg (by rw [h1]; decide), if_pos (by simp at h2; omega)]), hw.1⟩
    · refine H_skip ?_
      refine thenJ_normal ?_
      refine H_seq ?_
      refine H_seq ?_
      refine R0 ?_
      refine xV (e_fld Tryz.underlying24 rfl Tryz.sizeOf22 rfl (q0 rfl)) rfl rfl ?_
      refine xV (eL Tryz.isAgg22 (q0 rfl)) rfl rfl ?_
      refine xC (en Tryz.call78 (ha2 (q0 rfl) (q0 rfl))) (fun _ w hm => all_w a.dA a.dn a.dc f.docks 32 w (hx.docks.mem hm)) rfl rfl ?_
      refine xV (e_not (q0 rfl)) rfl rfl ?_
      refine xV (e_mv (v := .bool _) (q0 rfl)) rfl rfl ?_
      refine xVF (e_fld Tryz.underlying24 rfl Tryz.sizeOf22 rfl (q0 rfl)) rfl rfl rfl rfl ?_
      refine xVF (eL Tryz.isAgg22 (q1 rfl)) rfl rfl rfl rfl ?_
      refine xCF (en Tryz.call78 (ha2 (q1 (v := .slice _ _ _) rfl) (q0 rfl))) (fun _ w hm => all_w a.tA a.tn a.tc f.trucks 32 w (hx.trucks.mem hm)) rfl rfl rfl rfl ?_
      refine xVF (e_not (q1 rfl)) rfl rfl rfl rfl ?_
      refine xV (e_or (q0 rfl) rfl (fun h => by first | rfl | (rw [h]; rfl))) rfl rfl ?_
      refine XN ?_
      refine thenJ_normal ?_
      refine H_cond rfl (fun h3 => ?_) (fun h3 => ?_)
      · refine H_seq ?_
        refine R0 ?_
        refine xV (e_as (v := .int _ _) (q0 rfl)) rfl rfl ?_
        refine XN ?_
        refine thenJ_normal ?_
        refine H_ret ?_
        refine thenJ_ret ?_
        exact ret1 (v := .int _ _) rfl rfl rfl fun w' hw => ⟨ret_int (by unfold flErr; rw [if_neg (by rw [h1]; decide), if_neg (by simp at h2; omega), if_pos h3]), hw.1⟩
      · refine H_skip ?_
        refine thenJ_normal ?_
        refine H_seq ?_
        refine R0 ?_
        refine xV (e_as (v := .int _ _) (q0 rfl)) rfl rfl ?_
        refine XN ?_
        refine thenJ_normal ?_
        refine H_ret ?_
        exact ret1 (v := .int _ _) rfl rfl rfl fun w' hw => ⟨ret_int (by unfold flErr; rw [if_neg (by rw [h1]; decide), if_neg (by simp at h2; omega), if_neg (by rw [h3]; decide)]), hw.1⟩
theorem rfleet_w (f : Fl) (a : FA) (w : World) (hx : FlAt w f a) : Calls Tryz.prog 34 #[.agg (f.cells a).toArray] w fun e w' => e = .returned (.int .i64 (flErr f)) ∧ Bel w w' := by
  have hl := hx.docks.1
  have hl2 := hx.trucks.1
  refine H_enter Tryz.func34 rfl Tryz.ntmps34 rfl ?_
  refine H_seq ?_
  refine R0 ?_
  refine X_box (v := .agg _) rfl rfl fun b1 => ?_
  refine xV (e_as (v := .int _ _) (q0 rfl)) rfl rfl ?_
  refine XN ?_
  refine thenJ_normal ?_
  refine H_seq ?_
  refine H_seq ?_
  refine R0 ?_
  refine xV (e_fld Tryz.underlying24 rfl Tryz.sizeOf3 rfl (q0 rfl)) rfl rfl ?_
  refine xV (eL Tryz.isAgg3 (q0 rfl)) rfl rfl ?_
  refine xC (en Tryz.call82 (ha3 (q0 rfl) (q0 rfl) (q0 rfl))) (fun _ w _ => between_w f.bikes 1 128 w) rfl rfl ?_
  refine xV (e_not (q0 rfl)) rfl rfl ?_
  refine xV (e_mv (v := .bool _) (q0 rfl)) rfl rfl ?_
  refine xVF (e_fld Tryz.underlying24 rfl Tryz.sizeOf3 rfl (q0 rfl)) rfl rfl rfl rfl ?_
  refine xVF (eL Tryz.isAgg3 (q1 rfl)) rfl rfl rfl rfl ?_
  refine xCF (en Tryz.call82 (ha3 (q1 (v := .int _ _) rfl) (q0 rfl) (q0 rfl))) (fun _ w _ => between_w f.riders 1 128 w) rfl rfl rfl rfl ?_
  refine xVF (e_not (q1 rfl)) rfl rfl rfl rfl ?_
  refine xV (e_or (q0 rfl) rfl (fun h => by first | rfl | (rw [h]; rfl))) rfl rfl ?_
  refine xV (e_mv (v := .bool _) (q0 rfl)) rfl rfl ?_
  refine xVF (e_fld Tryz.underlying24 rfl Tryz.sizeOf3 rfl (q0 rfl)) rfl rfl rfl rfl ?_
  refine xVF (eL Tryz.isAgg3 (q1 rfl)) rfl rfl rfl rfl ?_
  refine xCF (en Tryz.call82 (ha3 (q1 (v := .int _ _) rfl) (q0 rfl) (q0 rfl))) (fun _ w _ => between_w f.devices 1 256 w) rfl rfl rfl rfl ?_
  refine xVF (e_not (q1 rfl)) rfl rfl rfl rfl ?_
  refine xV (e_or (q0 rfl) rfl (fun h => by first | rfl | (rw [h]; rfl))) rfl rfl ?_
  refine XN ?_
  refine thenJ_normal ?_
  refine H_cond rfl (fun h1 => ?_) (fun h1 => ?_)
  · refine H_seq ?_
    refine R0 ?_
    refine xV (e_as (v := .int _ _) (q0 rfl)) rfl rfl ?_
    refine XN ?_
    refine thenJ_normal ?_
    refine H_ret ?_
    refine thenJ_ret ?_
    exact ret1 (v := .int _ _) rfl rfl rfl fun w' hw => ⟨ret_int (by unfold flErr; rw [if_pos h1]), hw.1⟩
  · refine H_skip ?_
    refine thenJ_normal ?_
    refine H_seq ?_
    refine H_seq ?_
    refine R0 ?_
    refine xV (e_fld Tryz.underlying24 rfl Tryz.sizeOf22 rfl (q0 rfl)) rfl rfl ?_
    refine xV (eL Tryz.isAgg22 (q0 rfl)) rfl rfl ?_
    refine xV (e_len Tryz.underlying22 (q0 rfl)) rfl rfl ?_
    refine xV (e_gt (q0 rfl) (q0 rfl)) rfl rfl ?_
    refine xV (e_mv (v := .bool _) (q0 rfl)) rfl rfl ?_
    refine xVF (e_fld Tryz.underlying24 rfl Tryz.sizeOf22 rfl (q0 rfl)) rfl rfl rfl rfl ?_
    refine xVF (eL Tryz.isAgg22 (q1 rfl)) rfl rfl rfl rfl ?_
    refine xVF (e_len Tryz.underlying22 (q1 rfl)) rfl rfl rfl rfl ?_
    refine xVF (e_gt (q1 rfl) (q0 rfl)) rfl rfl rfl rfl ?_
    refine xV (e_or (q0 rfl) rfl (fun h => by first | rfl | (rw [h]; rfl))) rfl rfl ?_
    refine XN ?_
    refine thenJ_normal ?_
    refine H_cond rfl (fun h2 => ?_) (fun h2 => ?_)
    · refine H_seq ?_
      refine R0 ?_
      refine xV (e_as (v := .int _ _) (q0 rfl)) rfl rfl ?_
      refine XN ?_
      refine thenJ_normal ?_
      refine H_ret ?_
      refine thenJ_ret ?_
      exact ret1 (v := .int _ _) rfl rfl rfl fun w' hw => ⟨ret_int (by unfold flErr; rw [if_neg (by rw [h1]; decide), if_pos (by simp at h2; omega)]), hw.1⟩
    · refine H_skip ?_
      refine thenJ_normal ?_
      refine H_seq ?_
      refine H_seq ?_
      refine R0 ?_
      refine xV (e_fld Tryz.underlying24 rfl Tryz.sizeOf22 rfl (q0 rfl)) rfl rfl ?_
      refine xV (eL Tryz.isAgg22 (q0 rfl)) rfl rfl ?_
      refine xC (en Tryz.call83 (ha2 (q0 rfl) (q0 rfl))) (fun _ w hm => rall_w a.dA a.dn a.dc f.docks 32 w (hx.docks.mem hm)) rfl rfl ?_
      refine xV (e_not (q0 rfl)) rfl rfl ?_
      refine xV (e_mv (v := .bool _) (q0 rfl)) rfl rfl ?_
      refine xVF (e_fld Tryz.underlying24 rfl Tryz.sizeOf22 rfl (q0 rfl)) rfl rfl rfl rfl ?_
      refine xVF (eL Tryz.isAgg22 (q1 rfl)) rfl rfl rfl rfl ?_
      refine xCF (en Tryz.call83 (ha2 (q1 (v := .slice _ _ _) rfl) (q0 rfl))) (fun _ w hm => rall_w a.tA a.tn a.tc f.trucks 32 w (hx.trucks.mem hm)) rfl rfl rfl rfl ?_
      refine xVF (e_not (q1 rfl)) rfl rfl rfl rfl ?_
      refine xV (e_or (q0 rfl) rfl (fun h => by first | rfl | (rw [h]; rfl))) rfl rfl ?_
      refine XN ?_
      refine thenJ_normal ?_
      refine H_cond rfl (fun h3 => ?_) (fun h3 => ?_)
      · refine H_seq ?_
        refine R0 ?_
        refine xV (e_as (v := .int _ _) (q0 rfl)) rfl rfl ?_
        refine XN ?_
        refine thenJ_normal ?_
        refine H_ret ?_
        refine thenJ_ret ?_
        exact ret1 (v := .int _ _) rfl rfl rfl fun w' hw => ⟨ret_int (by unfold flErr; rw [if_neg (by rw [h1]; decide), if_neg (by simp at h2; omega), if_pos h3]), hw.1⟩
      · refine H_skip ?_
        refine thenJ_normal ?_
        refine H_seq ?_
        refine R0 ?_
        refine xV (e_as (v := .int _ _) (q0 rfl)) rfl rfl ?_
        refine XN ?_
        refine thenJ_normal ?_
        refine H_ret ?_
        exact ret1 (v := .int _ _) rfl rfl rfl fun w' hw => ⟨ret_int (by unfold flErr; rw [if_neg (by rw [h1]; decide), if_neg (by simp at h2; omega), if_neg (by rw [h3]; decide)]), hw.1⟩

end Go.Proofs.Cus

/-
  Plain functions: rides, and what makes one right.
-/
namespace Go.Proofs.Rid
open Go.Proofs.Cus

structure Spn where
  lo : Int
  hi : Int
deriving DecidableEq, Inhabited
structure Lg where
  bike : Int
  from_ : Spn
  to_ : Spn
deriving DecidableEq, Inhabited
structure Pz where
  from_ : Spn
  to_ : Spn
deriving DecidableEq, Inhabited
structure Rd where
  id : Int
  rider : Int
  start : Spn
  end_ : Spn
  open_ : Bool
  legs : List Lg
  pauses : List Pz
  fw : Int
  fp : Int
  wh : Int
  pl : Int
deriving DecidableEq, Inhabited
def zSpn : Spn := ⟨0, 0⟩
def spOk (s : Spn) : Bool := (decide (0 ≤ s.lo) && decide (s.lo ≤ s.hi)) && decide (s.hi ≤ 4294943999)
def lgOk (g : Lg) : Bool := spOk g.from_ && spOk g.to_
def pzOk (p : Pz) : Bool := spOk p.from_ && spOk p.to_
def headBad (r : Rd) : Bool := ((((decide (r.id < 1) || decide (1000000 < r.id)) || decide (r.rider < 0)) || decide (128 ≤ r.rider)) || !spOk r.start) || !spOk r.end_
def rangedP (r : Rd) : Bool := !headBad r && (r.legs.all lgOk && r.pauses.all pzOk)
def numBad (r : Rd) : Bool := (decide ((r.legs.length : Int) < 1) || decide ((512 : Int) < r.legs.length)) || decide ((512 : Int) < r.pauses.length)
def chainP : Spn → List Lg → Spn → Bool
  | a, [], e => decide (a = e)
  | a, g :: l, e => decide (g.from_ = a) && chainP g.to_ l e
def joinedP (r : Rd) : Bool := !numBad r && chainP r.start r.legs r.end_
/-- the legs' ends in order; the last of an open ride is free -/
def legsOrd (o : Bool) : List Lg → Bool
  | [] => true
  | g :: l => !(decide (g.to_.lo < g.from_.lo) && !(o && l.isEmpty)) && legsOrd o l
def pzOrd (o : Bool) (n : Nat) (e : Int) : Int → List Pz → Bool
  | last, [] => (o || decide ((n : Int) = 0)) || decide (last ≤ e)
  | last, p :: l => if p.from_.lo < last then false else if ((o && l.isEmpty) && decide (p.to_.lo = 0)) = true then true else if p.to_.lo < p.from_.lo then false else pzOrd o n e p.to_.lo l
def orderedP (r : Rd) : Bool := legsOrd r.open_ r.legs && pzOrd r.open_ r.pauses.length r.end_.lo r.start.lo r.pauses
def checkR (r : Rd) : Int :=
  if (!rangedP r) = true then 1 else if (!joinedP r) = true then 3 else if (!orderedP r) = true then 9
  else if (r.open_ && !decide (r.end_ = zSpn)) = true then 12 else if (!(r.open_ == decide (r.wh = 3))) = true then 12 else 0
theorem drop_of {α : Type} {l : List α} {k : Nat} {x : α} (h : l[k]? = some x) : l.drop k = x :: l.drop (k + 1) := by
  obtain ⟨h1, h2⟩ := List.getElem?_eq_some_iff.1 h
  rw [List.drop_eq_getElem_cons h1, h2]
theorem drop_empty {α : Type} {l : List α} {k : Nat} (h : k < l.length) : (l.drop (k + 1)).isEmpty = decide ((k : Int) = (l.length : Int) - 1) := by
  rw [Bool.eq_iff_iff, List.isEmpty_iff, decide_eq_true_eq, List.drop_eq_nil_iff]
  omega

end Go.Proofs.Rid

/-
  The walks: rides in memory.
-/
namespace Go.Proofs.Rid
open Go Go.RowKit Go.Proofs.E Go.Proofs.Cus

theorem fl50 {fs : Array Field} (h : Tryz.prog.underlying 50 = some (.struct fs) := by exact Tryz.underlying50) : FieldsLie Tryz.prog fs [(0, 1), (1, 1)] := by
  rw [Tryz.underlying50] at h
  cases h
  intro w
  kernel_rfl
theorem fl134 {fs : Array Field} (h : Tryz.prog.underlying 134 = some (.struct fs) := by exact Tryz.underlying134) : FieldsLie Tryz.prog fs [(0, 1), (1, 2), (3, 2)] := by
  rw [Tryz.underlying134] at h
  cases h
  intro w
  kernel_rfl
theorem fl198 {fs : Array Field} (h : Tryz.prog.underlying 198 = some (.struct fs) := by exact Tryz.underlying198) : FieldsLie Tryz.prog fs [(0, 2), (2, 2)] := by
  rw [Tryz.underlying198] at h
  cases h
  intro w
  kernel_rfl
theorem fl54 {fs : Array Field} (h : Tryz.prog.underlying 54 = some (.struct fs) := by exact Tryz.underlying54) : FieldsLie Tryz.prog fs [(0, 1), (1, 1), (2, 2), (4, 2), (6, 1), (7, 1), (8, 1), (9, 1), (10, 1), (11, 1), (12, 1)] := by
  rw [Tryz.underlying54] at h
  cases h
  intro w
  kernel_rfl
def Spn.cells (s : Spn) : List Value := [.int .i64 s.lo, .int .i64 s.hi]
def Lg.cells (g : Lg) : List Value := [.int .i64 g.bike, .int .i64 g.from_.lo, .int .i64 g.from_.hi, .int .i64 g.to_.lo, .int .i64 g.to_.hi]
def Pz.cells (p : Pz) : List Value := [.int .i64 p.from_.lo, .int .i64 p.from_.hi, .int .i64 p.to_.lo, .int .i64 p.to_.hi]
/-- where the lists of a ride lie -/
structure RPl where
  lA : Option Addr
  lc : Nat
  pA : Option Addr
  pc : Nat
deriving Inhabited
structure RX where
  r : Rd
  a : RPl
deriving Inhabited
def Rd.cellsAt (r : Rd) (a : RPl) (ln pn : Nat) : List Value :=
  [.int .i64 r.id, .int .i64 r.rider, .int .i64 r.start.lo, .int .i64 r.start.hi, .int .i64 r.end_.lo, .int .i64 r.end_.hi, .bool r.open_, .slice a.lA ln a.lc, .slice a.pA pn a.pc, .int .i64 r.fw, .int .i64 r.fp, .int .i64 r.wh, .int .i64 r.pl]
def RX.cells (x : RX) : List Value := x.r.cellsAt x.a x.r.legs.length x.r.pauses.length
abbrev lgRow (A : Option Addr) (c : Nat) (l : List Lg) : E.Item := rowT 134 5 Lg.cells A c l
abbrev pzRow (A : Option Addr) (c : Nat) (l : List Pz) : E.Item := rowT 198 4 Pz.cells A c l
abbrev rdRow (A : Option Addr) (c : Nat) (l : List RX) : E.Item := rowT 54 13 RX.cells A c l
def rdParts (x : RX) : List E.Item := [lgRow x.a.lA x.a.lc x.r.legs, pzRow x.a.pA x.a.pc x.r.pauses]
def rdBag (xs : List RX) : E.Item := bag (xs.flatMap rdParts)
theorem rdBag_due (xs : List RX) : (rdBag xs).due = [] := rfl
def encB (b : Bool) : List Value := [.bool b]
abbrev blRow (A : Option Addr) (c : Nat) (l : List Bool) : E.Item := rowT 4 1 encB A c l
abbrev inRow (A : Option Addr) (c : Nat) (xs : List Int) : E.Item := rowT 3 1 encInt A c xs


end Go.Proofs.Rid

/-
  The walks: is a ride right (the program's way).
-/
namespace Go.Proofs.Rid
open Go Go.RowKit Go.Proofs.E Go.Proofs.Cus

/-- what a ride's lists read as -/
structure RdAt (w : World) (x : RX) : Prop where
  legs : SlAt w 5 Lg.cells x.a.lA x.r.legs.length x.r.legs
  pauses : SlAt w 4 Pz.cells x.a.pA x.r.pauses.length x.r.pauses
theorem RdAt.mem {w0 w : World} {L : List E.Item} {x : RX} (h : RdAt w0 x) (hm : Mem w0 L w) : RdAt w x := ⟨h.legs.mem hm, h.pauses.mem hm⟩
def RdsAt (w : World) (A : Option Addr) (n : Nat) (xs : List RX) : Prop := SlAt w 13 RX.cells A n xs ∧ ∀ x ∈ xs, RdAt w x
theorem RdsAt.mem {w0 w : World} {L : List E.Item} {A : Option Addr} {n : Nat} {xs : List RX} (h : RdsAt w0 A n xs) (hm : Mem w0 L w) : RdsAt w A n xs := ⟨h.1.mem hm, fun x hx => (h.2 x hx).mem hm⟩
theorem bag_reads {w0 w : World} {L : List E.Item} {xs : List RX} (hw : Mem w0 L w) {k : Nat} (hk : L[k]? = some (rdBag xs)) (hl : ∀ x ∈ xs, x.r.legs.length ≤ 100000 ∧ x.r.pauses.length ≤ 100000) : ∀ x ∈ xs, RdAt w x := fun x hx => by
  have h1 := (hw.front hk).unbag
  have hm : ∀ it ∈ rdParts x, it ∈ xs.flatMap rdParts ++ L.eraseIdx k := fun it hi => List.mem_append.2 (.inl (List.mem_flatMap.2 ⟨x, hx, hi⟩))
  obtain ⟨i, hi⟩ := List.mem_iff_getElem?.1 (hm (lgRow x.a.lA x.a.lc x.r.legs) (by simp [rdParts]))
  obtain ⟨j, hj⟩ := List.mem_iff_getElem?.1 (hm (pzRow x.a.pA x.a.pc x.r.pauses) (by simp [rdParts]))
  have := hl x hx
  exact ⟨slAt_row h1 hi (fun _ => rfl) (by omega), slAt_row h1 hj (fun _ => rfl) (by omega)⟩
theorem rds_items {w0 w : World} {L : List E.Item} {A : Option Addr} {c : Nat} {xs : List RX} (hw : Mem w0 L w) {j k : Nat} (hj : L[j]? = some (rdRow A c xs)) (hk : L[k]? = some (rdBag xs)) (hn : xs.length ≤ 100000) (hl : ∀ x ∈ xs, x.r.legs.length ≤ 100000 ∧ x.r.pauses.length ≤ 100000) : RdsAt w A xs.length xs :=
  ⟨slAt_row hw hj (fun _ => rfl) (by omega), bag_reads hw hk hl⟩

theorem eqSpn (x y : Spn) (w : World) : (Op.equal 50 (.agg x.cells.toArray) (.agg y.cells.toArray)).run Tryz.prog w = .ok (decide (x = y)) w := by
  have h : (Op.equalIn 10000 50 (.agg x.cells.toArray) (.agg y.cells.toArray)).run Tryz.prog w = .ok (x.lo == y.lo && (x.hi == y.hi && true)) w :=
    eqS_of w Tryz.underlying50 (by kernel_rfl) (eqF_cons w (by decide) (run_part_one w Tryz.isAgg3 rfl) (run_part_one w Tryz.isAgg3 rfl) (run_equalIn_int w _ _ .i64 .i64 _ _ Tryz.underlying3) (eqF_cons w (by decide) (run_part_one w Tryz.isAgg3 rfl) (run_part_one w Tryz.isAgg3 rfl) (run_equalIn_int w _ _ .i64 .i64 _ _ Tryz.underlying3) (eqF_nil w)))
  have e : (x.lo == y.lo && (x.hi == y.hi && true)) = decide (x = y) := by
    rw [Bool.eq_iff_iff]
    cases x; cases y
    simp
  rw [← e]; exact h
theorem valid_w (s : Spn) (w : World) : Calls Tryz.prog 173 #[.agg s.cells.toArray] w fun e w' => e = .returned (.bool (spOk s)) ∧ Bel w w' := by
  refine H_enter Tryz.func173 rfl Tryz.ntmps173 rfl (H_seq (R0 (X_box (v := .agg _) rfl rfl fun b1 => (xv (asB rfl) (XN (thenJ_normal (H_seq (R0 (xv (e_fld Tryz.underlying50 rfl Tryz.sizeOf3 rfl (q0 rfl)) ?_)))))))))
  refine xv (eL Tryz.isAgg3 (q0 rfl)) ?_
  refine xv (e_ge (q0 rfl) (q0 rfl)) (xv (mvB rfl) (xt (e_fld Tryz.underlying50 rfl Tryz.sizeOf3 rfl (q0 rfl)) rfl rfl (xt (eL Tryz.isAgg3 (q1 rfl)) rfl rfl ?_)))
  refine xt (e_fld Tryz.underlying50 rfl Tryz.sizeOf3 rfl (q0 rfl)) rfl rfl (xt (eL Tryz.isAgg3 (q1 rfl)) rfl rfl ?_)
  refine xt (e_le (q1 rfl) (q1 rfl)) rfl rfl (xv (e_and (q0 rfl) rfl (fun h => by first | rfl | (rw [h]; rfl))) ?_)
  refine xv (mvB rfl) (xt (e_fld Tryz.underlying50 rfl Tryz.sizeOf3 rfl (q0 rfl)) rfl rfl (xt (eL Tryz.isAgg3 (q1 rfl)) rfl rfl ?_))
  refine xt (e_le (q1 rfl) (q0 rfl)) rfl rfl (xv (e_and (q0 rfl) rfl (fun h => by first | rfl | (rw [h]; rfl))) ?_)
  refine xv (asB rfl) (XN (thenJ_normal (H_ret ?_)))
  exact ret1 (v := .bool _) rfl rfl rfl fun w' hw => ⟨rfl, hw.1⟩
set_option maxHeartbeats 1000000 in
set_option maxRecDepth 20000 in
theorem ranged_w (x : RX) (w : World) (hx : RdAt w x) : Calls Tryz.prog 124 #[.agg x.cells.toArray] w fun e w' => e = .returned (.bool (rangedP x.r)) ∧ Bel w w' := by
  obtain ⟨r, ⟨lA, lc, pA, pc⟩⟩ := x
  obtain ⟨hlg, hpz⟩ := hx
  simp only at hlg hpz
  have hln := hlg.2.1
  have hpn := hpz.2.1
  refine H_enter Tryz.func124 rfl Tryz.ntmps124 rfl (H_seq (R0 (X_box (v := .agg _) rfl rfl fun b1 => (xv (asB rfl) (XN (thenJ_normal (H_seq (H_seq (R0 ?_)))))))))
  refine xv (e_fld Tryz.underlying54 rfl Tryz.sizeOf3 rfl (q0 rfl)) (xv (eL Tryz.isAgg3 (q0 rfl)) ?_)
  refine xv (e_lt (q0 rfl) (q0 rfl)) (xv (mvB rfl) (xf (e_fld Tryz.underlying54 rfl Tryz.sizeOf3 rfl (q0 rfl)) rfl rfl (xf (eL Tryz.isAgg3 (q1 rfl)) rfl rfl ?_)))
  refine xf (e_gt (q1 rfl) (q0 rfl)) rfl rfl (xv (e_or (q0 rfl) rfl (fun h => by first | rfl | (rw [h]; rfl))) ?_)
  refine xv (mvB rfl) (xf (e_fld Tryz.underlying54 rfl Tryz.sizeOf3 rfl (q0 rfl)) rfl rfl (xf (eL Tryz.isAgg3 (q1 rfl)) rfl rfl ?_))
  refine xf (e_lt (q1 rfl) (q0 rfl)) rfl rfl (xv (e_or (q0 rfl) rfl (fun h => by first | rfl | (rw [h]; rfl))) ?_)
  refine xv (mvB rfl) (xf (e_fld Tryz.underlying54 rfl Tryz.sizeOf3 rfl (q0 rfl)) rfl rfl (xf (eL Tryz.isAgg3 (q1 rfl)) rfl rfl ?_))
  refine xf (e_ge (q1 rfl) (q0 rfl)) rfl rfl (xv (e_or (q0 rfl) rfl (fun h => by first | rfl | (rw [h]; rfl))) ?_)
  refine xv (mvB rfl) (xf (e_fld Tryz.underlying54 rfl Tryz.sizeOf50 rfl (q0 rfl)) rfl rfl (xf (eP Tryz.isAgg50 Tryz.sizeOf50 (q1 rfl)) rfl rfl ?_))
  refine xCF (en Tryz.call173 (ha1 (q1 (v := .agg _) rfl))) (fun _ w _ => valid_w r.start w) rfl rfl rfl rfl (xf (e_not (q1 rfl)) rfl rfl (xv (e_or (q0 rfl) rfl (fun h => by first | rfl | (rw [h]; rfl))) ?_))
  refine xv (mvB rfl) (xf (e_fld Tryz.underlying54 rfl Tryz.sizeOf50 rfl (q0 rfl)) rfl rfl (xf (eP Tryz.isAgg50 Tryz.sizeOf50 (q1 rfl)) rfl rfl ?_))
  refine xCF (en Tryz.call173 (ha1 (q1 (v := .agg _) rfl))) (fun _ w _ => valid_w r.end_ w) rfl rfl rfl rfl (xf (e_not (q1 rfl)) rfl rfl (xv (e_or (q0 rfl) rfl (fun h => by first | rfl | (rw [h]; rfl))) ?_))
  refine XN (thenJ_normal (H_cond rfl (fun h1 => ?_) (fun h1 => ?_)))
  · refine H_seq (R0 (xv (asB rfl) (XN (thenJ_normal (H_ret (thenJ_ret ?_))))))
    exact ret1 (v := .bool _) rfl rfl rfl fun w' hw => ⟨ret_bool (by unfold rangedP; rw [show headBad r = true from h1]; rfl), hw.1⟩
  · have hrg : rangedP r = (r.legs.all lgOk && r.pauses.all pzOk) := by unfold rangedP; rw [show headBad r = false from h1]; rfl
    rw [hrg]
    refine H_skip (thenJ_normal (H_seq (H_seq (R0 (xv (e_fld Tryz.underlying54 rfl Tryz.sizeOf51 rfl (q0 rfl)) (xv (eL Tryz.isAgg51 (q0 rfl)) ?_))))))
    refine xv (e_len Tryz.underlying51 (q0 rfl)) (xv (mvI rfl) (XN (thenJ_normal (H_block (H_loop [2, 4, 40, 41, 42, 43, 44, 45, 46, 47, 48, 49, 50, 51, 52, 53, 54] (fun k : Nat => [(40, .int .i64 k)]) (fun _ => [box b1 54 (RX.cells ⟨r, ⟨lA, lc, pA, pc⟩⟩)]) (fun k => k ≤ r.legs.length ∧ r.legs.all lgOk = (r.legs.drop k).all lgOk) (fun k => r.legs.length - k) 0 ⟨rfl, trivial⟩ (fun w hw => hw) rfl ⟨Nat.zero_le _, rfl⟩ ?_)))))
    rintro k g ⟨hk, hall⟩
    refine H_seq (R0 (xv (e_lt (q0 rfl) (q0 rfl)) (XN (thenJ_normal (H_seq (H_cond rfl (fun hlt => ?_) (fun hlt => ?_)))))))
    · have hlt' : k < r.legs.length := by simpa using hlt
      obtain ⟨b, off, y, rfl, hbl, hy, hry⟩ := hlg.at_ hlt'
      rw [drop_of hy, List.all_cons] at hall
      refine H_skip (thenJ_normal (H_seq (H_block (H_seq (R0 (xv (e_idx _ Tryz.underlying51 Tryz.sizeOf134 (q0 rfl) (q0 rfl) (fun _ => ⟨rfl, by omega⟩)) (xv (eS Tryz.isAgg134 Tryz.sizeOf134 (q0 rfl)) ?_)))))))
      refine X_alloc Tryz.zeroValue134 rfl fun b4 => (X_st (v := .agg _) rfl rfl Tryz.sizeOf134 ?_)
      refine XN (thenJ_normal (H_seq (R0 (xv (e_fld Tryz.underlying134 rfl Tryz.sizeOf50 rfl (q0 rfl)) (xv (eP Tryz.isAgg50 Tryz.sizeOf50 (q0 rfl)) ?_)))))
      refine xC (en Tryz.call173 (ha1 (q0 rfl))) (fun _ w _ => valid_w y.from_ w) rfl rfl (xv (e_not (q0 rfl)) (xv (mvB rfl) (xf (e_fld Tryz.underlying134 rfl Tryz.sizeOf50 rfl (q0 rfl)) rfl rfl (xf (eP Tryz.isAgg50 Tryz.sizeOf50 (q1 rfl)) rfl rfl ?_))))
      refine xCF (en Tryz.call173 (ha1 (q1 (v := .agg _) rfl))) (fun _ w _ => valid_w y.to_ w) rfl rfl rfl rfl (xf (e_not (q1 rfl)) rfl rfl (xv (e_or (q0 rfl) rfl (fun h => by first | rfl | (rw [h]; rfl))) ?_))
      refine XN (thenJ_normal (H_cond rfl (fun hb => ?_) (fun hb => ?_)))
      · have hy0 : lgOk y = false := by unfold lgOk; revert hb; cases spOk y.from_ <;> cases spOk y.to_ <;> simp
        rw [hall, hy0]
        refine H_seq (R0 (xv (asB rfl) (XN (thenJ_normal (H_ret (blockJ_ret (thenJ_ret (loopJ_ret (blockJ_ret ?_)))))))))
        refine thenJ_ret ?_
        exact ret1 (v := .bool _) rfl rfl rfl fun w' hw => ⟨rfl, hw.1⟩
      · have hy1 : lgOk y = true := by unfold lgOk; revert hb; cases spOk y.from_ <;> cases spOk y.to_ <;> simp
        rw [hy1, Bool.true_and] at hall
        refine H_skip (blockJ_normal (thenJ_normal (R0 (xv (e_add (q0 rfl) (q0 rfl) (fun _ => ⟨rfl, by omega, by omega⟩)) (xv (mvI rfl) (XN ?_))))))
        exact loopJ_normal (k + 1) agr ⟨rfl, trivial⟩ (fun w hw => hw.tail) rfl ⟨by omega, hall⟩ (by show r.legs.length - (k + 1) < r.legs.length - k; omega)
    · have hend : k = r.legs.length := by simp at hlt; omega
      rw [hall, hend, List.drop_length, List.all_nil, Bool.true_and]
      refine H_exit (thenJ_exit (loopJ_exit (blockJ_hit (thenJ_normal (H_seq (H_seq (R0 (xv (e_fld Tryz.underlying54 rfl Tryz.sizeOf52 rfl (q0 rfl)) (xv (eL Tryz.isAgg52 (q0 rfl)) ?_)))))))))
      refine xv (e_len Tryz.underlying52 (q0 rfl)) (xv (mvI rfl) (XN (thenJ_normal (H_block (H_loop [2, 6, 58, 59, 60, 61, 62, 63, 64, 65, 66, 67, 68, 69, 70, 71, 72] (fun k : Nat => [(58, .int .i64 k)]) (fun _ => [box b1 54 (RX.cells ⟨r, ⟨lA, lc, pA, pc⟩⟩)]) (fun k => k ≤ r.pauses.length ∧ r.pauses.all pzOk = (r.pauses.drop k).all pzOk) (fun k => r.pauses.length - k) 0 ⟨rfl, trivial⟩ (fun w hw => hw) rfl ⟨Nat.zero_le _, rfl⟩ ?_)))))
      rintro q g2 ⟨hq, hall2⟩
      refine H_seq (R0 (xv (e_lt (q0 rfl) (q0 rfl)) (XN (thenJ_normal (H_seq (H_cond rfl (fun hlt2 => ?_) (fun hlt2 => ?_)))))))
      · have hlt2' : q < r.pauses.length := by simpa using hlt2
        obtain ⟨b, off, y, rfl, hbl, hy, hry⟩ := hpz.at_ hlt2'
        rw [drop_of hy, List.all_cons] at hall2
        refine H_skip (thenJ_normal (H_seq (H_block (H_seq (R0 (xv (e_idx _ Tryz.underlying52 Tryz.sizeOf198 (q0 rfl) (q0 rfl) (fun _ => ⟨rfl, by omega⟩)) (xv (eS Tryz.isAgg198 Tryz.sizeOf198 (q0 rfl)) ?_)))))))
        refine X_alloc Tryz.zeroValue198 rfl fun b6 => (X_st (v := .agg _) rfl rfl Tryz.sizeOf198 ?_)
        refine XN (thenJ_normal (H_seq (R0 (xv (e_fld Tryz.underlying198 rfl Tryz.sizeOf50 rfl (q0 rfl)) (xv (eP Tryz.isAgg50 Tryz.sizeOf50 (q0 rfl)) ?_)))))
        refine xC (en Tryz.call173 (ha1 (q0 rfl))) (fun _ w _ => valid_w y.from_ w) rfl rfl (xv (e_not (q0 rfl)) (xv (mvB rfl) (xf (e_fld Tryz.underlying198 rfl Tryz.sizeOf50 rfl (q0 rfl)) rfl rfl (xf (eP Tryz.isAgg50 Tryz.sizeOf50 (q1 rfl)) rfl rfl ?_))))
        refine xCF (en Tryz.call173 (ha1 (q1 (v := .agg _) rfl))) (fun _ w _ => valid_w y.to_ w) rfl rfl rfl rfl (xf (e_not (q1 rfl)) rfl rfl (xv (e_or (q0 rfl) rfl (fun h => by first | rfl | (rw [h]; rfl))) ?_))
        refine XN (thenJ_normal (H_cond rfl (fun hb => ?_) (fun hb => ?_)))
        · have hy0 : pzOk y = false := by unfold pzOk; revert hb; cases spOk y.from_ <;> cases spOk y.to_ <;> simp
          rw [hall2, hy0]
          refine H_seq (R0 (xv (asB rfl) (XN (thenJ_normal (H_ret (blockJ_ret (thenJ_ret (loopJ_ret (blockJ_ret ?_)))))))))
          refine thenJ_ret ?_
          exact ret1 (v := .bool _) rfl rfl rfl fun w' hw => ⟨rfl, hw.1⟩
        · have hy1 : pzOk y = true := by unfold pzOk; revert hb; cases spOk y.from_ <;> cases spOk y.to_ <;> simp
          rw [hy1, Bool.true_and] at hall2
          refine H_skip (blockJ_normal (thenJ_normal (R0 (xv (e_add (q0 rfl) (q0 rfl) (fun _ => ⟨rfl, by omega, by omega⟩)) (xv (mvI rfl) (XN ?_))))))
          exact loopJ_normal (q + 1) agr ⟨rfl, trivial⟩ (fun w hw => hw.tail) rfl ⟨by omega, hall2⟩ (by show r.pauses.length - (q + 1) < r.pauses.length - q; omega)
      · have hend2 : q = r.pauses.length := by simp at hlt2; omega
        rw [hall2, hend2, List.drop_length, List.all_nil]
        refine H_exit (thenJ_exit (loopJ_exit (blockJ_hit (thenJ_normal (H_seq (R0 (xv (asB rfl) (XN (thenJ_normal ?_)))))))))
        refine H_ret ?_
        exact ret1 (v := .bool _) rfl rfl rfl fun w' hw => ⟨rfl, hw.1⟩
set_option maxRecDepth 20000 in
theorem joined_w (x : RX) (w : World) (hx : RdAt w x) : Calls Tryz.prog 125 #[.agg x.cells.toArray] w fun e w' => e = .returned (.bool (joinedP x.r)) ∧ Bel w w' := by
  obtain ⟨r, ⟨lA, lc, pA, pc⟩⟩ := x
  obtain ⟨hlg, hpz⟩ := hx
  simp only at hlg hpz
  have hln := hlg.2.1
  have hpn := hpz.2.1
  refine H_enter Tryz.func125 rfl Tryz.ntmps125 rfl (H_seq (R0 (X_box (v := .agg _) rfl rfl fun b1 => (xv (asB rfl) (XN (thenJ_normal (H_seq (H_seq (R0 ?_)))))))))
  refine xv (e_fld Tryz.underlying54 rfl Tryz.sizeOf51 rfl (q0 rfl)) (xv (eL Tryz.isAgg51 (q0 rfl)) ?_)
  refine xv (e_len Tryz.underlying51 (q0 rfl)) (xv (e_lt (q0 rfl) (q0 rfl)) (xv (mvB rfl) (xf (e_fld Tryz.underlying54 rfl Tryz.sizeOf51 rfl (q0 rfl)) rfl rfl (xf (eL Tryz.isAgg51 (q1 rfl)) rfl rfl ?_))))
  refine xf (e_len Tryz.underlying51 (q1 rfl)) rfl rfl (xf (e_gt (q1 rfl) (q0 rfl)) rfl rfl (xv (e_or (q0 rfl) rfl (fun h => by first | rfl | (rw [h]; rfl))) ?_))
  refine xv (mvB rfl) (xf (e_fld Tryz.underlying54 rfl Tryz.sizeOf52 rfl (q0 rfl)) rfl rfl (xf (eL Tryz.isAgg52 (q1 rfl)) rfl rfl ?_))
  refine xf (e_len Tryz.underlying52 (q1 rfl)) rfl rfl (xf (e_gt (q1 rfl) (q0 rfl)) rfl rfl (xv (e_or (q0 rfl) rfl (fun h => by first | rfl | (rw [h]; rfl))) ?_))
  refine XN (thenJ_normal (H_cond rfl (fun h1 => ?_) (fun h1 => ?_)))
  · refine H_seq (R0 (xv (asB rfl) (XN (thenJ_normal (H_ret (thenJ_ret ?_))))))
    exact ret1 (v := .bool _) rfl rfl rfl fun w' hw => ⟨ret_bool (by unfold joinedP; rw [show numBad r = true from h1]; rfl), hw.1⟩
  · have hj : joinedP r = chainP r.start r.legs r.end_ := by unfold joinedP; rw [show numBad r = false from h1]; rfl
    rw [hj]
    refine H_skip (thenJ_normal (H_seq (R0 (xv (e_fld Tryz.underlying54 rfl Tryz.sizeOf50 rfl (q0 rfl)) (xv (eP Tryz.isAgg50 Tryz.sizeOf50 (q0 rfl)) ?_)))))
    refine X_alloc Tryz.zeroValue50 rfl fun b3 => (X_st (v := .agg _) rfl rfl Tryz.sizeOf50 ?_)
    refine XN (thenJ_normal (H_seq (H_seq (R0 (xv (e_fld Tryz.underlying54 rfl Tryz.sizeOf51 rfl (q0 rfl)) (xv (eL Tryz.isAgg51 (q0 rfl)) ?_))))))
    refine xv (e_len Tryz.underlying51 (q0 rfl)) (xv (mvI rfl) (XN (thenJ_normal (H_block (H_loop [2, 5, 27, 28, 29, 30, 31, 32, 33, 34, 35, 36, 37] (fun q : Nat × Spn => [(27, .int .i64 q.1)]) (fun q => [box b3 50 q.2.cells, box b1 54 (RX.cells ⟨r, ⟨lA, lc, pA, pc⟩⟩)]) (fun q => q.1 ≤ r.legs.length ∧ chainP r.start r.legs r.end_ = chainP q.2 (r.legs.drop q.1) r.end_) (fun q => r.legs.length - q.1) (0, r.start) ⟨rfl, trivial⟩ (fun w hw => hw) rfl ⟨Nat.zero_le _, rfl⟩ ?_)))))
    rintro ⟨k, at_⟩ g ⟨hk, hall⟩
    simp only at hk hall
    refine H_seq (R0 (xv (e_lt (q0 rfl) (q0 rfl)) (XN (thenJ_normal (H_seq (H_cond rfl (fun hlt => ?_) (fun hlt => ?_)))))))
    · have hlt' : k < r.legs.length := by simpa using hlt
      obtain ⟨b, off, y, rfl, hbl, hy, hry⟩ := hlg.at_ hlt'
      rw [drop_of hy] at hall
      refine H_skip (thenJ_normal (H_seq (H_block (H_seq (R0 (xv (e_idx _ Tryz.underlying51 Tryz.sizeOf134 (q0 rfl) (q0 rfl) (fun _ => ⟨rfl, by omega⟩)) (xv (eS Tryz.isAgg134 Tryz.sizeOf134 (q0 rfl)) ?_)))))))
      refine X_alloc Tryz.zeroValue134 rfl fun b5 => (X_st (v := .agg _) rfl rfl Tryz.sizeOf134 ?_)
      refine XN (thenJ_normal (H_seq (H_seq (R0 (xv (e_fld Tryz.underlying134 rfl Tryz.sizeOf50 rfl (q0 rfl)) (xv (eP Tryz.isAgg50 Tryz.sizeOf50 (q0 rfl)) ?_))))))
      refine xv (eS Tryz.isAgg50 Tryz.sizeOf50 (q0 rfl)) ?_
      refine xv (e_neS (fun w => eqSpn y.from_ at_ w) (by kernel_rfl) (q0 rfl) (q0 rfl)) (XN (thenJ_normal (H_cond rfl (fun hb => ?_) (fun hb => ?_))))
      · have hne : decide (y.from_ = at_) = false := by simpa using hb
        have hfin : chainP at_ (y :: r.legs.drop (k + 1)) r.end_ = false := by simp only [chainP, hne, Bool.false_and]
        rw [hall, hfin]
        refine H_seq (R0 (xv (asB rfl) (XN (thenJ_normal (H_ret (thenJ_ret (blockJ_ret (thenJ_ret (loopJ_ret ?_)))))))))
        refine blockJ_ret (thenJ_ret ?_)
        exact ret1 (v := .bool _) rfl rfl rfl fun w' hw => ⟨rfl, hw.1⟩
      · have heq : decide (y.from_ = at_) = true := by simpa using hb
        have hfin : chainP at_ (y :: r.legs.drop (k + 1)) r.end_ = chainP y.to_ (r.legs.drop (k + 1)) r.end_ := by simp only [chainP, heq, Bool.true_and]
        rw [hfin] at hall
        refine H_skip (thenJ_normal (R0 (xv (e_fld Tryz.underlying134 rfl Tryz.sizeOf50 rfl (q0 rfl)) (xv (eP Tryz.isAgg50 Tryz.sizeOf50 (q0 rfl)) ?_))))
        refine X_st (v := .agg _) rfl rfl Tryz.sizeOf50 ?_
        refine XN (blockJ_normal (thenJ_normal (R0 (xv (e_add (q0 rfl) (q0 rfl) (fun _ => ⟨rfl, by omega, by omega⟩)) (xv (mvI rfl) (XN ?_))))))
        exact loopJ_normal (k + 1, y.to_) agr ⟨rfl, trivial⟩ (fun w hw => hw.tail) rfl ⟨by show k + 1 ≤ _; omega, hall⟩ (by show r.legs.length - (k + 1) < r.legs.length - k; omega)
    · have hend : k = r.legs.length := by simp at hlt; omega
      rw [hend, List.drop_length] at hall
      rw [hall]
      refine H_exit (thenJ_exit (loopJ_exit (blockJ_hit (thenJ_normal (H_seq (R0 (xv (eS Tryz.isAgg50 Tryz.sizeOf50 (q0 rfl)) ?_)))))))
      refine xv (e_fld Tryz.underlying54 rfl Tryz.sizeOf50 rfl (q0 rfl)) (xv (eP Tryz.isAgg50 Tryz.sizeOf50 (q0 rfl)) ?_)
      refine xv (e_eqS (fun w => eqSpn at_ r.end_ w) (by kernel_rfl) (q0 rfl) (q0 rfl)) (xv (asB rfl) (XN (thenJ_normal (H_ret ?_))))
      exact ret1 (v := .bool _) rfl rfl rfl fun w' hw => ⟨rfl, hw.1⟩
set_option maxHeartbeats 1000000 in
set_option maxRecDepth 20000 in
theorem ordered_w (x : RX) (w : World) (hx : RdAt w x) (hl : x.r.legs.length ≤ 1000000) (hp : x.r.pauses.length ≤ 1000000) : Calls Tryz.prog 126 #[.agg x.cells.toArray] w fun e w' => e = .returned (.bool (orderedP x.r)) ∧ Bel w w' := by
  obtain ⟨r, ⟨lA, lc, pA, pc⟩⟩ := x
  obtain ⟨hlg, hpz⟩ := hx
  simp only at hlg hpz hl hp
  refine H_enter Tryz.func126 rfl Tryz.ntmps126 rfl (H_seq (R0 (X_box (v := .agg _) rfl rfl fun b1 => (xv (asB rfl) (XN (thenJ_normal (H_seq (H_seq (R0 ?_)))))))))
  refine xv (e_fld Tryz.underlying54 rfl Tryz.sizeOf51 rfl (q0 rfl)) (xv (eL Tryz.isAgg51 (q0 rfl)) ?_)
  refine xv (e_len Tryz.underlying51 (q0 rfl)) (xv (mvI rfl) (XN (thenJ_normal (H_block (H_loop [2, 3, 4, 11, 12, 13, 14, 15, 16, 17, 18, 19, 20, 21, 22, 23, 24, 25, 26, 27, 28, 29, 30, 31, 32, 33, 34, 35, 36] (fun k : Nat => [(11, .int .i64 k)]) (fun _ => [box b1 54 (RX.cells ⟨r, ⟨lA, lc, pA, pc⟩⟩)]) (fun k => k ≤ r.legs.length ∧ legsOrd r.open_ r.legs = legsOrd r.open_ (r.legs.drop k)) (fun k => r.legs.length - k) 0 ⟨rfl, trivial⟩ (fun w hw => hw) rfl ⟨Nat.zero_le _, rfl⟩ ?_)))))
  rintro k g ⟨hk, hall⟩
  refine H_seq (R0 (xv (e_lt (q0 rfl) (q0 rfl)) (XN (thenJ_normal (H_seq (H_cond rfl (fun hlt => ?_) (fun hlt => ?_)))))))
  · have hlt' : k < r.legs.length := by simpa using hlt
    obtain ⟨b, off, y, rfl, hbl, hy, hry⟩ := hlg.at_ hlt'
    rw [drop_of hy] at hall
    have hst : legsOrd r.open_ (y :: r.legs.drop (k + 1)) = (!(decide (y.to_.lo < y.from_.lo) && !(r.open_ && decide ((k : Int) = (r.legs.length : Int) - 1))) && legsOrd r.open_ (r.legs.drop (k + 1))) := by simp only [legsOrd, drop_empty hlt']
    rw [hst] at hall
    refine H_skip (thenJ_normal (H_seq (H_block (H_seq (R0 (xv (mvI rfl) (xv (e_idx _ Tryz.underlying51 Tryz.sizeOf134 (q0 rfl) (q0 rfl) (fun _ => ⟨rfl, by omega⟩)) (xv (eS Tryz.isAgg134 Tryz.sizeOf134 (q0 rfl)) ?_))))))))
    refine X_alloc Tryz.zeroValue134 rfl fun b4 => (xv (asI rfl) (X_st (v := .agg _) rfl rfl Tryz.sizeOf134 ?_))
    refine XN (thenJ_normal (H_seq (R0 (xv (e_fld Tryz.underlying134 rfl Tryz.sizeOf50 rfl (q0 rfl)) (xv (e_fld Tryz.underlying50 rfl Tryz.sizeOf3 rfl (q0 rfl)) (xv (eL Tryz.isAgg3 (q0 rfl)) ?_))))))
    refine xv (e_fld Tryz.underlying134 rfl Tryz.sizeOf50 rfl (q0 rfl)) (xv (e_fld Tryz.underlying50 rfl Tryz.sizeOf3 rfl (q0 rfl)) (xv (eL Tryz.isAgg3 (q0 rfl)) ?_))
    refine xv (e_gt (q0 rfl) (q0 rfl)) (xv (mvB rfl) (xt (e_fld Tryz.underlying54 rfl Tryz.sizeOf4 rfl (q0 rfl)) rfl rfl (xt (eL Tryz.isAgg4 (q1 rfl)) rfl rfl ?_)))
    refine xt (e_mv (v := .bool _) (q1 rfl)) rfl rfl (xVT2 (mvI rfl) rfl rfl rfl rfl (xVT2 (e_fld Tryz.underlying54 rfl Tryz.sizeOf51 rfl (q0 rfl)) rfl rfl rfl rfl (xVT2 (eL Tryz.isAgg51 (q1 rfl)) rfl rfl rfl rfl ?_)))
    refine xVT2 (e_len Tryz.underlying51 (q1 rfl)) rfl rfl rfl rfl (xVT2 (e_sub (q1 rfl) (q0 rfl) (fun _ => ⟨rfl, by simp only; omega, by simp only; omega⟩)) rfl rfl rfl rfl (xVT2 (e_eq (q1 rfl) (q1 rfl)) rfl rfl rfl rfl (xt (e_and (q1 rfl) rfl (fun h => by first | rfl | (rw [h]; rfl))) rfl rfl ?_)))
    refine xt (e_not (q1 rfl)) rfl rfl (xv (e_and (q0 rfl) rfl (fun h => by first | rfl | (rw [h]; rfl))) ?_)
    refine XN (thenJ_normal (H_cond rfl (fun hb => ?_) (fun hb => ?_)))
    · have hord : orderedP r = false := by
        unfold orderedP
        rw [hall, show (decide (y.to_.lo < y.from_.lo) && !(r.open_ && decide ((k : Int) = (r.legs.length : Int) - 1))) = true from hb]
        rfl
      rw [hord]
      refine H_seq (R0 (xv (asB rfl) (XN (thenJ_normal (H_ret (blockJ_ret (thenJ_ret (loopJ_ret (blockJ_ret ?_)))))))))
      refine thenJ_ret ?_
      exact ret1 (v := .bool _) rfl rfl rfl fun w' hw => ⟨rfl, hw.1⟩
    · rw [show (decide (y.to_.lo < y.from_.lo) && !(r.open_ && decide ((k : Int) = (r.legs.length : Int) - 1))) = false from hb, Bool.not_false, Bool.true_and] at hall
      refine H_skip (blockJ_normal (thenJ_normal (R0 (xv (e_add (q0 rfl) (q0 rfl) (fun _ => ⟨rfl, by omega, by omega⟩)) (xv (mvI rfl) (XN ?_))))))
      exact loopJ_normal (k + 1) agr ⟨rfl, trivial⟩ (fun w hw => hw.tail) rfl ⟨by omega, hall⟩ (by show r.legs.length - (k + 1) < r.legs.length - k; omega)
  · have hend : k = r.legs.length := by simp at hlt; omega
    rw [hend, List.drop_length] at hall
    have hord : orderedP r = pzOrd r.open_ r.pauses.length r.end_.lo r.start.lo r.pauses := by unfold orderedP; rw [hall]; rfl
    rw [hord]
    refine H_exit (thenJ_exit (loopJ_exit (blockJ_hit (thenJ_normal (H_seq (R0 (xv (e_fld Tryz.underlying54 rfl Tryz.sizeOf50 rfl (q0 rfl)) (xv (e_fld Tryz.underlying50 rfl Tryz.sizeOf3 rfl (q0 rfl)) (xv (eL Tryz.isAgg3 (q0 rfl)) ?_)))))))))
    refine xv (asI rfl) (XN (thenJ_normal (H_seq (H_seq (R0 (xv (e_fld Tryz.underlying54 rfl Tryz.sizeOf52 rfl (q0 rfl)) (xv (eL Tryz.isAgg52 (q0 rfl)) ?_)))))))
    refine xv (e_len Tryz.underlying52 (q0 rfl)) (xv (mvI rfl) (XN (thenJ_normal (H_block (H_loop [2, 5, 6, 7, 43, 44, 45, 46, 47, 48, 49, 50, 51, 52, 53, 54, 55, 56, 57, 58, 59, 60, 61, 62, 63, 64, 65, 66, 67, 68, 69, 70, 71, 72, 73, 74, 75, 76, 77, 78, 79, 80] (fun q : Nat × Int => [(43, .int .i64 q.1), (5, .int .i64 q.2)]) (fun _ => [box b1 54 (RX.cells ⟨r, ⟨lA, lc, pA, pc⟩⟩)]) (fun q => q.1 ≤ r.pauses.length ∧ pzOrd r.open_ r.pauses.length r.end_.lo r.start.lo r.pauses = pzOrd r.open_ r.pauses.length r.end_.lo q.2 (r.pauses.drop q.1)) (fun q => r.pauses.length - q.1) (0, r.start.lo) ⟨rfl, rfl, trivial⟩ (fun w hw => hw) rfl ⟨Nat.zero_le _, rfl⟩ ?_)))))
    rintro ⟨q, last⟩ g2 ⟨hq, hall2⟩
    simp only at hq hall2
    refine H_seq (R0 (xv (e_lt (q0 rfl) (q0 rfl)) (XN (thenJ_normal (H_seq (H_cond rfl (fun hlt2 => ?_) (fun hlt2 => ?_)))))))
    · have hlt2' : q < r.pauses.length := by simpa using hlt2
      obtain ⟨b, off, y, rfl, hbl, hy, hry⟩ := hpz.at_ hlt2'
      rw [drop_of hy] at hall2
      have hem := drop_empty hlt2'
      simp only [pzOrd, hem] at hall2
      refine H_skip (thenJ_normal (H_seq (H_block (H_seq (R0 (xv (mvI rfl) (xv (e_idx _ Tryz.underlying52 Tryz.sizeOf198 (q0 rfl) (q0 rfl) (fun _ => ⟨rfl, by omega⟩)) (xv (eS Tryz.isAgg198 Tryz.sizeOf198 (q0 rfl)) ?_))))))))
      refine X_alloc Tryz.zeroValue198 rfl fun b7 => (xv (asI rfl) (X_st (v := .agg _) rfl rfl Tryz.sizeOf198 ?_))
      refine XN (thenJ_normal (H_seq (H_seq (R0 (xv (e_fld Tryz.underlying198 rfl Tryz.sizeOf50 rfl (q0 rfl)) (xv (e_fld Tryz.underlying50 rfl Tryz.sizeOf3 rfl (q0 rfl)) (xv (eL Tryz.isAgg3 (q0 rfl)) ?_)))))))
      refine xv (mvI rfl) (xv (e_lt (q0 rfl) (q0 rfl)) (XN (thenJ_normal (H_cond rfl (fun hb1 => ?_) (fun hb1 => ?_)))))
      · rw [if_pos (by simpa using hb1)] at hall2
        rw [hall2]
        refine H_seq (R0 (xv (asB rfl) (XN (thenJ_normal (H_ret (thenJ_ret (blockJ_ret (thenJ_ret (loopJ_ret ?_)))))))))
        refine blockJ_ret (thenJ_ret ?_)
        exact ret1 (v := .bool _) rfl rfl rfl fun w' hw => ⟨rfl, hw.1⟩
      · rw [if_neg (by simpa using hb1)] at hall2
        refine H_skip (thenJ_normal (H_seq (R0 (xv (e_fld Tryz.underlying198 rfl Tryz.sizeOf50 rfl (q0 rfl)) (xv (e_fld Tryz.underlying50 rfl Tryz.sizeOf3 rfl (q0 rfl)) (xv (eL Tryz.isAgg3 (q0 rfl)) ?_))))))
        refine xv (asI rfl) (XN (thenJ_normal (H_seq (H_seq (R0 (xv (e_fld Tryz.underlying54 rfl Tryz.sizeOf4 rfl (q0 rfl)) (xv (eL Tryz.isAgg4 (q0 rfl)) ?_)))))))
        refine xv (mvB rfl) (xt (mvI rfl) rfl rfl (xt (e_fld Tryz.underlying54 rfl Tryz.sizeOf52 rfl (q0 rfl)) rfl rfl (xt (eL Tryz.isAgg52 (q1 rfl)) rfl rfl ?_)))
        refine xt (e_len Tryz.underlying52 (q1 rfl)) rfl rfl (xt (e_sub (q1 rfl) (q0 rfl) (fun _ => ⟨rfl, by simp only; omega, by simp only; omega⟩)) rfl rfl (xt (e_eq (q1 rfl) (q1 rfl)) rfl rfl (xv (e_and (q0 rfl) rfl (fun h => by first | rfl | (rw [h]; rfl))) ?_)))
        refine xv (mvB rfl) (xt (e_fld Tryz.underlying198 rfl Tryz.sizeOf50 rfl (q0 rfl)) rfl rfl (xt (e_fld Tryz.underlying50 rfl Tryz.sizeOf3 rfl (q1 rfl)) rfl rfl (xt (eL Tryz.isAgg3 (q1 rfl)) rfl rfl ?_)))
        refine xt (e_eq (q1 rfl) (q0 rfl)) rfl rfl (xv (e_and (q0 rfl) rfl (fun h => by first | rfl | (rw [h]; rfl))) ?_)
        refine XN (thenJ_normal (H_cond rfl (fun hb2 => ?_) (fun hb2 => ?_)))
        · rw [if_pos hb2] at hall2
          rw [hall2]
          refine H_seq (R0 (xv (asB rfl) (XN (thenJ_normal (H_ret (thenJ_ret (blockJ_ret (thenJ_ret (loopJ_ret ?_)))))))))
          refine blockJ_ret (thenJ_ret ?_)
          exact ret1 (v := .bool _) rfl rfl rfl fun w' hw => ⟨rfl, hw.1⟩
        · rw [if_neg (by rw [show _ = false from hb2]; decide)] at hall2
          refine H_skip (thenJ_normal (H_seq (H_seq (R0 (xv (e_fld Tryz.underlying198 rfl Tryz.sizeOf50 rfl (q0 rfl)) (xv (e_fld Tryz.underlying50 rfl Tryz.sizeOf3 rfl (q0 rfl)) (xv (eL Tryz.isAgg3 (q0 rfl)) ?_)))))))
          refine xv (mvI rfl) (xv (e_lt (q0 rfl) (q0 rfl)) (XN (thenJ_normal (H_cond rfl (fun hb3 => ?_) (fun hb3 => ?_)))))
          · rw [if_pos (by simpa using hb3)] at hall2
            rw [hall2]
            refine H_seq (R0 (xv (asB rfl) (XN (thenJ_normal (H_ret (thenJ_ret (blockJ_ret (thenJ_ret (loopJ_ret ?_)))))))))
            refine blockJ_ret (thenJ_ret ?_)
            exact ret1 (v := .bool _) rfl rfl rfl fun w' hw => ⟨rfl, hw.1⟩
          · rw [if_neg (by simpa using hb3)] at hall2
            refine H_skip (thenJ_normal (R0 (xv (e_fld Tryz.underlying198 rfl Tryz.sizeOf50 rfl (q0 rfl)) (xv (e_fld Tryz.underlying50 rfl Tryz.sizeOf3 rfl (q0 rfl)) (xv (eL Tryz.isAgg3 (q0 rfl)) ?_)))))
            refine xv (asI rfl) (XN (blockJ_normal (thenJ_normal (R0 (xv (e_add (q0 rfl) (q0 rfl) (fun _ => ⟨rfl, by omega, by omega⟩)) (xv (mvI rfl) (XN ?_)))))))
            exact loopJ_normal (q + 1, y.to_.lo) agr ⟨rfl, rfl, trivial⟩ (fun w hw => hw.tail) rfl ⟨by show q + 1 ≤ _; omega, hall2⟩ (by show r.pauses.length - (q + 1) < r.pauses.length - q; omega)
    · have hend2 : q = r.pauses.length := by simp at hlt2; omega
      rw [hend2, List.drop_length] at hall2
      simp only [pzOrd] at hall2
      rw [hall2]
      refine H_exit (thenJ_exit (loopJ_exit (blockJ_hit (thenJ_normal (H_seq (R0 (xv (e_fld Tryz.underlying54 rfl Tryz.sizeOf4 rfl (q0 rfl)) (xv (eL Tryz.isAgg4 (q0 rfl)) ?_))))))))
      refine xv (mvB rfl) (xf (e_fld Tryz.underlying54 rfl Tryz.sizeOf52 rfl (q0 rfl)) rfl rfl (xf (eL Tryz.isAgg52 (q1 rfl)) rfl rfl ?_))
      refine xf (e_len Tryz.underlying52 (q1 rfl)) rfl rfl (xf (e_eq (q1 rfl) (q0 rfl)) rfl rfl (xv (e_or (q0 rfl) rfl (fun h => by first | rfl | (rw [h]; rfl))) ?_))
      refine xv (mvB rfl) (xf (mvI rfl) rfl rfl (xf (e_fld Tryz.underlying54 rfl Tryz.sizeOf50 rfl (q0 rfl)) rfl rfl (xf (e_fld Tryz.underlying50 rfl Tryz.sizeOf3 rfl (q1 rfl)) rfl rfl (xf (eL Tryz.isAgg3 (q1 rfl)) rfl rfl ?_))))
      refine xf (e_le (q1 rfl) (q1 rfl)) rfl rfl (xv (e_or (q0 rfl) rfl (fun h => by first | rfl | (rw [h]; rfl))) ?_)
      refine xv (asB rfl) (XN (thenJ_normal (H_ret ?_)))
      exact ret1 (v := .bool _) rfl rfl rfl fun w' hw => ⟨rfl, hw.1⟩
attribute [local irreducible] rangedP joinedP orderedP
set_option maxRecDepth 20000 in
theorem rcheck_w (x : RX) (w : World) (hx : RdAt w x) (hl : x.r.legs.length ≤ 1000000) (hp : x.r.pauses.length ≤ 1000000) : Calls Tryz.prog 86 #[.agg x.cells.toArray] w fun e w' => e = .returned (.int .i64 (checkR x.r)) ∧ Bel w w' := by
  have hxw := hx
  obtain ⟨r, ra⟩ := x
  simp only at hl hp
  refine H_enter Tryz.func86 rfl Tryz.ntmps86 rfl (H_seq (R0 (X_box (v := .agg _) rfl rfl fun b1 => (xv (asI rfl) (XN (thenJ_normal (H_seq (H_block (H_seq ?_)))))))))
  refine R0 (xv (eS Tryz.isAgg54 Tryz.sizeOf54 (q0 rfl)) ?_)
  refine xC (en Tryz.call124 (ha1 (q0 rfl))) (fun _ w hw => ranged_w ⟨r, ra⟩ w (hx.mem hw)) rfl rfl (xv (e_not (q0 rfl)) (xv (asB rfl) (XN (thenJ_normal (H_cond rfl (fun h1 => ?_) (fun h1 => ?_))))))
  · have hc : checkR r = 1 := by unfold checkR; rw [if_pos h1]
    rw [hc]
    refine H_seq (R0 (xv (asI rfl) (XN (thenJ_normal (H_ret (blockJ_ret (thenJ_ret ?_)))))))
    exact ret1 (v := .int _ _) rfl rfl rfl fun w' hw => ⟨rfl, hw.1⟩
  · refine H_seq (R0 (xv (eS Tryz.isAgg54 Tryz.sizeOf54 (q0 rfl)) ?_))
    refine xC (en Tryz.call125 (ha1 (q0 rfl))) (fun _ w hw => joined_w ⟨r, ra⟩ w (hx.mem hw)) rfl rfl (xv (e_not (q0 rfl)) (xv (asB rfl) (XN (thenJ_normal (H_cond rfl (fun h2 => ?_) (fun h2 => ?_))))))
    · have hc : checkR r = 3 := by unfold checkR; rw [if_neg (by rw [h1]; decide), if_pos h2]
      rw [hc]
      refine H_seq (R0 (xv (asI rfl) (XN (thenJ_normal (H_ret (blockJ_ret (thenJ_ret ?_)))))))
      exact ret1 (v := .int _ _) rfl rfl rfl fun w' hw => ⟨rfl, hw.1⟩
    · refine H_seq (R0 (xv (eS Tryz.isAgg54 Tryz.sizeOf54 (q0 rfl)) ?_))
      refine xC (en Tryz.call126 (ha1 (q0 rfl))) (fun _ w hw => ordered_w ⟨r, ra⟩ w (hx.mem hw) hl hp) rfl rfl (xv (e_not (q0 rfl)) (xv (asB rfl) (XN (thenJ_normal (H_cond rfl (fun h3 => ?_) (fun h3 => ?_))))))
      · have hc : checkR r = 9 := by unfold checkR; rw [if_neg (by rw [h1]; decide), if_neg (by rw [h2]; decide), if_pos h3]
        rw [hc]
        refine H_seq (R0 (xv (asI rfl) (XN (thenJ_normal (H_ret (blockJ_ret (thenJ_ret ?_)))))))
        exact ret1 (v := .int _ _) rfl rfl rfl fun w' hw => ⟨rfl, hw.1⟩
      · have _ht : True := trivial
        refine H_seq (H_seq (R0 (xv (e_fld Tryz.underlying54 rfl Tryz.sizeOf4 rfl (q0 rfl)) (xv (eL Tryz.isAgg4 (q0 rfl)) ?_))))
        refine xv (mvB rfl) (xt (e_fld Tryz.underlying54 rfl Tryz.sizeOf50 rfl (q0 rfl)) rfl rfl (xt (eP Tryz.isAgg50 Tryz.sizeOf50 (q1 rfl)) rfl rfl ?_))
        refine xt (EvG.any (e_build Tryz.underlying50 fl50 Tryz.zeroValue50 E.p0 rfl)) rfl rfl (xt (e_neS (fun w => eqSpn r.end_ zSpn w) (by kernel_rfl) (q1 rfl) (q1 rfl)) rfl rfl (xv (e_and (q0 rfl) rfl (fun h => by first | rfl | (rw [h]; rfl))) ?_))
        refine xv (asB rfl) (XN (thenJ_normal (H_cond rfl (fun h4 => ?_) (fun h4 => ?_))))
        · have hc : checkR r = 12 := by unfold checkR; rw [if_neg (by rw [h1]; decide), if_neg (by rw [h2]; decide), if_neg (by rw [h3]; decide), if_pos h4]
          rw [hc]
          refine H_skip (thenJ_normal (H_cond rfl (fun h5 => ?_) (fun h5 => ?_)))
          · refine H_seq (R0 (xv (asI rfl) (XN (thenJ_normal (H_ret (blockJ_ret (thenJ_ret ?_)))))))
            exact ret1 (v := .int _ _) rfl rfl rfl fun w' hw => ⟨rfl, hw.1⟩
          · rw [h4] at h5; cases h5
        · refine R0 (xv (e_fld Tryz.underlying54 rfl Tryz.sizeOf4 rfl (q0 rfl)) (xv (eL Tryz.isAgg4 (q0 rfl)) ?_))
          refine xv (e_fld Tryz.underlying54 rfl Tryz.sizeOf3 rfl (q0 rfl)) (xv (eL Tryz.isAgg3 (q0 rfl)) ?_)
          refine xv (e_eq (q0 rfl) (q0 rfl)) (xv (e_neb Tryz.underlying4 (q0 rfl) (q0 rfl)) (xv (asB rfl) (XN (thenJ_normal (H_cond rfl (fun h5 => ?_) (fun h5 => ?_))))))
          · have hc : checkR r = 12 := by unfold checkR; rw [if_neg (by rw [h1]; decide), if_neg (by rw [h2]; decide), if_neg (by rw [h3]; decide), if_neg (by rw [show _ = false from h4]; decide), if_pos h5]
            rw [hc]
            refine H_seq (R0 (xv (asI rfl) (XN (thenJ_normal (H_ret (blockJ_ret (thenJ_ret ?_)))))))
            exact ret1 (v := .int _ _) rfl rfl rfl fun w' hw => ⟨rfl, hw.1⟩
          · have hc : checkR r = 0 := by unfold checkR; rw [if_neg (by rw [h1]; decide), if_neg (by rw [h2]; decide), if_neg (by rw [h3]; decide), if_neg (by rw [show _ = false from h4]; decide), if_neg (by rw [show _ = false from h5]; decide)]
            rw [hc]
            refine H_skip (blockJ_normal (thenJ_normal (H_seq (R0 (xv (asI rfl) (XN (thenJ_normal (H_ret ?_))))))))
            exact ret1 (v := .int _ _) rfl rfl rfl fun w' hw => ⟨rfl, hw.1⟩

end Go.Proofs.Rid

/-
  The walks: a copy of a ride; the first ride with a number.
-/
namespace Go.Proofs.Rid
open Go Go.RowKit Go.Proofs.E Go.Proofs.Cus

theorem cloneLg_w (A : Option Addr) (n c : Nat) (xs : List Lg) (w : World) (hx : SlAt w 5 Lg.cells A n xs) (hn : n ≤ 100000) : Calls Tryz.prog 164 #[.slice A n c] w fun e w' => ∃ x : Option Addr × Nat, e = .returned (.slice x.1 xs.length x.2) ∧ Mem w [lgRow x.1 x.2 xs] w' := by
  have hl := hx.1
  refine H_enter Tryz.func164 rfl Tryz.ntmps164 rfl (H_seq (R0 (xv (asS rfl) (XN (thenJ_normal (H_seq (H_seq (R0 (xv (mvS rfl) ?_)))))))))
  refine xv (e_eqNilS Tryz.underlying51 (q0 rfl)) (XN (thenJ_normal (H_cond rfl (fun h1 => ?_) (fun h1 => ?_))))
  · have hA0 : A = none := by simpa using h1
    have hn0 : n = 0 := by
      rcases Nat.eq_zero_or_pos n with h | h
      · exact h
      · obtain ⟨b, off, hb, _⟩ := hx.2.2 h; rw [hA0] at hb; cases hb
    subst hn0
    have : xs = [] := List.eq_nil_of_length_eq_zero hl
    subst this
    refine H_seq (R0 (xv (asS rfl) (XN (thenJ_normal (H_ret (thenJ_ret ?_))))))
    exact ret1 (v := .slice _ _ _) rfl rfl rfl fun w' hw => ⟨(none, 0), rfl, hw.nilRow _ _ _ rfl⟩
  · refine H_skip (thenJ_normal (H_seq (R0 (X_eff (f_slit0 Lg.cells Tryz.underlying51 Tryz.sizeOf134 rfl fun A1 c1 => (xv (mvS rfl) (X_append (f_append (k := 5) (i := Tryz.t134) (enc := Lg.cells) 0 Tryz.underlying51 (by kernel_rfl) rfl rfl rfl rfl (fun _ => rfl) (fun _ => rfl) rfl rfl rfl (fun w hw => hx.mem hw) ⟨by simp; omega, by decide⟩ rfl fun A2 c2 => (xv (asS rfl) (XN (thenJ_normal ?_)))))))))))
    refine H_ret ?_
    exact ret1 (v := .slice _ _ _) rfl rfl rfl fun w' hw => ⟨(A2, c2), rfl, hw⟩
theorem clonePz_w (A : Option Addr) (n c : Nat) (xs : List Pz) (w : World) (hx : SlAt w 4 Pz.cells A n xs) (hn : n ≤ 100000) : Calls Tryz.prog 165 #[.slice A n c] w fun e w' => ∃ x : Option Addr × Nat, e = .returned (.slice x.1 xs.length x.2) ∧ Mem w [pzRow x.1 x.2 xs] w' := by
  have hl := hx.1
  refine H_enter Tryz.func165 rfl Tryz.ntmps165 rfl (H_seq (R0 (xv (asS rfl) (XN (thenJ_normal (H_seq (H_seq (R0 (xv (mvS rfl) ?_)))))))))
  refine xv (e_eqNilS Tryz.underlying52 (q0 rfl)) (XN (thenJ_normal (H_cond rfl (fun h1 => ?_) (fun h1 => ?_))))
  · have hA0 : A = none := by simpa using h1
    have hn0 : n = 0 := by
      rcases Nat.eq_zero_or_pos n with h | h
      · exact h
      · obtain ⟨b, off, hb, _⟩ := hx.2.2 h; rw [hA0] at hb; cases hb
    subst hn0
    have : xs = [] := List.eq_nil_of_length_eq_zero hl
    subst this
    refine H_seq (R0 (xv (asS rfl) (XN (thenJ_normal (H_ret (thenJ_ret ?_))))))
    exact ret1 (v := .slice _ _ _) rfl rfl rfl fun w' hw => ⟨(none, 0), rfl, hw.nilRow _ _ _ rfl⟩
  · refine H_skip (thenJ_normal (H_seq (R0 (X_eff (f_slit0 Pz.cells Tryz.underlying52 Tryz.sizeOf198 rfl fun A1 c1 => (xv (mvS rfl) (X_append (f_append (k := 4) (i := Tryz.t198) (enc := Pz.cells) 0 Tryz.underlying52 (by kernel_rfl) rfl rfl rfl rfl (fun _ => rfl) (fun _ => rfl) rfl rfl rfl (fun w hw => hx.mem hw) ⟨by simp; omega, by decide⟩ rfl fun A2 c2 => (xv (asS rfl) (XN (thenJ_normal ?_)))))))))))
    refine H_ret ?_
    exact ret1 (v := .slice _ _ _) rfl rfl rfl fun w' hw => ⟨(A2, c2), rfl, hw⟩
set_option maxHeartbeats 1000000 in
set_option maxRecDepth 20000 in
theorem copied_w (x : RX) (w : World) (hx : RdAt w x) (hl : x.r.legs.length ≤ 100000) (hp : x.r.pauses.length ≤ 100000) : Calls Tryz.prog 114 #[.agg x.cells.toArray] w fun e w' => ∃ y : RPl, e = .returned (.agg (RX.cells ⟨x.r, y⟩).toArray) ∧ Mem w (rdParts ⟨x.r, y⟩) w' := by
  obtain ⟨r, ⟨lA, lc, pA, pc⟩⟩ := x
  obtain ⟨hlg, hpz⟩ := hx
  simp only at hlg hpz hl hp
  refine H_enter Tryz.func114 rfl Tryz.ntmps114 rfl (H_seq (R0 (X_box (v := .agg _) rfl rfl fun b1 => (X_alloc Tryz.zeroValue54 rfl fun b2 => (XN (thenJ_normal (H_seq (H_cut [3, 4, 5, 6, 7, 8, 9, 10] (fun _ : RPl => []) (fun s => [lgRow s.lA s.lc r.legs, pzRow s.pA s.pc r.pauses, box b2 54 [.int .i64 0, .int .i64 0, .int .i64 0, .int .i64 0, .int .i64 0, .int .i64 0, .bool false, .slice none 0 0, .slice none 0 0, .int .i64 0, .int .i64 0, .int .i64 0, .int .i64 0], box b1 54 (RX.cells ⟨r, s⟩)]) (fun _ => True) ?_ ?_))))))))
  · refine RAd 2 rfl (by decide +kernel) (aV 0 (by decide +kernel) rfl (e_fld Tryz.underlying54 rfl Tryz.sizeOf51 rfl (q0 rfl)) rfl (aV 3 (by decide +kernel) rfl (e_fld Tryz.underlying54 rfl Tryz.sizeOf52 rfl (q0 rfl)) rfl (rdy2 (i := 1) (j := 4) (by decide +kernel) (sub_drop 2) ?_ ?_)))
    · refine aL rfl (f_ev (e_ld (v := .slice lA r.legs.length lc) Tryz.isAgg51 (q0 rfl) (by first | exact bx 0 rfl rfl | exact bx 1 rfl rfl | exact bx 2 rfl rfl | exact bx 3 rfl rfl | exact bx 4 rfl rfl | exact bx 5 rfl rfl | exact bx 6 rfl rfl | exact bx 7 rfl rfl | exact bx 8 rfl rfl | exact bx 9 rfl rfl | exact rc ‹_› ‹_› rfl | exact rc0 ‹_› ‹_› rfl | exact xc ‹_› ‹_› | exact rr 0 rfl ‹_› rfl | exact rr0 0 rfl ‹_› rfl | exact rr 1 rfl ‹_› rfl | exact rr0 1 rfl ‹_› rfl | exact rr 2 rfl ‹_› rfl | exact rr0 2 rfl ‹_› rfl | exact rr 3 rfl ‹_› rfl | exact rr0 3 rfl ‹_› rfl | exact rr 4 rfl ‹_› rfl | exact rr0 4 rfl ‹_› rfl | exact rr 5 rfl ‹_› rfl | exact rr0 5 rfl ‹_› rfl | exact rr 6 rfl ‹_› rfl | exact rr0 6 rfl ‹_› rfl | exact rr 7 rfl ‹_› rfl | exact rr0 7 rfl ‹_› rfl)) rfl rfl ?_)
      refine rdy2 (i := 2) (j := 4) (by decide +kernel) (sub_drop 2) ?_ ?_
      · refine aL rfl (f_callx (en Tryz.call164 (ha1 (q0 rfl))) (fun w hw => cloneLg_w lA _ lc r.legs w (hlg.mem hw) hl) rfl (fun _ => rfl) fun ly => (rdy1 (i := 4) (by decide +kernel) (sub_drop 3) (aL rfl (f_ev (e_ld (v := .slice pA r.pauses.length pc) Tryz.isAgg52 (q0 rfl) (by first | exact bx 0 rfl rfl | exact bx 1 rfl rfl | exact bx 2 rfl rfl | exact bx 3 rfl rfl | exact bx 4 rfl rfl | exact bx 5 rfl rfl | exact bx 6 rfl rfl | exact bx 7 rfl rfl | exact bx 8 rfl rfl | exact bx 9 rfl rfl | exact rc ‹_› ‹_› rfl | exact rc0 ‹_› ‹_› rfl | exact xc ‹_› ‹_› | exact rr 0 rfl ‹_› rfl | exact rr0 0 rfl ‹_› rfl | exact rr 1 rfl ‹_› rfl | exact rr0 1 rfl ‹_› rfl | exact rr 2 rfl ‹_› rfl | exact rr0 2 rfl ‹_› rfl | exact rr 3 rfl ‹_› rfl | exact rr0 3 rfl ‹_› rfl | exact rr 4 rfl ‹_› rfl | exact rr0 4 rfl ‹_› rfl | exact rr 5 rfl ‹_› rfl | exact rr0 5 rfl ‹_› rfl | exact rr 6 rfl ‹_› rfl | exact rr0 6 rfl ‹_› rfl | exact rr 7 rfl ‹_› rfl | exact rr0 7 rfl ‹_› rfl)) rfl rfl ?_))))
        refine aV 6 (by decide +kernel) rfl (e_fld Tryz.underlying54 rfl Tryz.sizeOf51 rfl (q0 rfl)) rfl (rdy1 (i := 5) (by decide +kernel) (sub_drop 3) (aL rfl (f_callx (en Tryz.call165 (ha1 (q0 rfl))) (fun w hw => clonePz_w pA _ pc r.pauses w (hpz.mem hw) hp) rfl (fun _ => rfl) fun py => (aI 1 (rdy1 (i := 7) (by decide +kernel) (sub_drop 4) (aL rfl (f_st (v := .slice _ _ _) rfl rfl Tryz.sizeOf51 ?_)))))))
        refine aV 8 (by decide +kernel) rfl (e_fld Tryz.underlying54 rfl Tryz.sizeOf52 rfl (q0 rfl)) rfl (rdy1 (i := 9) (by decide +kernel) (sub_drop 4) (aL rfl (f_st (v := .slice _ _ _) rfl rfl Tryz.sizeOf52 ?_)))
        refine aZ (by decide +kernel) (sub_drop 4) ?_
        exact cutJ_normal (⟨ly.1, ly.2, py.1, py.2⟩ : RPl) agr trivial (fun w hw => hw) rfl trivial
      · refine aL rfl (f_ev (e_ld (v := .slice pA r.pauses.length pc) Tryz.isAgg52 (q0 rfl) (by first | exact bx 0 rfl rfl | exact bx 1 rfl rfl | exact bx 2 rfl rfl | exact bx 3 rfl rfl | exact bx 4 rfl rfl | exact bx 5 rfl rfl | exact bx 6 rfl rfl | exact bx 7 rfl rfl | exact bx 8 rfl rfl | exact bx 9 rfl rfl | exact rc ‹_› ‹_› rfl | exact rc0 ‹_› ‹_› rfl | exact xc ‹_› ‹_› | exact rr 0 rfl ‹_› rfl | exact rr0 0 rfl ‹_› rfl | exact rr 1 rfl ‹_› rfl | exact rr0 1 rfl ‹_› rfl | exact rr 2 rfl ‹_› rfl | exact rr0 2 rfl ‹_› rfl | exact rr 3 rfl ‹_› rfl | exact rr0 3 rfl ‹_› rfl | exact rr 4 rfl ‹_› rfl | exact rr0 4 rfl ‹_› rfl | exact rr 5 rfl ‹_› rfl | exact rr0 5 rfl ‹_› rfl | exact rr 6 rfl ‹_› rfl | exact rr0 6 rfl ‹_› rfl | exact rr 7 rfl ‹_› rfl | exact rr0 7 rfl ‹_› rfl)) rfl rfl ?_)
        refine rdy1 (i := 2) (by decide +kernel) (sub_drop 2) (aL rfl (f_callx (en Tryz.call164 (ha1 (q0 rfl))) (fun w hw => cloneLg_w lA _ lc r.legs w (hlg.mem hw) hl) rfl (fun _ => rfl) fun ly => (aV 6 (by decide +kernel) rfl (e_fld Tryz.underlying54 rfl Tryz.sizeOf51 rfl (q0 rfl)) rfl (rdy1 (i := 5) (by decide +kernel) (sub_drop 3) (aL rfl (f_callx (en Tryz.call165 (ha1 (q0 rfl))) (fun w hw => clonePz_w pA _ pc r.pauses w (hpz.mem hw) hp) rfl (fun _ => rfl) fun py => (aI 1 (rdy1 (i := 7) (by decide +kernel) (sub_drop 4) (aL rfl (f_st (v := .slice _ _ _) rfl rfl Tryz.sizeOf51 ?_))))))))))
        refine aV 8 (by decide +kernel) rfl (e_fld Tryz.underlying54 rfl Tryz.sizeOf52 rfl (q0 rfl)) rfl (rdy1 (i := 9) (by decide +kernel) (sub_drop 4) (aL rfl (f_st (v := .slice _ _ _) rfl rfl Tryz.sizeOf52 ?_)))
        refine aZ (by decide +kernel) (sub_drop 4) ?_
        exact cutJ_normal (⟨ly.1, ly.2, py.1, py.2⟩ : RPl) agr trivial (fun w hw => hw) rfl trivial
    · refine aL rfl (f_ev (e_ld (v := .slice pA r.pauses.length pc) Tryz.isAgg52 (q0 rfl) (by first | exact bx 0 rfl rfl | exact bx 1 rfl rfl | exact bx 2 rfl rfl | exact bx 3 rfl rfl | exact bx 4 rfl rfl | exact bx 5 rfl rfl | exact bx 6 rfl rfl | exact bx 7 rfl rfl | exact bx 8 rfl rfl | exact bx 9 rfl rfl | exact rc ‹_› ‹_› rfl | exact rc0 ‹_› ‹_› rfl | exact xc ‹_› ‹_› | exact rr 0 rfl ‹_› rfl | exact rr0 0 rfl ‹_› rfl | exact rr 1 rfl ‹_› rfl | exact rr0 1 rfl ‹_› rfl | exact rr 2 rfl ‹_› rfl | exact rr0 2 rfl ‹_› rfl | exact rr 3 rfl ‹_› rfl | exact rr0 3 rfl ‹_› rfl | exact rr 4 rfl ‹_› rfl | exact rr0 4 rfl ‹_› rfl | exact rr 5 rfl ‹_› rfl | exact rr0 5 rfl ‹_› rfl | exact rr 6 rfl ‹_› rfl | exact rr0 6 rfl ‹_› rfl | exact rr 7 rfl ‹_› rfl | exact rr0 7 rfl ‹_› rfl)) rfl rfl ?_)
      refine rdy1 (i := 1) (by decide +kernel) (sub_drop 2) (aL rfl (f_ev (e_ld (v := .slice lA r.legs.length lc) Tryz.isAgg51 (q0 rfl) (by first | exact bx 0 rfl rfl | exact bx 1 rfl rfl | exact bx 2 rfl rfl | exact bx 3 rfl rfl | exact bx 4 rfl rfl | exact bx 5 rfl rfl | exact bx 6 rfl rfl | exact bx 7 rfl rfl | exact bx 8 rfl rfl | exact bx 9 rfl rfl | exact rc ‹_› ‹_› rfl | exact rc0 ‹_› ‹_› rfl | exact xc ‹_› ‹_› | exact rr 0 rfl ‹_› rfl | exact rr0 0 rfl ‹_› rfl | exact rr 1 rfl ‹_› rfl | exact rr0 1 rfl ‹_› rfl | exact rr 2 rfl ‹_› rfl | exact rr0 2 rfl ‹_› rfl | exact rr 3 rfl ‹_› rfl | exact rr0 3 rfl ‹_› rfl | exact rr 4 rfl ‹_› rfl | exact rr0 4 rfl ‹_› rfl | exact rr 5 rfl ‹_› rfl | exact rr0 5 rfl ‹_› rfl | exact rr 6 rfl ‹_› rfl | exact rr0 6 rfl ‹_› rfl | exact rr 7 rfl ‹_› rfl | exact rr0 7 rfl ‹_› rfl)) rfl rfl ?_))
      refine rdy1 (i := 2) (by decide +kernel) (sub_drop 2) (aL rfl (f_callx (en Tryz.call164 (ha1 (q0 rfl))) (fun w hw => cloneLg_w lA _ lc r.legs w (hlg.mem hw) hl) rfl (fun _ => rfl) fun ly => (aV 6 (by decide +kernel) rfl (e_fld Tryz.underlying54 rfl Tryz.sizeOf51 rfl (q0 rfl)) rfl (rdy1 (i := 5) (by decide +kernel) (sub_drop 3) (aL rfl (f_callx (en Tryz.call165 (ha1 (q0 rfl))) (fun w hw => clonePz_w pA _ pc r.pauses w (hpz.mem hw) hp) rfl (fun _ => rfl) fun py => (aI 1 (rdy1 (i := 7) (by decide +kernel) (sub_drop 4) (aL rfl (f_st (v := .slice _ _ _) rfl rfl Tryz.sizeOf51 ?_))))))))))
      refine aV 8 (by decide +kernel) rfl (e_fld Tryz.underlying54 rfl Tryz.sizeOf52 rfl (q0 rfl)) rfl (rdy1 (i := 9) (by decide +kernel) (sub_drop 4) (aL rfl (f_st (v := .slice _ _ _) rfl rfl Tryz.sizeOf52 ?_)))
      refine aZ (by decide +kernel) (sub_drop 4) ?_
      exact cutJ_normal (⟨ly.1, ly.2, py.1, py.2⟩ : RPl) agr trivial (fun w hw => hw) rfl trivial
  · intro s g _
    refine thenJ_normal (H_seq (R0 (xv (eS Tryz.isAgg54 Tryz.sizeOf54 (q0 rfl)) ?_)))
    refine X_st (v := .agg _) rfl rfl Tryz.sizeOf54 ?_
    refine XN (thenJ_normal (H_ret ?_))
    exact ret_of rfl (resc1 2 rfl rfl Tryz.isAgg54 Tryz.sizeOf54 rfl rfl) fun w' hw => ⟨s, rfl, hw.pick [0, 1] (by decide)⟩

def zRd : Rd := ⟨0, 0, zSpn, zSpn, false, [], [], 0, 0, 0, 0⟩
def zPl : RPl := ⟨none, 0, none, 0⟩
def findR (l : List Rd) (id : Int) : Option Rd := l.find? fun r => decide (r.id = id)
def Short (xs : List RX) : Prop := ∀ x ∈ xs, x.r.legs.length ≤ 100000 ∧ x.r.pauses.length ≤ 100000
set_option maxRecDepth 20000 in
theorem find_w (A : Option Addr) (n c : Nat) (xs : List RX) (id : Int) (w : World) (hx : RdsAt w A n xs) (hs : Short xs) : Calls Tryz.prog 69 #[.slice A n c, .int .i64 id] w fun e w' => ∃ y : RPl, e = .returned (.tuple #[.agg (RX.cells ⟨(findR (xs.map (·.r)) id).getD zRd, y⟩).toArray, .bool (findR (xs.map (·.r)) id).isSome]) ∧ Mem w (rdParts ⟨(findR (xs.map (·.r)) id).getD zRd, y⟩) w' := by
  have hl := hx.1.1
  have hn := hx.1.2.1
  refine H_enter Tryz.func69 rfl Tryz.ntmps69 rfl (H_seq (R0 (X_alloc Tryz.zeroValue54 rfl fun b4 => (xv (asB rfl) (XN (thenJ_normal (H_seq (H_seq (R0 ?_)))))))))
  refine xv (mvS rfl) (xv (e_len Tryz.underlying36 (q0 rfl)) (xv (mvI rfl) (XN (thenJ_normal (H_block (H_loop [5, 7, 10, 11, 12, 13, 14, 15, 16, 17, 18, 19, 20] (fun k : Nat => [(10, .int .i64 k)]) (fun _ => [box b4 54 (RX.cells ⟨zRd, zPl⟩)]) (fun k => k ≤ n ∧ findR (xs.map (·.r)) id = findR ((xs.map (·.r)).drop k) id) (fun k => n - k) 0 ⟨rfl, trivial⟩ (fun w hw => hw) rfl ⟨Nat.zero_le _, rfl⟩ ?_))))))
  rintro k g ⟨hk, hall⟩
  refine H_seq (R0 (xv (e_lt (q0 rfl) (q0 rfl)) (XN (thenJ_normal (H_seq (H_cond rfl (fun hlt => ?_) (fun hlt => ?_)))))))
  · have hlt' : k < n := by simpa using hlt
    obtain ⟨b, off, y, rfl, hbl, hy, hry⟩ := hx.1.at_ hlt'
    have hym := List.mem_of_getElem? hy
    have hya := hx.2 y hym
    have hys := hs y hym
    have hyr : (xs.map (·.r))[k]? = some y.r := by simp [hy]
    rw [drop_of hyr] at hall
    refine H_skip (thenJ_normal (H_seq (H_block (H_seq (R0 (xv (e_idx _ Tryz.underlying36 Tryz.sizeOf54 (q0 rfl) (q0 rfl) (fun _ => ⟨rfl, by omega⟩)) (xv (eS Tryz.isAgg54 Tryz.sizeOf54 (q0 rfl)) ?_)))))))
    refine X_alloc Tryz.zeroValue54 rfl fun b7 => (X_st (v := .agg _) rfl rfl Tryz.sizeOf54 ?_)
    refine XN (thenJ_normal (H_seq (R0 (xv (e_fld Tryz.underlying54 rfl Tryz.sizeOf3 rfl (q0 rfl)) (xv (eL Tryz.isAgg3 (q0 rfl)) ?_)))))
    refine xv (mvI rfl) (xv (e_eq (q0 rfl) (q0 rfl)) (XN (thenJ_normal (H_cond rfl (fun hb => ?_) (fun hb => ?_)))))
    · have hf : findR (xs.map (·.r)) id = some y.r := by rw [hall]; unfold findR; exact List.find?_cons_of_pos (p := fun r : Rd => decide (r.id = id)) hb
      rw [hf]
      refine H_seq (R0 (xv (eS Tryz.isAgg54 Tryz.sizeOf54 (q0 rfl)) ?_))
      refine xCX (en Tryz.call114 (ha1 (q0 rfl))) (fun w hw => copied_w y w (hya.mem hw) hys.1 hys.2) rfl (fun _ => rfl) fun z => (X_st (v := .agg _) rfl rfl Tryz.sizeOf54 ?_)
      refine xv (asB rfl) (XN (thenJ_normal (H_ret (blockJ_ret (thenJ_ret (loopJ_ret (blockJ_ret (thenJ_ret ?_))))))))
      exact ret_of rfl (resc2 3 rfl rfl rfl Tryz.isAgg54 Tryz.sizeOf54 rfl rfl) fun w' hw => ⟨z, rfl, hw.pick [0, 1] (by decide)⟩
    · have hf : findR (xs.map (·.r)) id = findR ((xs.map (·.r)).drop (k + 1)) id := by rw [hall]; unfold findR; exact List.find?_cons_of_neg (p := fun r : Rd => decide (r.id = id)) (by show ¬ decide (y.r.id = id) = true; rw [show decide (y.r.id = id) = false from hb]; decide)
      refine H_skip (blockJ_normal (thenJ_normal (R0 (xv (e_add (q0 rfl) (q0 rfl) (fun _ => ⟨rfl, by omega, by omega⟩)) (xv (mvI rfl) (XN ?_))))))
      exact loopJ_normal (k + 1) agr ⟨rfl, trivial⟩ (fun w hw => hw.tail) rfl ⟨by omega, hf⟩ (by show n - (k + 1) < n - k; omega)
  · have hend : k = n := by simp at hlt; omega
    have hf : findR (xs.map (·.r)) id = none := by rw [hall, hend, ← hl, List.drop_of_length_le (by simp)]; rfl
    rw [hf]
    refine H_exit (thenJ_exit (loopJ_exit (blockJ_hit (thenJ_normal (H_seq (R0 (xv (e_build Tryz.underlying54 fl54 Tryz.zeroValue54 E.p0 rfl) (X_st (v := .agg _) rfl rfl Tryz.sizeOf54 ?_))))))))
    refine xv (asB rfl) (XN (thenJ_normal (H_ret ?_)))
    exact ret_of rfl (resc2 0 rfl rfl rfl Tryz.isAgg54 Tryz.sizeOf54 rfl rfl) fun w' hw => ⟨zPl, rfl, ((mem_nil.2 hw.1).nilRow 198 4 Pz.cells (c := 0) rfl).nilRow 134 5 Lg.cells (c := 0) rfl⟩

/-! rides picked by a test -/

end Go.Proofs.Rid

/-
  The walks: is a ride right (the reference's way).
-/
namespace Go.Proofs.Rid
open Go Go.RowKit Go.Proofs.E Go.Proofs.Cus

def linkP : Lg → List Lg → Bool
  | _, [] => true
  | a, g :: l => decide (g.from_ = a.to_) && linkP g l
theorem chain_link : ∀ (l : List Lg) (g : Lg) (s e : Spn), chainP s (g :: l) e = ((decide (g.from_ = s) && linkP g l) && decide (((g :: l).getD l.length default).to_ = e))
  | [], g, s, e => by simp [chainP, linkP]
  | h :: l, g, s, e => by
    have ih := chain_link l h g.to_ e
    rw [show chainP s (g :: h :: l) e = (decide (g.from_ = s) && chainP g.to_ (h :: l) e) from rfl, ih]
    show _ = ((decide (g.from_ = s) && (decide (h.from_ = g.to_) && linkP h l)) && decide (((h :: l).getD l.length default).to_ = e))
    cases decide (g.from_ = s) <;> cases decide (h.from_ = g.to_) <;> cases linkP h l <;> rfl
theorem link_drop {l : List Lg} {k : Nat} {a b : Lg} (ha : l[k]? = some a) (hb : l[k + 1]? = some b) : linkP a (l.drop (k + 1)) = (decide (b.from_ = a.to_) && linkP b (l.drop (k + 2))) := by
  rw [drop_of hb]; rfl
theorem rspan_w (s : Spn) (w : World) : Calls Tryz.prog 184 #[.agg s.cells.toArray] w fun e w' => e = .returned (.bool (spOk s)) ∧ Bel w w' := by
  refine H_enter Tryz.func184 rfl Tryz.ntmps184 rfl (H_seq (R0 (X_box (v := .agg _) rfl rfl fun b1 => (xv (asB rfl) (XN (thenJ_normal (H_seq (R0 (xv (e_fld Tryz.underlying50 rfl Tryz.sizeOf3 rfl (q0 rfl)) ?_)))))))))
  refine xv (eL Tryz.isAgg3 (q0 rfl)) ?_
  refine xv (e_ge (q0 rfl) (q0 rfl)) (xv (mvB rfl) (xt (e_fld Tryz.underlying50 rfl Tryz.sizeOf3 rfl (q0 rfl)) rfl rfl (xt (eL Tryz.isAgg3 (q1 rfl)) rfl rfl ?_)))
  refine xt (e_fld Tryz.underlying50 rfl Tryz.sizeOf3 rfl (q0 rfl)) rfl rfl (xt (eL Tryz.isAgg3 (q1 rfl)) rfl rfl ?_)
  refine xt (e_le (q1 rfl) (q1 rfl)) rfl rfl (xv (e_and (q0 rfl) rfl (fun h => by first | rfl | (rw [h]; rfl))) ?_)
  refine xv (mvB rfl) (xt (e_fld Tryz.underlying50 rfl Tryz.sizeOf3 rfl (q0 rfl)) rfl rfl (xt (eL Tryz.isAgg3 (q1 rfl)) rfl rfl ?_))
  refine xt (e_le (q1 rfl) (q0 rfl)) rfl rfl (xv (e_and (q0 rfl) rfl (fun h => by first | rfl | (rw [h]; rfl))) ?_)
  refine xv (asB rfl) (XN (thenJ_normal (H_ret ?_)))
  exact ret1 (v := .bool _) rfl rfl rfl fun w' hw => ⟨rfl, hw.1⟩
set_option maxHeartbeats 1000000 in
set_option maxRecDepth 20000 in
theorem rranged_w (x : RX) (w : World) (hx : RdAt w x) : Calls Tryz.prog 155 #[.agg x.cells.toArray] w fun e w' => e = .returned (.bool (rangedP x.r)) ∧ Bel w w' := by
  obtain ⟨r, ⟨lA, lc, pA, pc⟩⟩ := x
  obtain ⟨hlg, hpz⟩ := hx
  simp only at hlg hpz
  have hln := hlg.2.1
  have hpn := hpz.2.1
  refine H_enter Tryz.func155 rfl Tryz.ntmps155 rfl (H_seq (R0 (X_box (v := .agg _) rfl rfl fun b1 => (xv (asB rfl) (XN (thenJ_normal (H_seq (H_seq (R0 ?_)))))))))
  refine xv (e_fld Tryz.underlying54 rfl Tryz.sizeOf3 rfl (q0 rfl)) (xv (eL Tryz.isAgg3 (q0 rfl)) ?_)
  refine xv (e_lt (q0 rfl) (q0 rfl)) (xv (mvB rfl) (xf (e_fld Tryz.underlying54 rfl Tryz.sizeOf3 rfl (q0 rfl)) rfl rfl (xf (eL Tryz.isAgg3 (q1 rfl)) rfl rfl ?_)))
  refine xf (e_gt (q1 rfl) (q0 rfl)) rfl rfl (xv (e_or (q0 rfl) rfl (fun h => by first | rfl | (rw [h]; rfl))) ?_)
  refine xv (mvB rfl) (xf (e_fld Tryz.underlying54 rfl Tryz.sizeOf3 rfl (q0 rfl)) rfl rfl (xf (eL Tryz.isAgg3 (q1 rfl)) rfl rfl ?_))
  refine xf (e_lt (q1 rfl) (q0 rfl)) rfl rfl (xv (e_or (q0 rfl) rfl (fun h => by first | rfl | (rw [h]; rfl))) ?_)
  refine xv (mvB rfl) (xf (e_fld Tryz.underlying54 rfl Tryz.sizeOf3 rfl (q0 rfl)) rfl rfl (xf (eL Tryz.isAgg3 (q1 rfl)) rfl rfl ?_))
  refine xf (e_ge (q1 rfl) (q0 rfl)) rfl rfl (xv (e_or (q0 rfl) rfl (fun h => by first | rfl | (rw [h]; rfl))) ?_)
  refine xv (mvB rfl) (xf (e_fld Tryz.underlying54 rfl Tryz.sizeOf50 rfl (q0 rfl)) rfl rfl (xf (eP Tryz.isAgg50 Tryz.sizeOf50 (q1 rfl)) rfl rfl ?_))
  refine xCF (en Tryz.call184 (ha1 (q1 (v := .agg _) rfl))) (fun _ w _ => rspan_w r.start w) rfl rfl rfl rfl (xf (e_not (q1 rfl)) rfl rfl (xv (e_or (q0 rfl) rfl (fun h => by first | rfl | (rw [h]; rfl))) ?_))
  refine xv (mvB rfl) (xf (e_fld Tryz.underlying54 rfl Tryz.sizeOf50 rfl (q0 rfl)) rfl rfl (xf (eP Tryz.isAgg50 Tryz.sizeOf50 (q1 rfl)) rfl rfl ?_))
  refine xCF (en Tryz.call184 (ha1 (q1 (v := .agg _) rfl))) (fun _ w _ => rspan_w r.end_ w) rfl rfl rfl rfl (xf (e_not (q1 rfl)) rfl rfl (xv (e_or (q0 rfl) rfl (fun h => by first | rfl | (rw [h]; rfl))) ?_))
  refine XN (thenJ_normal (H_cond rfl (fun h1 => ?_) (fun h1 => ?_)))
  · refine H_seq (R0 (xv (asB rfl) (XN (thenJ_normal (H_ret (thenJ_ret ?_))))))
    exact ret1 (v := .bool _) rfl rfl rfl fun w' hw => ⟨ret_bool (by unfold rangedP; rw [show headBad r = true from h1]; rfl), hw.1⟩
  · have hrg : rangedP r = (r.legs.all lgOk && r.pauses.all pzOk) := by unfold rangedP; rw [show headBad r = false from h1]; rfl
    rw [hrg]
    refine H_skip (thenJ_normal (H_seq (H_seq (R0 (xv (asI rfl) (XN (thenJ_normal (H_block (H_loop [2, 3, 35, 36, 37, 38, 39, 40, 41, 42, 43, 44, 45, 46, 47, 48, 49, 50, 51, 52, 53, 54, 55, 56, 57, 58, 59] (fun k : Nat => [(3, .int .i64 k)]) (fun _ => [box b1 54 (RX.cells ⟨r, ⟨lA, lc, pA, pc⟩⟩)]) (fun k => k ≤ r.legs.length ∧ r.legs.all lgOk = (r.legs.drop k).all lgOk) (fun k => r.legs.length - k) 0 ⟨rfl, trivial⟩ (fun w hw => hw) rfl ⟨Nat.zero_le _, rfl⟩ ?_)))))))))
    rintro k g ⟨hk, hall⟩
    refine H_seq (H_seq (R0 (xv (mvI rfl) (xv (e_fld Tryz.underlying54 rfl Tryz.sizeOf51 rfl (q0 rfl)) (xv (eL Tryz.isAgg51 (q0 rfl)) ?_)))))
    refine xv (e_len Tryz.underlying51 (q0 rfl)) (xv (e_lt (q0 rfl) (q0 rfl)) (XN (thenJ_normal (H_cond rfl (fun hlt => ?_) (fun hlt => ?_)))))
    · have hlt' : k < r.legs.length := by simpa using hlt
      obtain ⟨b, off, y, rfl, hbl, hy, hry⟩ := hlg.at_ hlt'
      rw [drop_of hy, List.all_cons] at hall
      refine H_skip (thenJ_normal (H_seq (H_block (H_seq (R0 (xv (e_fld Tryz.underlying54 rfl Tryz.sizeOf51 rfl (q0 rfl)) (xv (eL Tryz.isAgg51 (q0 rfl)) ?_)))))))
      refine xv (mvI rfl) (xv (e_idx k Tryz.underlying51 Tryz.sizeOf134 (q0 rfl) (q0 rfl) (fun _ => ⟨rfl, hlt'⟩)) (xv (e_fld Tryz.underlying134 rfl Tryz.sizeOf50 rfl (q0 rfl)) (xv (eP Tryz.isAgg50 Tryz.sizeOf50 (q0 rfl)) ?_)))
      refine xC (en Tryz.call184 (ha1 (q0 rfl))) (fun _ w _ => rspan_w y.from_ w) rfl rfl (xv (e_not (q0 rfl)) (xv (mvB rfl) (xf (e_fld Tryz.underlying54 rfl Tryz.sizeOf51 rfl (q0 rfl)) rfl rfl (xf (eL Tryz.isAgg51 (q1 rfl)) rfl rfl ?_))))
      refine xf (mvI rfl) rfl rfl (xf (e_idx k Tryz.underlying51 Tryz.sizeOf134 (q1 rfl) (q1 rfl) (fun _ => ⟨rfl, hlt'⟩)) rfl rfl (xf (e_fld Tryz.underlying134 rfl Tryz.sizeOf50 rfl (q1 rfl)) rfl rfl (xf (eP Tryz.isAgg50 Tryz.sizeOf50 (q1 rfl)) rfl rfl ?_)))
      refine xCF (en Tryz.call184 (ha1 (q1 (v := .agg _) rfl))) (fun _ w _ => rspan_w y.to_ w) rfl rfl rfl rfl (xf (e_not (q1 rfl)) rfl rfl (xv (e_or (q0 rfl) rfl (fun h => by first | rfl | (rw [h]; rfl))) ?_))
      refine XN (thenJ_normal (H_cond rfl (fun hb => ?_) (fun hb => ?_)))
      · have hy0 : lgOk y = false := by unfold lgOk; revert hb; cases spOk y.from_ <;> cases spOk y.to_ <;> simp
        rw [hall, hy0]
        refine H_seq (R0 (xv (asB rfl) (XN (thenJ_normal (H_ret (blockJ_ret (thenJ_ret (loopJ_ret (blockJ_ret ?_)))))))))
        refine thenJ_ret ?_
        exact ret1 (v := .bool _) rfl rfl rfl fun w' hw => ⟨rfl, hw.1⟩
      · have hy1 : lgOk y = true := by unfold lgOk; revert hb; cases spOk y.from_ <;> cases spOk y.to_ <;> simp
        rw [hy1, Bool.true_and] at hall
        refine H_skip (blockJ_normal (thenJ_normal (R0 (xv (mvI rfl) (xv (e_add (q0 rfl) (q0 rfl) (fun _ => ⟨rfl, by omega, by omega⟩)) (xv (asI rfl) (XN ?_)))))))
        exact loopJ_normal (k + 1) agr ⟨rfl, trivial⟩ (fun w hw => hw) rfl ⟨by omega, hall⟩ (by show r.legs.length - (k + 1) < r.legs.length - k; omega)
    · have hend : k = r.legs.length := by simp at hlt; omega
      rw [hall, hend, List.drop_length, List.all_nil, Bool.true_and]
      refine H_exit (thenJ_exit (loopJ_exit (blockJ_hit (thenJ_normal (H_seq (H_seq (R0 (xv (asI rfl) (XN ?_)))))))))
      refine thenJ_normal (H_block (H_loop [2, 4, 60, 61, 62, 63, 64, 65, 66, 67, 68, 69, 70, 71, 72, 73, 74, 75, 76, 77, 78, 79, 80, 81, 82, 83, 84] (fun k : Nat => [(4, .int .i64 k)]) (fun _ => [box b1 54 (RX.cells ⟨r, ⟨lA, lc, pA, pc⟩⟩)]) (fun k => k ≤ r.pauses.length ∧ r.pauses.all pzOk = (r.pauses.drop k).all pzOk) (fun k => r.pauses.length - k) 0 ⟨rfl, trivial⟩ (fun w hw => hw) rfl ⟨Nat.zero_le _, rfl⟩ ?_))
      rintro q g2 ⟨hq, hall2⟩
      refine H_seq (H_seq (R0 (xv (mvI rfl) (xv (e_fld Tryz.underlying54 rfl Tryz.sizeOf52 rfl (q0 rfl)) (xv (eL Tryz.isAgg52 (q0 rfl)) ?_)))))
      refine xv (e_len Tryz.underlying52 (q0 rfl)) (xv (e_lt (q0 rfl) (q0 rfl)) (XN (thenJ_normal (H_cond rfl (fun hlt2 => ?_) (fun hlt2 => ?_)))))
      · have hlt2' : q < r.pauses.length := by simpa using hlt2
        obtain ⟨b, off, y, rfl, hbl, hy, hry⟩ := hpz.at_ hlt2'
        rw [drop_of hy, List.all_cons] at hall2
        refine H_skip (thenJ_normal (H_seq (H_block (H_seq (R0 (xv (e_fld Tryz.underlying54 rfl Tryz.sizeOf52 rfl (q0 rfl)) (xv (eL Tryz.isAgg52 (q0 rfl)) ?_)))))))
        refine xv (mvI rfl) (xv (e_idx q Tryz.underlying52 Tryz.sizeOf198 (q0 rfl) (q0 rfl) (fun _ => ⟨rfl, hlt2'⟩)) (xv (e_fld Tryz.underlying198 rfl Tryz.sizeOf50 rfl (q0 rfl)) (xv (eP Tryz.isAgg50 Tryz.sizeOf50 (q0 rfl)) ?_)))
        refine xC (en Tryz.call184 (ha1 (q0 rfl))) (fun _ w _ => rspan_w y.from_ w) rfl rfl (xv (e_not (q0 rfl)) (xv (mvB rfl) (xf (e_fld Tryz.underlying54 rfl Tryz.sizeOf52 rfl (q0 rfl)) rfl rfl (xf (eL Tryz.isAgg52 (q1 rfl)) rfl rfl ?_))))
        refine xf (mvI rfl) rfl rfl (xf (e_idx q Tryz.underlying52 Tryz.sizeOf198 (q1 rfl) (q1 rfl) (fun _ => ⟨rfl, hlt2'⟩)) rfl rfl (xf (e_fld Tryz.underlying198 rfl Tryz.sizeOf50 rfl (q1 rfl)) rfl rfl (xf (eP Tryz.isAgg50 Tryz.sizeOf50 (q1 rfl)) rfl rfl ?_)))
        refine xCF (en Tryz.call184 (ha1 (q1 (v := .agg _) rfl))) (fun _ w _ => rspan_w y.to_ w) rfl rfl rfl rfl (xf (e_not (q1 rfl)) rfl rfl (xv (e_or (q0 rfl) rfl (fun h => by first | rfl | (rw [h]; rfl))) ?_))
        refine XN (thenJ_normal (H_cond rfl (fun hb => ?_) (fun hb => ?_)))
        · have hy0 : pzOk y = false := by unfold pzOk; revert hb; cases spOk y.from_ <;> cases spOk y.to_ <;> simp
          rw [hall2, hy0]
          refine H_seq (R0 (xv (asB rfl) (XN (thenJ_normal (H_ret (blockJ_ret (thenJ_ret (loopJ_ret (blockJ_ret ?_)))))))))
          refine thenJ_ret ?_
          exact ret1 (v := .bool _) rfl rfl rfl fun w' hw => ⟨rfl, hw.1⟩
        · have hy1 : pzOk y = true := by unfold pzOk; revert hb; cases spOk y.from_ <;> cases spOk y.to_ <;> simp
          rw [hy1, Bool.true_and] at hall2
          refine H_skip (blockJ_normal (thenJ_normal (R0 (xv (mvI rfl) (xv (e_add (q0 rfl) (q0 rfl) (fun _ => ⟨rfl, by omega, by omega⟩)) (xv (asI rfl) (XN ?_)))))))
          exact loopJ_normal (q + 1) agr ⟨rfl, trivial⟩ (fun w hw => hw) rfl ⟨by omega, hall2⟩ (by show r.pauses.length - (q + 1) < r.pauses.length - q; omega)
      · have hend2 : q = r.pauses.length := by simp at hlt2; omega
        rw [hall2, hend2, List.drop_length, List.all_nil]
        refine H_exit (thenJ_exit (loopJ_exit (blockJ_hit (thenJ_normal (H_seq (R0 (xv (asB rfl) (XN (thenJ_normal ?_)))))))))
        refine H_ret ?_
        exact ret1 (v := .bool _) rfl rfl rfl fun w' hw => ⟨rfl, hw.1⟩

end Go.Proofs.Rid

/-
  The walks: legs that follow one another (the reference's way).
-/
namespace Go.Proofs.Rid
open Go Go.RowKit Go.Proofs.E Go.Proofs.Cus

theorem chain_eq {l : List Lg} {m : Nat} {a z : Lg} {s e : Spn} (ha : l[0]? = some a) (hz : l[m]? = some z) (hm : l.length = m + 1) : chainP s l e = ((decide (a.from_ = s) && linkP a (l.drop 1)) && decide (z.to_ = e)) := by
  cases l with
  | nil => cases ha
  | cons g l =>
    have h1 : g = a := by simpa using ha
    subst h1
    rw [chain_link]
    have h2 : l.length = m := by simpa using hm
    have h3 : (g :: l).getD l.length default = z := by rw [h2, List.getD_eq_getElem?_getD, hz]; rfl
    rw [h3]
    rfl
theorem num_pos {r : Rd} (h : numBad r = false) : 0 < r.legs.length := by
  unfold numBad at h
  simp at h
  omega
set_option maxHeartbeats 1000000 in
set_option maxRecDepth 20000 in
theorem rjoined_w (x : RX) (w : World) (hx : RdAt w x) : Calls Tryz.prog 156 #[.agg x.cells.toArray] w fun e w' => e = .returned (.bool (joinedP x.r)) ∧ Bel w w' := by
  obtain ⟨r, ⟨lA, lc, pA, pc⟩⟩ := x
  obtain ⟨hlg, hpz⟩ := hx
  simp only at hlg hpz
  have hln := hlg.2.1
  have hpn := hpz.2.1
  refine H_enter Tryz.func156 rfl Tryz.ntmps156 rfl (H_seq (R0 (X_box (v := .agg _) rfl rfl fun b1 => (xv (asB rfl) (XN (thenJ_normal (H_seq (R0 (xv (e_fld Tryz.underlying54 rfl Tryz.sizeOf51 rfl (q0 rfl)) ?_)))))))))
  refine xv (eL Tryz.isAgg51 (q0 rfl)) ?_
  refine xv (e_len Tryz.underlying51 (q0 rfl)) (xv (asI rfl) (XN (thenJ_normal (H_seq (H_seq ?_)))))
  cases hnb : numBad r
  case true =>
    have hd : (!numBad r) = false := by rw [hnb]; rfl
    have hd2 : (!(numBad r || false)) = false := by rw [hnb]; rfl
    refine R1 rfl (by decide +kernel) (xv (mvI rfl) (xv (e_lt (q0 rfl) (q0 rfl)) (xv (mvB rfl) (xf (mvI rfl) rfl rfl (xf (e_gt (q1 rfl) (q0 rfl)) rfl rfl (xv (e_or (q0 rfl) rfl (fun h => by first | rfl | (rw [h]; rfl))) ?_))))))
    refine xv (mvB rfl) (xf (e_fld Tryz.underlying54 rfl Tryz.sizeOf52 rfl (q0 rfl)) rfl rfl (xf (eL Tryz.isAgg52 (q1 rfl)) rfl rfl ?_))
    refine xf (e_len Tryz.underlying52 (q1 rfl)) rfl rfl (xf (e_gt (q1 rfl) (q0 rfl)) rfl rfl (xv (e_or (q0 rfl) rfl (fun h => by first | rfl | (rw [h]; rfl))) ?_))
    refine xv (mvB rfl) (xf (e_dead (v := .pointer none) (hd)) rfl rfl (xf (e_dead (v := .slice none 0 0) (hd)) rfl rfl (xf (e_dead (v := .pointer none) (hd)) rfl rfl (xf (e_dead (v := .pointer none) (hd)) rfl rfl (xf (e_dead (v := .agg #[]) (hd)) rfl rfl (xf (e_dead (v := .pointer none) (hd)) rfl rfl (xf (e_dead (v := .agg #[]) (hd)) rfl rfl (xf (e_dead (v := .bool false) (hd)) rfl rfl (xv (e_or (q0 rfl) rfl (fun h => by first | rfl | (rw [h]; rfl))) ?_)))))))))
    refine xv (mvB rfl) (xf (e_dead (v := .pointer none) (hd2)) rfl rfl (xf (e_dead (v := .slice none 0 0) (hd2)) rfl rfl (xf (e_dead (v := .int .i64 0) (hd2)) rfl rfl (xf (e_dead (v := .int .i64 0) (hd2)) rfl rfl (xf (e_dead (v := .pointer none) (hd2)) rfl rfl (xf (e_dead (v := .pointer none) (hd2)) rfl rfl (xf (e_dead (v := .agg #[]) (hd2)) rfl rfl (xf (e_dead (v := .pointer none) (hd2)) rfl rfl (xf (e_dead (v := .agg #[]) (hd2)) rfl rfl ?_)))))))))
    refine xf (e_dead (v := .bool false) (hd2)) rfl rfl (xv (e_or (q0 rfl) rfl (fun h => by first | rfl | (rw [h]; rfl))) ?_)
    refine XN (thenJ_normal (H_cond rfl (fun h1 => ?_) (fun h1 => ?_)))
    · refine H_seq (R0 (xv (asB rfl) (XN (thenJ_normal (H_ret (thenJ_ret ?_))))))
      exact ret1 (v := .bool _) rfl rfl rfl fun w' hw => ⟨ret_bool (by unfold joinedP; rw [hnb]; rfl), hw.1⟩
    · exfalso
      have h2 : ((numBad r || false) || false) = false := h1
      rw [hnb] at h2
      exact absurd h2 (by decide)
  case false =>
    have hpos := num_pos hnb
    obtain ⟨m, hm⟩ : ∃ m, r.legs.length = m + 1 := ⟨r.legs.length - 1, by omega⟩
    have hmi : (r.legs.length : Int) - 1 = (m : Int) := by omega
    have hml : m < r.legs.length := by omega
    obtain ⟨b, off, y, rfl, hbl, hy, hry⟩ := hlg.at_ hpos
    obtain ⟨z, hz, hrz⟩ := hlg.row hml
    have hch : joinedP r = ((decide (y.from_ = r.start) && linkP y (r.legs.drop 1)) && decide (z.to_ = r.end_)) := by
      unfold joinedP
      rw [hnb, chain_eq hy hz hm]; rfl
    refine R1 rfl (by decide +kernel) (xv (mvI rfl) (xv (e_lt (q0 rfl) (q0 rfl)) (xv (mvB rfl) (xf (mvI rfl) rfl rfl (xf (e_gt (q1 rfl) (q0 rfl)) rfl rfl (xv (e_or (q0 rfl) rfl (fun h => by first | rfl | (rw [h]; rfl))) ?_))))))
    refine xv (mvB rfl) (xf (e_fld Tryz.underlying54 rfl Tryz.sizeOf52 rfl (q0 rfl)) rfl rfl (xf (eL Tryz.isAgg52 (q1 rfl)) rfl rfl ?_))
    refine xf (e_len Tryz.underlying52 (q1 rfl)) rfl rfl (xf (e_gt (q1 rfl) (q0 rfl)) rfl rfl (xv (e_or (q0 rfl) rfl (fun h => by first | rfl | (rw [h]; rfl))) ?_))
    refine xv (mvB rfl) (xf (e_fld Tryz.underlying54 rfl Tryz.sizeOf51 rfl (q0 rfl)) rfl rfl (xf (eL Tryz.isAgg51 (q1 rfl)) rfl rfl ?_))
    refine xf (e_idx 0 Tryz.underlying51 Tryz.sizeOf134 (q1 rfl) (q0 rfl) (fun _ => ⟨rfl, hpos⟩)) rfl rfl (xf (e_fld Tryz.underlying134 rfl Tryz.sizeOf50 rfl (q1 rfl)) rfl rfl (xf (eP Tryz.isAgg50 Tryz.sizeOf50 (q1 rfl) (by exact rp (p := 1) hry hbl rfl)) rfl rfl ?_))
    refine xf (e_fld Tryz.underlying54 rfl Tryz.sizeOf50 rfl (q0 rfl)) rfl rfl (xf (eP Tryz.isAgg50 Tryz.sizeOf50 (q1 rfl)) rfl rfl ?_)
    refine xf (e_neS (fun w => eqSpn y.from_ r.start w) (by kernel_rfl) (q1 rfl) (q1 rfl)) rfl rfl (xv (e_or (q0 rfl) rfl (fun h => by first | rfl | (rw [h]; rfl))) ?_)
    refine xv (mvB rfl) (xf (e_fld Tryz.underlying54 rfl Tryz.sizeOf51 rfl (q0 rfl)) rfl rfl (xf (eL Tryz.isAgg51 (q1 rfl)) rfl rfl ?_))
    refine xf (mvI rfl) rfl rfl (xf (e_sub (r := ((m : Nat) : Int)) (q1 rfl) (q0 rfl) (fun _ => ⟨hmi, by omega, by omega⟩)) rfl rfl (xf (e_idx m Tryz.underlying51 Tryz.sizeOf134 (q1 rfl) (q1 rfl) (fun _ => ⟨rfl, hml⟩)) rfl rfl (xf (e_fld Tryz.underlying134 rfl Tryz.sizeOf50 rfl (q1 rfl)) rfl rfl (xf (eP Tryz.isAgg50 Tryz.sizeOf50 (q1 rfl) (by exact rp (p := 3) hrz hbl rfl)) rfl rfl ?_))))
    refine xf (e_fld Tryz.underlying54 rfl Tryz.sizeOf50 rfl (q0 rfl)) rfl rfl (xf (eP Tryz.isAgg50 Tryz.sizeOf50 (q1 rfl)) rfl rfl ?_)
    refine xf (e_neS (fun w => eqSpn z.to_ r.end_ w) (by kernel_rfl) (q1 rfl) (q1 rfl)) rfl rfl (xv (e_or (q0 rfl) rfl (fun h => by first | rfl | (rw [h]; rfl))) ?_)
    refine XN (thenJ_normal (H_cond rfl (fun h1 => ?_) (fun h1 => ?_)))
    · have hj : joinedP r = false := by
        have h2 : ((numBad r || !decide (y.from_ = r.start)) || !decide (z.to_ = r.end_)) = true := h1
        rw [hnb] at h2
        rw [hch]
        revert h2
        cases decide (y.from_ = r.start) <;> cases decide (z.to_ = r.end_) <;> simp
      refine H_seq (R0 (xv (asB rfl) (XN (thenJ_normal (H_ret (thenJ_ret ?_))))))
      exact ret1 (v := .bool _) rfl rfl rfl fun w' hw => ⟨ret_bool (by exact hj.symm), hw.1⟩
    · have hj : joinedP r = linkP y (r.legs.drop 1) := by
        have h2 : ((numBad r || !decide (y.from_ = r.start)) || !decide (z.to_ = r.end_)) = false := h1
        rw [hnb] at h2
        rw [hch]
        revert h2
        cases decide (y.from_ = r.start) <;> cases decide (z.to_ = r.end_) <;> simp
      rw [hj]
      refine H_skip (thenJ_normal (H_seq (H_seq (R0 (xv (asI rfl) (XN (thenJ_normal (H_block (H_loop [2, 4, 42, 43, 44, 45, 46, 47, 48, 49, 50, 51, 52, 53, 54, 55, 56, 57, 58, 59, 60] (fun i : Nat => [(4, .int .i64 i)]) (fun _ => [box b1 54 (RX.cells ⟨r, ⟨some ⟨b, off, none⟩, lc, pA, pc⟩⟩)]) (fun i => 1 ≤ i ∧ i ≤ r.legs.length ∧ ∃ a, r.legs[i - 1]? = some a ∧ linkP y (r.legs.drop 1) = linkP a (r.legs.drop i)) (fun i => r.legs.length - i) 1 ⟨rfl, trivial⟩ (fun w hw => hw) rfl ⟨Nat.le_refl _, hpos, y, hy, rfl⟩ ?_)))))))))
      rintro i g ⟨hi1, hin, a, ha, hall⟩
      refine H_seq (H_seq (R0 (xv (mvI rfl) (xv (mvI rfl) (xv (e_lt (q0 rfl) (q0 rfl)) (XN (thenJ_normal (H_cond rfl (fun hlt => ?_) (fun hlt => ?_)))))))))
      · have hlt' : i < r.legs.length := by simpa using hlt
        obtain ⟨j, rfl⟩ : ∃ j, i = j + 1 := ⟨i - 1, by omega⟩
        rw [Nat.add_sub_cancel] at ha
        have hji : ((j + 1 : Nat) : Int) - 1 = (j : Int) := by omega
        have hjl : j < r.legs.length := by omega
        obtain ⟨u, hu, hru⟩ := hlg.row hlt'
        obtain ⟨a', ha', hra⟩ := hlg.row hjl
        have haa : a' = a := by rw [ha] at ha'; cases ha'; rfl
        subst haa
        rw [link_drop ha hu] at hall
        refine H_skip (thenJ_normal (H_seq (H_block (H_seq (R1 rfl (by decide +kernel) (xv (e_fld Tryz.underlying54 rfl Tryz.sizeOf51 rfl (q0 rfl)) (xv (eL Tryz.isAgg51 (q0 rfl)) ?_)))))))
        refine xv (mvI rfl) (xv (e_idx (j + 1) Tryz.underlying51 Tryz.sizeOf134 (q0 rfl) (q0 rfl) (fun _ => ⟨rfl, hlt'⟩)) (xv (e_fld Tryz.underlying134 rfl Tryz.sizeOf50 rfl (q0 rfl)) (xv (eP Tryz.isAgg50 Tryz.sizeOf50 (q0 rfl) (by exact rp (p := 1) hru hbl rfl)) ?_)))
        refine xv (e_fld Tryz.underlying54 rfl Tryz.sizeOf51 rfl (q0 rfl)) (xv (eL Tryz.isAgg51 (q0 rfl)) ?_)
        refine xv (mvI rfl) (xv (e_sub (q0 rfl) (q0 rfl) (fun _ => ⟨rfl, by omega, by omega⟩)) (xv (e_idx j Tryz.underlying51 Tryz.sizeOf134 (q0 rfl) (q0 rfl) (fun _ => ⟨hji, hjl⟩)) (xv (e_fld Tryz.underlying134 rfl Tryz.sizeOf50 rfl (q0 rfl)) (xv (eP Tryz.isAgg50 Tryz.sizeOf50 (q0 rfl) (by exact rp (p := 3) hra hbl rfl)) ?_))))
        refine xv (e_neS (fun w => eqSpn u.from_ a'.to_ w) (by kernel_rfl) (q0 rfl) (q0 rfl)) (XN (thenJ_normal (H_cond rfl (fun hb => ?_) (fun hb => ?_))))
        · have hb' : decide (u.from_ = a'.to_) = false := by simpa using hb
          rw [hall, hb', Bool.false_and]
          refine H_seq (R0 (xv (asB rfl) (XN (thenJ_normal (H_ret (blockJ_ret (thenJ_ret (loopJ_ret (blockJ_ret ?_)))))))))
          refine thenJ_ret ?_
          exact ret1 (v := .bool _) rfl rfl rfl fun w' hw => ⟨rfl, hw.1⟩
        · have hb' : decide (u.from_ = a'.to_) = true := by simpa using hb
          rw [hb', Bool.true_and] at hall
          refine H_skip (blockJ_normal (thenJ_normal (R0 (xv (mvI rfl) (xv (e_add (q0 rfl) (q0 rfl) (fun _ => ⟨rfl, by omega, by omega⟩)) (xv (asI rfl) (XN ?_)))))))
          exact loopJ_normal (j + 1 + 1) agr ⟨rfl, trivial⟩ (fun w hw => hw) rfl ⟨by omega, by omega, u, hu, hall⟩ (by show r.legs.length - (j + 1 + 1) < r.legs.length - (j + 1); omega)
      · have hend : i = r.legs.length := by simp at hlt; omega
        rw [hall, hend, List.drop_length]
        refine H_exit (thenJ_exit (loopJ_exit (blockJ_hit (thenJ_normal (H_seq (R0 (xv (asB rfl) (XN (thenJ_normal ?_)))))))))
        refine H_ret ?_
        exact ret1 (v := .bool _) rfl rfl rfl fun w' hw => ⟨rfl, hw.1⟩

end Go.Proofs.Rid

/-
  Plain functions: the marks of pauses in order.
-/
namespace Go.Proofs.Rid
open Go.Proofs.Cus

def mkL (ps : List Pz) : List Int := ps.flatMap fun p => [p.from_.lo, p.to_.lo]
def cutB (o : Bool) (l : List Int) : Bool := (decide ((0 : Int) < (l.length : Int)) && o) && decide (l.getD (l.length - 1) 0 = 0)
def cutL (o : Bool) (l : List Int) : List Int := if cutB o l = true then l.take (l.length - 1) else l
def mkOrd (o : Bool) (e : Int) : Int → List Int → Bool
  | _, [] => true
  | last, m :: l => !(decide (m < last) || (!o && decide (e < m))) && mkOrd o e m l
theorem mkL_len (ps : List Pz) : (mkL ps).length = 2 * ps.length := by
  unfold mkL
  induction ps with
  | nil => rfl
  | cons p l ih => rw [List.flatMap_cons, List.length_append, ih]; simp; omega
theorem mkL_cons (p : Pz) (l : List Pz) : mkL (p :: l) = p.from_.lo :: p.to_.lo :: mkL l := rfl
theorem cut_cons2 (o : Bool) (a b c : Int) (l : List Int) : cutL o (a :: b :: c :: l) = a :: b :: cutL o (c :: l) := by
  have hg : ∀ l : List Int, (a :: b :: c :: l).getD ((a :: b :: c :: l).length - 1) 0 = (c :: l).getD ((c :: l).length - 1) 0 := fun l => by simp
  unfold cutL
  have hB : cutB o (a :: b :: c :: l) = cutB o (c :: l) := by
    unfold cutB
    rw [hg]
    have h1 : decide ((0 : Int) < ((a :: b :: c :: l).length : Int)) = true := by simp <;> omega
    have h2 : decide ((0 : Int) < ((c :: l).length : Int)) = true := by simp <;> omega
    rw [h1, h2]
  rw [hB]
  split
  · simp
  · rfl
theorem open_ord (n : Nat) (e : Int) : ∀ (ps : List Pz) (last : Int), mkOrd true e last (cutL true (mkL ps)) = pzOrd true n e last ps
  | [], last => by simp [mkL, cutL, cutB, mkOrd, pzOrd]
  | [p], last => by
    rw [mkL_cons]
    unfold pzOrd
    by_cases ht : p.to_.lo = 0
    · have : cutL true (p.from_.lo :: p.to_.lo :: mkL []) = [p.from_.lo] := by simp [cutL, cutB, mkL, ht]
      rw [this]
      simp only [mkOrd, List.isEmpty_nil, ht]
      by_cases hf : p.from_.lo < last <;> simp [hf]
    · have : cutL true (p.from_.lo :: p.to_.lo :: mkL []) = [p.from_.lo, p.to_.lo] := by simp [cutL, cutB, mkL, ht]
      rw [this]
      simp only [mkOrd, List.isEmpty_nil, pzOrd]
      by_cases hf : p.from_.lo < last <;> by_cases hg : p.to_.lo < p.from_.lo <;> simp [hf, hg, ht]
  | p :: q :: l, last => by
    have ih := open_ord n e (q :: l) p.to_.lo
    rw [mkL_cons, mkL_cons, cut_cons2, ← mkL_cons]
    rw [show pzOrd true n e last (p :: q :: l) = if p.from_.lo < last then false else if ((true && (q :: l).isEmpty) && decide (p.to_.lo = 0)) = true then true else if p.to_.lo < p.from_.lo then false else pzOrd true n e p.to_.lo (q :: l) from rfl, ← ih]
    simp only [mkOrd]
    by_cases hf : p.from_.lo < last <;> by_cases hg : p.to_.lo < p.from_.lo <;> simp [hf, hg]
theorem shut_ord (n : Nat) (hn : n ≠ 0) (e : Int) : ∀ (ps : List Pz) (last : Int), (mkOrd false e last (mkL ps) && decide (last ≤ e)) = pzOrd false n e last ps
  | [], last => by
    have : decide ((n : Int) = 0) = false := by simp; exact hn
    simp [mkL, mkOrd, pzOrd]
    intro h; exact absurd h hn
  | p :: l, last => by
    have ih := shut_ord n hn e l p.to_.lo
    rw [mkL_cons]
    rw [show pzOrd false n e last (p :: l) = if p.from_.lo < last then false else if ((false && l.isEmpty) && decide (p.to_.lo = 0)) = true then true else if p.to_.lo < p.from_.lo then false else pzOrd false n e p.to_.lo l from rfl, ← ih]
    simp only [mkOrd]
    by_cases hf : p.from_.lo < last
    · simp [hf]
    · by_cases hg : p.to_.lo < p.from_.lo
      · simp [hf, hg]
      · by_cases he : p.to_.lo ≤ e
        · have h1 : ¬ e < p.from_.lo := by omega
          have h2 : ¬ e < p.to_.lo := by omega
          have h3 : last ≤ e := by omega
          simp [hf, hg, he, h1, h2, h3]
        · have h2 : e < p.to_.lo := by omega
          simp [hf, hg, he, h2]
theorem cut_shut (l : List Int) : cutL false l = l := by simp [cutL, cutB]
theorem shut_le {e : Int} {p : Pz} {l : List Pz} {last : Int} (h : mkOrd false e last (mkL (p :: l)) = true) : last ≤ e := by
  rw [mkL_cons] at h
  simp only [mkOrd] at h
  by_cases hf : p.from_.lo < last
  · simp [hf] at h
  · by_cases h1 : e < p.from_.lo
    · simp [hf, h1] at h
    · omega
theorem marks_ord (o : Bool) (e start : Int) (ps : List Pz) : mkOrd o e start (cutL o (mkL ps)) = pzOrd o ps.length e start ps := by
  cases o with
  | true => exact open_ord _ e ps start
  | false =>
    rw [cut_shut]
    cases ps with
    | nil => simp [mkL, mkOrd, pzOrd]
    | cons p l =>
      rw [← shut_ord (p :: l).length (by simp) e (p :: l) start]
      cases h : mkOrd false e start (mkL (p :: l)) with
      | false => rfl
      | true => simp [shut_le h]
theorem cut_get {o : Bool} {l : List Int} {i : Nat} (h : i < (cutL o l).length) : (cutL o l)[i]? = l[i]? := by
  unfold cutL at h ⊢
  split
  · rename_i hc
    rw [if_pos hc, List.length_take] at h
    rw [List.getElem?_take, if_pos (by omega)]
  · rfl
theorem cut_le (o : Bool) (l : List Int) : (cutL o l).length ≤ l.length := by
  unfold cutL
  split
  · rw [List.length_take]; omega
  · exact Nat.le_refl _

end Go.Proofs.Rid

/-
  The walks: marks of pauses (the reference's way).
-/
namespace Go.Proofs.Rid
open Go Go.RowKit Go.Proofs.E Go.Proofs.Cus

set_option maxHeartbeats 1000000 in
set_option maxRecDepth 20000 in
theorem rmarks_w (x : RX) (w : World) (hx : RdAt w x) (hp : x.r.pauses.length ≤ 1000) : Calls Tryz.prog 185 #[.agg x.cells.toArray] w fun e w' => ∃ z : Option Addr × Nat, e = .returned (.slice z.1 (cutL x.r.open_ (mkL x.r.pauses)).length z.2) ∧ Mem w [inRow z.1 z.2 (mkL x.r.pauses)] w' := by
  obtain ⟨r, ⟨lA, lc, pA, pc⟩⟩ := x
  obtain ⟨-, hpz⟩ := hx
  simp only at hpz hp
  have hpn := hpz.2.1
  obtain ⟨T, hT⟩ : ∃ T : Nat → List Int, ∀ k, T k = mkL (r.pauses.take k) := ⟨_, fun _ => rfl⟩
  have hT0 : T 0 = [] := by rw [hT]; rfl
  have hTn : T r.pauses.length = mkL r.pauses := by rw [hT, List.take_length]
  have hTs : ∀ k p, r.pauses[k]? = some p → T (k + 1) = T k ++ [p.from_.lo, p.to_.lo] := fun k p h => by
    rw [hT, hT, take_snoc _ _ _ h]
    unfold mkL
    rw [List.flatMap_append]; rfl
  have hTl : ∀ k, (T k).length ≤ 2000 := fun k => by
    rw [hT, mkL_len, List.length_take]; omega
  refine H_enter Tryz.func185 rfl Tryz.ntmps185 rfl (H_seq (R0 (X_box (v := .agg _) rfl rfl fun b1 => (xv (asS rfl) (XN (thenJ_normal (H_seq (R0 (xv (asS rfl) ?_)))))))))
  refine XN (thenJ_normal (H_seq (H_seq (R0 (xv (asI rfl) (XN (thenJ_normal (H_block (H_loop [3, 4, 5, 6, 7, 8, 9, 10, 11, 12, 13, 14, 15, 16, 17, 18, 19, 20, 21, 22, 23, 24, 25, 26, 27, 28] (fun q : Nat × Option Addr × Nat => [(4, .int .i64 q.1), (3, .slice q.2.1 (T q.1).length q.2.2)]) (fun q => [inRow q.2.1 q.2.2 (T q.1), box b1 54 (RX.cells ⟨r, ⟨lA, lc, pA, pc⟩⟩)]) (fun q => q.1 ≤ r.pauses.length) (fun q => r.pauses.length - q.1) (0, none, 0) ⟨rfl, by show _ = Value.slice none (T 0).length 0; rw [hT0]; rfl, trivial⟩ (fun w hw => by show Mem _ (inRow none 0 (T 0) :: _) w; rw [hT0]; exact hw.nilRow _ _ _ rfl) rfl (Nat.zero_le _) ?_)))))))))
  rintro ⟨k, oA, oc⟩ g hk
  simp only at hk
  refine H_seq (H_seq (R0 (xv (mvI rfl) (xv (e_fld Tryz.underlying54 rfl Tryz.sizeOf52 rfl (q0 rfl)) (xv (eL Tryz.isAgg52 (q0 rfl)) ?_)))))
  refine xv (e_len Tryz.underlying52 (q0 rfl)) (xv (e_lt (q0 rfl) (q0 rfl)) (XN (thenJ_normal (H_cond rfl (fun hlt => ?_) (fun hlt => ?_)))))
  · have hlt' : k < r.pauses.length := by simpa using hlt
    obtain ⟨b, off, y, rfl, hbl, hy, hry⟩ := hpz.at_ hlt'
    have hst := hTs k y hy
    have hll := hTl k
    refine H_skip (thenJ_normal (H_seq (H_block (RAd 1 rfl (by decide +kernel) (aV 0 (by decide +kernel) rfl (mvS rfl) rfl (aV 1 (by decide +kernel) rfl (e_fld Tryz.underlying54 rfl Tryz.sizeOf52 rfl (q0 rfl)) rfl (aV 2 (by decide +kernel) rfl (eL Tryz.isAgg52 (q0 rfl)) rfl ?_)))))))
    refine aV 3 (by decide +kernel) rfl (mvI rfl) rfl (aV 4 (by decide +kernel) rfl (e_idx k Tryz.underlying52 Tryz.sizeOf198 (q0 rfl) (q0 rfl) (fun _ => ⟨rfl, hlt'⟩)) rfl (aV 5 (by decide +kernel) rfl (e_fld Tryz.underlying198 rfl Tryz.sizeOf50 rfl (q0 rfl)) rfl (aV 6 (by decide +kernel) rfl (e_fld Tryz.underlying50 rfl Tryz.sizeOf3 rfl (q0 rfl)) rfl (aV 7 (by decide +kernel) rfl (e_ld (v := .int .i64 y.from_.lo) Tryz.isAgg3 (q0 rfl) (by exact rc (j := 0) hry hbl rfl)) rfl ?_))))
    refine aV 8 (by decide +kernel) rfl (e_fld Tryz.underlying54 rfl Tryz.sizeOf52 rfl (q0 rfl)) rfl (aV 9 (by decide +kernel) rfl (eL Tryz.isAgg52 (q0 rfl)) rfl ?_)
    refine aV 10 (by decide +kernel) rfl (mvI rfl) rfl (aV 11 (by decide +kernel) rfl (e_idx k Tryz.underlying52 Tryz.sizeOf198 (q0 rfl) (q0 rfl) (fun _ => ⟨rfl, hlt'⟩)) rfl (aV 12 (by decide +kernel) rfl (e_fld Tryz.underlying198 rfl Tryz.sizeOf50 rfl (q0 rfl)) rfl (aV 13 (by decide +kernel) rfl (e_fld Tryz.underlying50 rfl Tryz.sizeOf3 rfl (q0 rfl)) rfl (aV 14 (by decide +kernel) rfl (e_ld (v := .int .i64 y.to_.lo) Tryz.isAgg3 (q0 rfl) (by exact rc (j := 2) hry hbl rfl)) rfl ?_))))
    refine rdy1 (i := 15) (by decide +kernel) (sub_drop 1) (aL rfl (f_slit [(.int .i64 0), (.int .i64 0)] Tryz.underlying22 Tryz.sizeOf3 Tryz.zeroValue3 rfl (by kernel_rfl) (pt (v := .int _ _) rfl (pt (v := .int _ _) rfl E.p0)) rfl rfl fun b27 => (rdy1 (i := 16) (by decide +kernel) (sub_drop 2) (aL rfl (f_append (k := 1) (i := Tryz.t3) (enc := encInt) 1 Tryz.underlying22 (by kernel_rfl) rfl rfl rfl rfl (fun _ => rfl) (fun _ => rfl) rfl rfl rfl (fun w hw => slAt_box (enc := encInt) (xs := [y.from_.lo, y.to_.lo]) hw (j := 0) rfl (fun _ => rfl) (by simp)) ⟨by simp; omega, by decide⟩ rfl fun A2 c2 => (aV 17 (by decide +kernel) rfl (asS rfl) rfl (aZ (by decide +kernel) (sub_drop 2) (blockJ_normal (thenJ_normal (R0 (xv (mvI rfl) ?_)))))))))))
    refine xv (e_add (q0 rfl) (q0 rfl) (fun _ => ⟨rfl, by omega, by omega⟩)) (xv (asI rfl) (XN ?_))
    exact loopJ_normal (k + 1, A2, c2) agr ⟨rfl, by show _ = Value.slice A2 (T (k + 1)).length c2; rw [hst]; rfl, trivial⟩ (fun w hw => by show Mem _ (inRow A2 c2 (T (k + 1)) :: _) w; rw [hst]; exact hw.tail) rfl (by show k + 1 ≤ _; omega) (by show r.pauses.length - (k + 1) < r.pauses.length - k; omega)
  · have hend : k = r.pauses.length := by simp at hlt; omega
    subst hend
    have hll := hTl r.pauses.length
    rw [hTn] at hll
    rw [show (⟨r, ⟨lA, lc, pA, pc⟩⟩ : RX).r = r from rfl]
    simp only [hTn]
    generalize mkL r.pauses = M at *
    refine H_exit (thenJ_exit (loopJ_exit (blockJ_hit (thenJ_normal (H_seq (H_seq ?_))))))
    rcases Nat.eq_zero_or_pos M.length with h0 | h0
    · have hM : M = [] := List.eq_nil_of_length_eq_zero h0
      subst hM
      have hd : (decide ((0 : Int) < (([] : List Int).length : Int)) && r.open_) = false := by simp
      have hd1 : decide ((0 : Int) < (([] : List Int).length : Int)) = false := by simp
      refine R0 (xv (mvS rfl) (xv (e_len Tryz.underlying22 (q0 rfl)) (xv (e_gt (q0 rfl) (q0 rfl)) (xv (mvB rfl) (xt (e_fld Tryz.underlying54 rfl Tryz.sizeOf4 rfl (q0 rfl)) rfl rfl (xt (eL Tryz.isAgg4 (q1 rfl)) rfl rfl ?_))))))
      refine xv (e_and (q0 rfl) rfl (fun h => by first | rfl | (rw [h]; rfl))) ?_
      refine xv (mvB rfl) (xt (e_dead (v := .slice none 0 0) (hd)) rfl rfl (xt (e_dead (v := .slice none 0 0) (hd)) rfl rfl (xt (e_dead (v := .int .i64 0) (hd)) rfl rfl (xt (e_dead (v := .int .i64 0) (hd)) rfl rfl (xt (e_dead (v := .pointer none) (hd)) rfl rfl (xt (e_dead (v := .int .i64 0) (hd)) rfl rfl (xt (e_dead (v := .bool false) (hd)) rfl rfl (xv (e_and (q0 rfl) rfl (fun h => by first | rfl | (rw [h]; rfl))) ?_))))))))
      refine XN (thenJ_normal (H_cond rfl (fun hb => ?_) (fun hb => ?_)))
      · exfalso
        have h2 : ((decide ((0 : Int) < (([] : List Int).length : Int)) && r.open_) && false) = true := hb
        rw [hd] at h2
        exact absurd h2 (by decide)
      · refine H_skip (thenJ_normal (H_seq (R0 (xv (mvS rfl) (xv (asS rfl) (XN (thenJ_normal (H_ret ?_))))))))
        exact ret1 (v := .slice _ _ _) rfl rfl rfl fun w' hw => ⟨(oA, oc), rfl, hw.pick [0] (by decide)⟩
    · obtain ⟨m, hm⟩ : ∃ m, M.length = m + 1 := ⟨M.length - 1, by omega⟩
      have hmi : (M.length : Int) - 1 = (m : Int) := by omega
      have hml : m < M.length := by omega
      obtain ⟨z, hz⟩ : ∃ z, M[m]? = some z := ⟨_, List.getElem?_eq_getElem hml⟩
      have hzd : M.getD (M.length - 1) 0 = z := by rw [show M.length - 1 = m by omega, List.getD_eq_getElem?_getD, hz]; rfl
      refine H_know (fun w hw => rowT_at (j := 0) hw rfl h0) fun ⟨q, hq⟩ => ?_
      subst hq
      refine H_know (fun w hw => rowT_cap (j := 0) hw rfl) fun hcap => (R0 (xv (mvS rfl) (xv (e_len Tryz.underlying22 (q0 rfl)) (xv (e_gt (q0 rfl) (q0 rfl)) (xv (mvB rfl) (xt (e_fld Tryz.underlying54 rfl Tryz.sizeOf4 rfl (q0 rfl)) rfl rfl (xt (eL Tryz.isAgg4 (q1 rfl)) rfl rfl ?_)))))))
      refine xv (e_and (q0 rfl) rfl (fun h => by first | rfl | (rw [h]; rfl))) ?_
      refine xv (mvB rfl) (xt (mvS rfl) rfl rfl (xt (mvS rfl) rfl rfl (xt (e_len Tryz.underlying22 (q1 rfl)) rfl rfl (xt (e_sub (r := ((m : Nat) : Int)) (q1 rfl) (q0 rfl) (fun _ => ⟨hmi, by omega, by omega⟩)) rfl rfl (xt (e_idx m Tryz.underlying22 Tryz.sizeOf3 (q1 rfl) (q1 rfl) (fun _ => ⟨rfl, hml⟩)) rfl rfl (xt (e_ld (v := .int .i64 z) Tryz.isAgg3 (q1 rfl) (by exact rr0 0 (k := 1) (enc := encInt) rfl hz rfl)) rfl rfl ?_))))))
      refine xt (e_eq (q1 rfl) (q0 rfl)) rfl rfl (xv (e_and (q0 rfl) rfl (fun h => by first | rfl | (rw [h]; rfl))) ?_)
      refine XN (thenJ_normal (H_cond rfl (fun hb => ?_) (fun hb => ?_)))
      · have hc : cutL r.open_ M = M.take m := by
          unfold cutL cutB
          rw [hzd, if_pos (show ((decide ((0 : Int) < (M.length : Int)) && r.open_) && decide (z = 0)) = true from hb), show M.length - 1 = m by omega]
        have hcl : (cutL r.open_ M).length = m := by rw [hc, List.length_take]; omega
        rw [hcl]
        refine R0 (xv (mvS rfl) (xv (mvS rfl) (xv (e_len Tryz.underlying22 (q0 rfl)) (xv (e_sub (r := ((m : Nat) : Int)) (q0 rfl) (q0 rfl) (fun _ => ⟨hmi, by omega, by omega⟩)) (xv (e_slHi m Tryz.underlying22 Tryz.sizeOf3 (q0 rfl) (q0 rfl) (fun _ => ⟨by omega, by omega⟩)) (xv (asS rfl) (XN (thenJ_normal (H_seq ?_)))))))))
        refine R0 (xv (mvS rfl) (xv (asS rfl) (XN (thenJ_normal (H_ret ?_)))))
        exact ret1 (v := .slice _ _ _) rfl rfl rfl fun w' hw => ⟨(_, oc), rfl, hw.pick [0] (by decide)⟩
      · have hc : cutL r.open_ M = M := by
          unfold cutL cutB
          rw [hzd, if_neg (by rw [show ((decide ((0 : Int) < (M.length : Int)) && r.open_) && decide (z = 0)) = false from hb]; decide)]
        rw [hc]
        refine H_skip (thenJ_normal (H_seq (R0 (xv (mvS rfl) (xv (asS rfl) (XN (thenJ_normal (H_ret ?_))))))))
        exact ret1 (v := .slice _ _ _) rfl rfl rfl fun w' hw => ⟨(_, oc), rfl, hw.pick [0] (by decide)⟩

end Go.Proofs.Rid

/-
  The walks: Check (the reference's way).
-/
namespace Go.Proofs.Rid
open Go Go.RowKit Go.Proofs.E Go.Proofs.Cus

theorem mkOrd_drop {o : Bool} {e p : Int} {l : List Int} {i : Nat} {u : Int} (hu : l[i]? = some u) : mkOrd o e p (l.drop i) = (!(decide (u < p) || (!o && decide (e < u))) && mkOrd o e u (l.drop (i + 1))) := by
  rw [drop_of hu]; rfl
set_option maxHeartbeats 2000000 in
set_option maxRecDepth 20000 in
theorem rordered_w (x : RX) (w : World) (hx : RdAt w x) (hp : x.r.pauses.length ≤ 1000) : Calls Tryz.prog 157 #[.agg x.cells.toArray] w fun e w' => e = .returned (.bool (orderedP x.r)) ∧ Bel w w' := by
  have hxw := hx
  obtain ⟨r, ⟨lA, lc, pA, pc⟩⟩ := x
  obtain ⟨hlg, hpz⟩ := hx
  simp only at hlg hpz hp
  have hln := hlg.2.1
  have hpn := hpz.2.1
  have hmk := marks_ord r.open_ r.end_.lo r.start.lo r.pauses
  have hml : (mkL r.pauses).length ≤ 2000 := by rw [mkL_len]; omega
  have hcl := cut_le r.open_ (mkL r.pauses)
  have hord : orderedP r = (legsOrd r.open_ r.legs && mkOrd r.open_ r.end_.lo r.start.lo (cutL r.open_ (mkL r.pauses))) := by unfold orderedP; rw [hmk]
  rw [show orderedP (⟨r, ⟨lA, lc, pA, pc⟩⟩ : RX).r = orderedP r from rfl, hord]
  refine H_enter Tryz.func157 rfl Tryz.ntmps157 rfl (H_seq (R0 (X_box (v := .agg _) rfl rfl fun b1 => (xv (asB rfl) (XN (thenJ_normal (H_seq (H_seq (R0 ?_)))))))))
  refine xv (asI rfl) (XN (thenJ_normal (H_block (H_loop [2, 3, 4, 7, 8, 9, 10, 11, 12, 13, 14, 15, 16, 17, 18, 19, 20, 21, 22, 23, 24, 25, 26, 27, 28, 29, 30, 31, 32, 33, 34, 35, 36, 37, 38, 39, 40, 41, 42] (fun k : Nat => [(3, .int .i64 k)]) (fun _ => [box b1 54 (RX.cells ⟨r, ⟨lA, lc, pA, pc⟩⟩)]) (fun k => k ≤ r.legs.length ∧ legsOrd r.open_ r.legs = legsOrd r.open_ (r.legs.drop k)) (fun k => r.legs.length - k) 0 ⟨rfl, trivial⟩ (fun w hw => hw) rfl ⟨Nat.zero_le _, rfl⟩ ?_))))
  rintro k g ⟨hk, hall⟩
  refine H_seq (H_seq (R0 (xv (mvI rfl) (xv (e_fld Tryz.underlying54 rfl Tryz.sizeOf51 rfl (q0 rfl)) (xv (eL Tryz.isAgg51 (q0 rfl)) ?_)))))
  refine xv (e_len Tryz.underlying51 (q0 rfl)) (xv (e_lt (q0 rfl) (q0 rfl)) (XN (thenJ_normal (H_cond rfl (fun hlt => ?_) (fun hlt => ?_)))))
  · have hlt' : k < r.legs.length := by simpa using hlt
    obtain ⟨b, off, y, rfl, hbl, hy, hry⟩ := hlg.at_ hlt'
    have hst : legsOrd r.open_ (r.legs.drop k) = (!(decide (y.to_.lo < y.from_.lo) && !(r.open_ && decide ((k : Int) = (r.legs.length : Int) - 1))) && legsOrd r.open_ (r.legs.drop (k + 1))) := by
      rw [drop_of hy]
      show (!(decide (y.to_.lo < y.from_.lo) && !(r.open_ && (r.legs.drop (k + 1)).isEmpty)) && _) = _
      rw [drop_empty hlt']
    rw [hst] at hall
    refine H_skip (thenJ_normal (H_seq (H_block (H_seq (R0 (xv (mvI rfl) (xv (e_fld Tryz.underlying54 rfl Tryz.sizeOf51 rfl (q0 rfl)) (xv (eL Tryz.isAgg51 (q0 rfl)) ?_))))))))
    refine xv (e_len Tryz.underlying51 (q0 rfl)) (xv (e_sub (r := (r.legs.length : Int) - 1) (q0 rfl) (q0 rfl) (fun _ => ⟨rfl, by omega, by omega⟩)) (xv (e_eq (q0 rfl) (q0 rfl)) (xv (mvB rfl) (xt (e_fld Tryz.underlying54 rfl Tryz.sizeOf4 rfl (q0 rfl)) rfl rfl (xt (eL Tryz.isAgg4 (q1 rfl)) rfl rfl ?_)))))
    refine xv (e_and (q0 rfl) rfl (fun h => by first | rfl | (rw [h]; rfl))) ?_
    refine xv (asB rfl) (XN (thenJ_normal (H_seq (R1 rfl (by decide +kernel) (xv (mvB rfl) (xv (e_not (q0 rfl)) (xv (mvB rfl) (xt (e_fld Tryz.underlying54 rfl Tryz.sizeOf51 rfl (q0 rfl)) rfl rfl (xt (eL Tryz.isAgg51 (q1 rfl)) rfl rfl ?_)))))))))
    refine xt (mvI rfl) rfl rfl (xt (e_idx k Tryz.underlying51 Tryz.sizeOf134 (q1 rfl) (q1 rfl) (fun _ => ⟨rfl, hlt'⟩)) rfl rfl (xt (e_fld Tryz.underlying134 rfl Tryz.sizeOf50 rfl (q1 rfl)) rfl rfl (xt (e_fld Tryz.underlying50 rfl Tryz.sizeOf3 rfl (q1 rfl)) rfl rfl (xt (e_ld (v := .int .i64 y.from_.lo) Tryz.isAgg3 (q1 rfl) (by exact rc (j := 1) hry hbl rfl)) rfl rfl ?_))))
    refine xt (e_fld Tryz.underlying54 rfl Tryz.sizeOf51 rfl (q0 rfl)) rfl rfl (xt (eL Tryz.isAgg51 (q1 rfl)) rfl rfl ?_)
    refine xt (mvI rfl) rfl rfl (xt (e_idx k Tryz.underlying51 Tryz.sizeOf134 (q1 rfl) (q1 rfl) (fun _ => ⟨rfl, hlt'⟩)) rfl rfl (xt (e_fld Tryz.underlying134 rfl Tryz.sizeOf50 rfl (q1 rfl)) rfl rfl (xt (e_fld Tryz.underlying50 rfl Tryz.sizeOf3 rfl (q1 rfl)) rfl rfl (xt (e_ld (v := .int .i64 y.to_.lo) Tryz.isAgg3 (q1 rfl) (by exact rc (j := 3) hry hbl rfl)) rfl rfl ?_))))
    refine xt (e_gt (q1 rfl) (q1 rfl)) rfl rfl (xv (e_and (q0 rfl) rfl (fun h => by first | rfl | (rw [h]; rfl))) ?_)
    refine XN (thenJ_normal (H_cond rfl (fun hb => ?_) (fun hb => ?_)))
    · have h2 : (!(decide ((k : Int) = (r.legs.length : Int) - 1) && r.open_) && decide (y.to_.lo < y.from_.lo)) = true := hb
      have h3 : legsOrd r.open_ r.legs = false := by
        rw [hall]
        revert h2
        cases decide ((k : Int) = (r.legs.length : Int) - 1) <;> cases r.open_ <;> cases decide (y.to_.lo < y.from_.lo) <;> simp
      rw [h3]
      refine H_seq (R0 (xv (asB rfl) (XN (thenJ_normal (H_ret (blockJ_ret (thenJ_ret (loopJ_ret (blockJ_ret ?_)))))))))
      refine thenJ_ret ?_
      exact ret1 (v := .bool _) rfl rfl rfl fun w' hw => ⟨rfl, hw.1⟩
    · have h2 : (!(decide ((k : Int) = (r.legs.length : Int) - 1) && r.open_) && decide (y.to_.lo < y.from_.lo)) = false := hb
      have h3 : legsOrd r.open_ r.legs = legsOrd r.open_ (r.legs.drop (k + 1)) := by
        rw [hall]
        revert h2
        cases decide ((k : Int) = (r.legs.length : Int) - 1) <;> cases r.open_ <;> cases decide (y.to_.lo < y.from_.lo) <;> simp
      refine H_skip (blockJ_normal (thenJ_normal (R0 (xv (mvI rfl) (xv (e_add (q0 rfl) (q0 rfl) (fun _ => ⟨rfl, by omega, by omega⟩)) (xv (asI rfl) (XN ?_)))))))
      exact loopJ_normal (k + 1) agr ⟨rfl, trivial⟩ (fun w hw => hw) rfl ⟨by omega, h3⟩ (by show r.legs.length - (k + 1) < r.legs.length - k; omega)
  · have hend : k = r.legs.length := by simp at hlt; omega
    have hlo : legsOrd r.open_ r.legs = true := by rw [hall, hend, List.drop_length]; rfl
    rw [hlo, Bool.true_and]
    refine H_exit (thenJ_exit (loopJ_exit (blockJ_hit (thenJ_normal (H_seq (R0 (xv (eS Tryz.isAgg54 Tryz.sizeOf54 (q0 rfl)) ?_)))))))
    refine xCX (en Tryz.call185 (ha1 (q0 rfl))) (fun w hw => rmarks_w ⟨r, ⟨lA, lc, pA, pc⟩⟩ w (hxw.mem hw) hp) rfl (fun _ => rfl) fun z => ?_
    rw [show (⟨r, ⟨lA, lc, pA, pc⟩⟩ : RX).r = r from rfl]
    obtain ⟨C, hC⟩ : ∃ C, C = cutL r.open_ (mkL r.pauses) := ⟨_, rfl⟩
    have hCl : C.length ≤ 2000 := by rw [hC]; omega
    have hCg : ∀ i, i < C.length → C[i]? = (mkL r.pauses)[i]? := fun i hi => by rw [hC] at hi ⊢; exact cut_get hi
    have hCM : C.length ≤ (mkL r.pauses).length := by rw [hC]; exact hcl
    simp only [← hC]
    generalize mkL r.pauses = M at *
    refine xv (asS rfl) (XN (thenJ_normal (H_seq (H_seq (R0 (xv (asI rfl) (XN (thenJ_normal (H_block ?_)))))))))
    refine H_loop [2, 6, 45, 46, 47, 48, 49, 50, 51, 52, 53, 54, 55, 56, 57, 58, 59, 60, 61, 62, 63, 64, 65, 66, 67, 68, 69, 70, 71, 72, 73, 74, 75, 76, 77, 78, 79, 80, 81, 82, 83, 84, 85, 86, 87, 88, 89, 90, 91, 92, 93] (fun i : Nat => [(6, .int .i64 i)]) (fun _ => [inRow z.1 z.2 M, box b1 54 (RX.cells ⟨r, ⟨lA, lc, pA, pc⟩⟩)]) (fun i => i ≤ C.length ∧ ∃ p, (i = 0 → p = r.start.lo) ∧ (0 < i → C[i - 1]? = some p) ∧ mkOrd r.open_ r.end_.lo r.start.lo C = mkOrd r.open_ r.end_.lo p (C.drop i)) (fun i => C.length - i) 0 ⟨rfl, trivial⟩ (fun w hw => hw) rfl ⟨Nat.zero_le _, r.start.lo, fun _ => rfl, fun h => absurd h (by decide), rfl⟩ ?_
    rintro i g2 ⟨hi, p, hp0, hp1, hall2⟩
    refine H_seq (H_seq (R0 (xv (mvI rfl) (xv (mvS rfl) (xv (e_len Tryz.underlying22 (q0 rfl)) (xv (e_lt (q0 rfl) (q0 rfl)) (XN (thenJ_normal (H_cond rfl (fun hlt2 => ?_) (fun hlt2 => ?_))))))))))
    · have hlt2' : i < C.length := by simpa using hlt2
      obtain ⟨u, hu⟩ : ∃ u, C[i]? = some u := ⟨_, List.getElem?_eq_getElem hlt2'⟩
      have huM : M[i]? = some u := by rw [← hCg i hlt2']; exact hu
      rw [mkOrd_drop hu] at hall2
      refine H_know (fun w hw => rowT_at (j := 0) hw rfl (by omega)) fun ⟨q, hq⟩ => ?_
      obtain ⟨z1, z2⟩ := z
      simp only at hq
      subst hq
      rcases Nat.eq_zero_or_pos i with h0 | h0
      · subst h0
        have hpe := hp0 rfl
        subst hpe
        refine H_skip (thenJ_normal (H_seq (H_block (H_seq (R1 rfl (by decide +kernel) (xv (mvI rfl) (xv (e_eq (q0 rfl) (q0 rfl)) (xv (mvB rfl) (xt (mvS rfl) rfl rfl ?_)))))))))
        refine xt (mvI rfl) rfl rfl (xt (e_idx 0 Tryz.underlying22 Tryz.sizeOf3 (q1 rfl) (q1 rfl) (fun _ => ⟨rfl, hlt2'⟩)) rfl rfl (xt (e_ld (v := .int .i64 u) Tryz.isAgg3 (q1 rfl) (by exact rr0 0 (k := 1) (enc := encInt) rfl huM rfl)) rfl rfl ?_))
        refine xt (e_fld Tryz.underlying54 rfl Tryz.sizeOf50 rfl (q0 rfl)) rfl rfl (xt (e_fld Tryz.underlying50 rfl Tryz.sizeOf3 rfl (q1 rfl)) rfl rfl (xt (eL Tryz.isAgg3 (q1 rfl)) rfl rfl ?_))
        refine xt (e_lt (q1 rfl) (q1 rfl)) rfl rfl (xv (e_and (q0 rfl) rfl (fun h => by first | rfl | (rw [h]; rfl))) ?_)
        refine xv (mvB rfl) (xf (mvI rfl) rfl rfl (xf (e_gt (q1 rfl) (q0 rfl)) rfl rfl (xf (e_mv (v := .bool _) (q1 rfl)) rfl rfl (xVT2 (e_dead (v := .slice none 0 0) (by simp)) rfl rfl rfl rfl (xVT2 (e_dead (v := .int .i64 0) (by simp)) rfl rfl rfl rfl (xVT2 (e_dead (v := .pointer none) (by simp)) rfl rfl rfl rfl (xVT2 (e_dead (v := .int .i64 0) (by simp)) rfl rfl rfl rfl (xVT2 (e_dead (v := .slice none 0 0) (by simp)) rfl rfl rfl rfl (xVT2 (e_dead (v := .int .i64 0) (by simp)) rfl rfl rfl rfl ?_)))))))))
        refine xVT2 (e_dead (v := .int .i64 0) (by simp)) rfl rfl rfl rfl (xVT2 (e_dead (v := .pointer none) (by simp)) rfl rfl rfl rfl (xVT2 (e_dead (v := .int .i64 0) (by simp)) rfl rfl rfl rfl (xVT2 (e_dead (v := .bool false) (by simp)) rfl rfl rfl rfl (xf (e_and (q1 rfl) rfl (fun h => by first | rfl | (rw [h]; rfl))) rfl rfl ?_))))
        refine xv (e_or (q0 rfl) rfl (fun h => by first | rfl | (rw [h]; rfl))) ?_
        refine xv (mvB rfl) (xf (e_fld Tryz.underlying54 rfl Tryz.sizeOf4 rfl (q0 rfl)) rfl rfl (xf (eL Tryz.isAgg4 (q1 rfl)) rfl rfl ?_))
        refine xf (e_not (q1 rfl)) rfl rfl (xf (e_mv (v := .bool _) (q1 rfl)) rfl rfl (xVT2 (mvS rfl) rfl rfl rfl rfl (xVT2 (mvI rfl) rfl rfl rfl rfl (xVT2 (e_idx 0 Tryz.underlying22 Tryz.sizeOf3 (q1 rfl) (q1 rfl) (fun _ => ⟨rfl, hlt2'⟩)) rfl rfl rfl rfl (xVT2 (e_ld (v := .int .i64 u) Tryz.isAgg3 (q1 rfl) (by exact rr0 0 (k := 1) (enc := encInt) rfl huM rfl)) rfl rfl rfl rfl ?_)))))
        refine xVT2 (e_fld Tryz.underlying54 rfl Tryz.sizeOf50 rfl (q0 rfl)) rfl rfl rfl rfl (xVT2 (e_fld Tryz.underlying50 rfl Tryz.sizeOf3 rfl (q1 rfl)) rfl rfl rfl rfl (xVT2 (eL Tryz.isAgg3 (q1 rfl)) rfl rfl rfl rfl ?_))
        refine xVT2 (e_gt (q1 rfl) (q1 rfl)) rfl rfl rfl rfl (xf (e_and (q1 rfl) rfl (fun h => by first | rfl | (rw [h]; rfl))) rfl rfl ?_)
        refine xv (e_or (q0 rfl) rfl (fun h => by first | rfl | (rw [h]; rfl))) ?_
        refine XN (thenJ_normal (H_cond rfl (fun hb => ?_) (fun hb => ?_)))
        · have h2 : (((decide (((0 : Nat) : Int) = 0) && decide (u < r.start.lo)) || (decide ((0 : Int) < ((0 : Nat) : Int)) && false)) || (!r.open_ && decide (r.end_.lo < u))) = true := hb
          have h3 : (decide (u < r.start.lo) || (!r.open_ && decide (r.end_.lo < u))) = true := by simpa using h2
          rw [hall2, h3]
          refine H_seq (R0 (xv (asB rfl) (XN (thenJ_normal (H_ret (blockJ_ret (thenJ_ret (loopJ_ret (blockJ_ret ?_)))))))))
          refine thenJ_ret ?_
          exact ret1 (v := .bool _) rfl rfl rfl fun w' hw => ⟨rfl, hw.1⟩
        · have h2 : (((decide (((0 : Nat) : Int) = 0) && decide (u < r.start.lo)) || (decide ((0 : Int) < ((0 : Nat) : Int)) && false)) || (!r.open_ && decide (r.end_.lo < u))) = false := hb
          have h3 : (decide (u < r.start.lo) || (!r.open_ && decide (r.end_.lo < u))) = false := by simpa using h2
          rw [h3, Bool.not_false, Bool.true_and] at hall2
          refine H_skip (blockJ_normal (thenJ_normal (R0 (xv (mvI rfl) (xv (e_add (q0 rfl) (q0 rfl) (fun _ => ⟨rfl, by omega, by omega⟩)) (xv (asI rfl) (XN ?_)))))))
          exact loopJ_normal (0 + 1) agr ⟨rfl, trivial⟩ (fun w hw => hw) rfl ⟨by omega, u, fun h => absurd h (by omega), fun _ => hu, hall2⟩ (by show C.length - (0 + 1) < C.length - (0); omega)
      · obtain ⟨j, rfl⟩ : ∃ j, i = j + 1 := ⟨i - 1, by omega⟩
        have hpj : C[j]? = some p := hp1 h0
        have hjl : j < C.length := by omega
        have hpM : M[j]? = some p := by rw [← hCg j hjl]; exact hpj
        have hji : ((j + 1 : Nat) : Int) - 1 = (j : Int) := by omega
        have hz0 : decide (((j + 1 : Nat) : Int) = 0) = false := by simp <;> omega
        have hz1 : decide ((0 : Int) < ((j + 1 : Nat) : Int)) = true := by simp <;> omega
        refine H_skip (thenJ_normal (H_seq (H_block (H_seq (R1 rfl (by decide +kernel) (xv (mvI rfl) (xv (e_eq (q0 rfl) (q0 rfl)) (xv (mvB rfl) (xt (e_dead (v := .slice none 0 0) (hz0)) rfl rfl ?_)))))))))
        refine xt (e_dead (v := .int .i64 0) (hz0)) rfl rfl (xt (e_dead (v := .pointer none) (hz0)) rfl rfl (xt (e_dead (v := .int .i64 0) (hz0)) rfl rfl (xt (e_dead (v := .pointer none) (hz0)) rfl rfl (xt (e_dead (v := .pointer none) (hz0)) rfl rfl (xt (e_dead (v := .int .i64 0) (hz0)) rfl rfl (xt (e_dead (v := .bool false) (hz0)) rfl rfl (xv (e_and (q0 rfl) rfl (fun h => by first | rfl | (rw [h]; rfl))) ?_)))))))
        refine xv (mvB rfl) (xf (mvI rfl) rfl rfl (xf (e_gt (q1 rfl) (q0 rfl)) rfl rfl (xf (e_mv (v := .bool _) (q1 rfl)) rfl rfl (xVT2 (mvS rfl) rfl rfl rfl rfl (xVT2 (mvI rfl) rfl rfl rfl rfl (xVT2 (e_idx (j + 1) Tryz.underlying22 Tryz.sizeOf3 (q1 rfl) (q1 rfl) (fun _ => ⟨rfl, hlt2'⟩)) rfl rfl rfl rfl (xVT2 (e_ld (v := .int .i64 u) Tryz.isAgg3 (q1 rfl) (by exact rr0 0 (k := 1) (enc := encInt) rfl huM rfl)) rfl rfl rfl rfl ?_)))))))
        refine xVT2 (mvS rfl) rfl rfl rfl rfl (xVT2 (mvI rfl) rfl rfl rfl rfl (xVT2 (e_sub (r := ((j : Nat) : Int)) (q1 rfl) (q0 rfl) (fun _ => ⟨hji, by omega, by omega⟩)) rfl rfl rfl rfl (xVT2 (e_idx j Tryz.underlying22 Tryz.sizeOf3 (q1 rfl) (q1 rfl) (fun _ => ⟨rfl, hjl⟩)) rfl rfl rfl rfl (xVT2 (e_ld (v := .int .i64 p) Tryz.isAgg3 (q1 rfl) (by exact rr0 0 (k := 1) (enc := encInt) rfl hpM rfl)) rfl rfl rfl rfl ?_))))
        refine xVT2 (e_lt (q1 rfl) (q1 rfl)) rfl rfl rfl rfl (xf (e_and (q1 rfl) rfl (fun h => by first | rfl | (rw [h]; rfl))) rfl rfl ?_)
        refine xv (e_or (q0 rfl) rfl (fun h => by first | rfl | (rw [h]; rfl))) ?_
        refine xv (mvB rfl) (xf (e_fld Tryz.underlying54 rfl Tryz.sizeOf4 rfl (q0 rfl)) rfl rfl (xf (eL Tryz.isAgg4 (q1 rfl)) rfl rfl ?_))
        refine xf (e_not (q1 rfl)) rfl rfl (xf (e_mv (v := .bool _) (q1 rfl)) rfl rfl (xVT2 (mvS rfl) rfl rfl rfl rfl (xVT2 (mvI rfl) rfl rfl rfl rfl (xVT2 (e_idx (j + 1) Tryz.underlying22 Tryz.sizeOf3 (q1 rfl) (q1 rfl) (fun _ => ⟨rfl, hlt2'⟩)) rfl rfl rfl rfl (xVT2 (e_ld (v := .int .i64 u) Tryz.isAgg3 (q1 rfl) (by exact rr0 0 (k := 1) (enc := encInt) rfl huM rfl)) rfl rfl rfl rfl ?_)))))
        refine xVT2 (e_fld Tryz.underlying54 rfl Tryz.sizeOf50 rfl (q0 rfl)) rfl rfl rfl rfl (xVT2 (e_fld Tryz.underlying50 rfl Tryz.sizeOf3 rfl (q1 rfl)) rfl rfl rfl rfl (xVT2 (eL Tryz.isAgg3 (q1 rfl)) rfl rfl rfl rfl ?_))
        refine xVT2 (e_gt (q1 rfl) (q1 rfl)) rfl rfl rfl rfl (xf (e_and (q1 rfl) rfl (fun h => by first | rfl | (rw [h]; rfl))) rfl rfl ?_)
        refine xv (e_or (q0 rfl) rfl (fun h => by first | rfl | (rw [h]; rfl))) ?_
        refine XN (thenJ_normal (H_cond rfl (fun hb => ?_) (fun hb => ?_)))
        · have h2 : (((decide (((j + 1 : Nat) : Int) = 0) && false) || (decide ((0 : Int) < ((j + 1 : Nat) : Int)) && decide (u < p))) || (!r.open_ && decide (r.end_.lo < u))) = true := hb
          have h3 : (decide (u < p) || (!r.open_ && decide (r.end_.lo < u))) = true := by rw [hz0, hz1] at h2; simpa using h2
          rw [hall2, h3]
          refine H_seq (R0 (xv (asB rfl) (XN (thenJ_normal (H_ret (blockJ_ret (thenJ_ret (loopJ_ret (blockJ_ret ?_)))))))))
          refine thenJ_ret ?_
          exact ret1 (v := .bool _) rfl rfl rfl fun w' hw => ⟨rfl, hw.1⟩
        · have h2 : (((decide (((j + 1 : Nat) : Int) = 0) && false) || (decide ((0 : Int) < ((j + 1 : Nat) : Int)) && decide (u < p))) || (!r.open_ && decide (r.end_.lo < u))) = false := hb
          have h3 : (decide (u < p) || (!r.open_ && decide (r.end_.lo < u))) = false := by rw [hz0, hz1] at h2; simpa using h2
          rw [h3, Bool.not_false, Bool.true_and] at hall2
          refine H_skip (blockJ_normal (thenJ_normal (R0 (xv (mvI rfl) (xv (e_add (q0 rfl) (q0 rfl) (fun _ => ⟨rfl, by omega, by omega⟩)) (xv (asI rfl) (XN ?_)))))))
          exact loopJ_normal (j + 1 + 1) agr ⟨rfl, trivial⟩ (fun w hw => hw) rfl ⟨by omega, u, fun h => absurd h (by omega), fun _ => hu, hall2⟩ (by show C.length - (j + 1 + 1) < C.length - (j + 1); omega)
    · have hend2 : i = C.length := by simp at hlt2; omega
      rw [hall2, hend2, List.drop_length]
      refine H_exit (thenJ_exit (loopJ_exit (blockJ_hit (thenJ_normal (H_seq (R0 (xv (asB rfl) (XN (thenJ_normal ?_)))))))))
      refine H_ret ?_
      exact ret1 (v := .bool _) rfl rfl rfl fun w' hw => ⟨rfl, hw.1⟩
set_option maxHeartbeats 1000000 in
set_option maxRecDepth 20000 in
theorem refcheck_w (x : RX) (w : World) (hx : RdAt w x) (hp : x.r.pauses.length ≤ 1000) : Calls Tryz.prog 100 #[.agg x.cells.toArray] w fun e w' => e = .returned (.int .i64 (checkR x.r)) ∧ Bel w w' := by
  have hxw := hx
  obtain ⟨r, ra⟩ := x
  simp only at hp
  rw [show checkR (⟨r, ra⟩ : RX).r = checkR r from rfl]
  unfold checkR
  refine H_enter Tryz.func100 rfl Tryz.ntmps100 rfl (H_seq (R0 (X_box (v := .agg _) rfl rfl fun b1 => (xv (asI rfl) (XN (thenJ_normal (H_seq (H_block (H_seq ?_)))))))))
  refine R0 (xv (eS Tryz.isAgg54 Tryz.sizeOf54 (q0 rfl)) ?_)
  refine xC (en Tryz.call155 (ha1 (q0 rfl))) (fun _ w hw => rranged_w ⟨r, ra⟩ w (hxw.mem hw)) rfl rfl (xv (e_not (q0 rfl)) (xv (asB rfl) (XN (thenJ_normal (H_cond rfl (fun h1 => ?_) (fun h1 => ?_))))))
  · rw [if_pos (show (!rangedP r) = true from h1)]
    refine H_seq (R0 (xv (asI rfl) (XN (thenJ_normal (H_ret (blockJ_ret (thenJ_ret ?_)))))))
    exact ret1 (v := .int _ _) rfl rfl rfl fun w' hw => ⟨rfl, hw.1⟩
  · rw [if_neg (show ¬ (!rangedP r) = true by rw [show (!rangedP r) = false from h1]; decide)]
    refine H_seq (R0 (xv (eS Tryz.isAgg54 Tryz.sizeOf54 (q0 rfl)) ?_))
    refine xC (en Tryz.call156 (ha1 (q0 rfl))) (fun _ w hw => rjoined_w ⟨r, ra⟩ w (hxw.mem hw)) rfl rfl (xv (e_not (q0 rfl)) (xv (asB rfl) (XN (thenJ_normal (H_cond rfl (fun h2 => ?_) (fun h2 => ?_))))))
    · rw [if_pos (show (!joinedP r) = true from h2)]
      refine H_seq (R0 (xv (asI rfl) (XN (thenJ_normal (H_ret (blockJ_ret (thenJ_ret ?_)))))))
      exact ret1 (v := .int _ _) rfl rfl rfl fun w' hw => ⟨rfl, hw.1⟩
    · rw [if_neg (show ¬ (!joinedP r) = true by rw [show (!joinedP r) = false from h2]; decide)]
      refine H_seq (R0 (xv (eS Tryz.isAgg54 Tryz.sizeOf54 (q0 rfl)) ?_))
      refine xC (en Tryz.call157 (ha1 (q0 rfl))) (fun _ w hw => rordered_w ⟨r, ra⟩ w (hxw.mem hw) hp) rfl rfl (xv (e_not (q0 rfl)) (xv (asB rfl) (XN (thenJ_normal (H_cond rfl (fun h3 => ?_) (fun h3 => ?_))))))
      · rw [if_pos (show (!orderedP r) = true from h3)]
        refine H_seq (R0 (xv (asI rfl) (XN (thenJ_normal (H_ret (blockJ_ret (thenJ_ret ?_)))))))
        exact ret1 (v := .int _ _) rfl rfl rfl fun w' hw => ⟨rfl, hw.1⟩
      · rw [if_neg (show ¬ (!orderedP r) = true by rw [show (!orderedP r) = false from h3]; decide)]
        refine H_seq (R0 (xv (e_fld Tryz.underlying54 rfl Tryz.sizeOf4 rfl (q0 rfl)) (xv (eL Tryz.isAgg4 (q0 rfl)) ?_)))
        refine xv (mvB rfl) (xt (e_fld Tryz.underlying54 rfl Tryz.sizeOf50 rfl (q0 rfl)) rfl rfl (xt (eP Tryz.isAgg50 Tryz.sizeOf50 (q1 rfl)) rfl rfl ?_))
        refine xt (EvG.any (e_build Tryz.underlying50 fl50 Tryz.zeroValue50 E.p0 rfl)) rfl rfl (xt (e_neS (fun w => eqSpn r.end_ zSpn w) (by kernel_rfl) (q1 rfl) (q1 rfl)) rfl rfl (xv (e_and (q0 rfl) rfl (fun h => by first | rfl | (rw [h]; rfl))) ?_))
        refine xv (mvB rfl) (xf (e_fld Tryz.underlying54 rfl Tryz.sizeOf4 rfl (q0 rfl)) rfl rfl (xf (eL Tryz.isAgg4 (q1 rfl)) rfl rfl ?_))
        refine xf (e_fld Tryz.underlying54 rfl Tryz.sizeOf3 rfl (q0 rfl)) rfl rfl (xf (eL Tryz.isAgg3 (q1 rfl)) rfl rfl ?_)
        refine xf (e_eq (q1 rfl) (q0 rfl)) rfl rfl (xf (e_neb Tryz.underlying4 (q1 rfl) (q1 rfl)) rfl rfl (xv (e_or (q0 rfl) rfl (fun h => by first | rfl | (rw [h]; rfl))) ?_))
        refine xv (asB rfl) (XN (thenJ_normal (H_cond rfl (fun h4 => ?_) (fun h4 => ?_))))
        · have h5 : ((r.open_ && !decide (r.end_ = zSpn)) || !(r.open_ == decide (r.wh = 3))) = true := h4
          have h6 : (if (r.open_ && !decide (r.end_ = zSpn)) = true then (12 : Int) else if (!(r.open_ == decide (r.wh = 3))) = true then 12 else 0) = 12 := by
            revert h5
            cases (r.open_ && !decide (r.end_ = zSpn)) <;> cases (r.open_ == decide (r.wh = 3)) <;> simp
          rw [h6]
          refine H_seq (R0 (xv (asI rfl) (XN (thenJ_normal (H_ret (blockJ_ret (thenJ_ret ?_)))))))
          exact ret1 (v := .int _ _) rfl rfl rfl fun w' hw => ⟨rfl, hw.1⟩
        · have h5 : ((r.open_ && !decide (r.end_ = zSpn)) || !(r.open_ == decide (r.wh = 3))) = false := h4
          have h6 : (if (r.open_ && !decide (r.end_ = zSpn)) = true then (12 : Int) else if (!(r.open_ == decide (r.wh = 3))) = true then 12 else 0) = 0 := by
            revert h5
            cases (r.open_ && !decide (r.end_ = zSpn)) <;> cases (r.open_ == decide (r.wh = 3)) <;> simp
          rw [h6]
          refine H_skip (blockJ_normal (thenJ_normal (H_seq (R0 (xv (asI rfl) (XN (thenJ_normal (H_ret ?_))))))))
          exact ret1 (v := .int _ _) rfl rfl rfl fun w' hw => ⟨rfl, hw.1⟩

end Go.Proofs.Rid
