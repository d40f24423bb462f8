/-
  The walks: fleets and events, each by itself.
-/
import Derived.Test.YtnikolfakmgbbaaSpec
import Derived.Test.YtnikolfakmgbbaaEz
import Derived.Test.YtnikolfakmgbbaaProg
namespace Go.Proofs.Cus
open Go Go.RowKit Go.Proofs.E

abbrev IntsAt (w : World) (A : Option Addr) (n : Nat) (xs : List Int) : Prop := SlAt w 1 encInt A n xs
def Ev.cells (e : Ev) : List Value := [.int .i64 e.device, .int .i64 e.seq, .int .i64 e.at_, .int .i64 e.late, .int .i64 e.kind, .int .i64 e.bike, .int .i64 e.place, .int .i64 e.rider, .int .i64 e.ride]
/-- where a fleet's lists lie -/
structure FA where
  dA : Option Addr
  dn : Nat
  dc : Nat
  tA : Option Addr
  tn : Nat
  tc : Nat
def Fl.cells (f : Fl) (a : FA) : List Value := [.int .i64 f.bikes, .int .i64 f.riders, .int .i64 f.devices, .slice a.dA a.dn a.dc, .slice a.tA a.tn a.tc]
structure FlAt (w : World) (f : Fl) (a : FA) : Prop where
  docks : IntsAt w a.dA a.dn f.docks
  trucks : IntsAt w a.tA a.tn f.trucks
theorem FlAt.mem {w0 w : World} {L : List E.Item} {f : Fl} {a : FA} (h : FlAt w0 f a) (hm : Mem w0 L w) : FlAt w f a := ⟨h.docks.mem hm, h.trucks.mem hm⟩

theorem within_w (n low high : Int) (w : World) : Calls Try.prog 65 #[.int .i64 n, .int .i64 low, .int .i64 high] w fun e w' => e = .returned (.bool (within n low high)) ∧ Bel w w' := by
  refine H_enter Try.func65 rfl Try.ntmps65 rfl ?_
  refine H_seq ?_
  refine R0 ?_
  refine xV (e_as (v := .bool _) (q0 rfl)) rfl rfl ?_
  refine XN ?_
  refine thenJ_normal ?_
  refine H_seq ?_
  refine R0 ?_
  refine xV (e_mv (v := .int _ _) (q0 rfl)) rfl rfl ?_
  refine xV (e_mv (v := .int _ _) (q0 rfl)) rfl rfl ?_
  refine xV (e_le (q0 rfl) (q0 rfl)) rfl rfl ?_
  refine xV (e_mv (v := .bool _) (q0 rfl)) rfl rfl ?_
  refine xVT (e_mv (v := .int _ _) (q0 rfl)) rfl rfl rfl rfl ?_
  refine xVT (e_mv (v := .int _ _) (q0 rfl)) rfl rfl rfl rfl ?_
  refine xVT (e_le (q1 rfl) (q1 rfl)) rfl rfl rfl rfl ?_
  refine xV (e_and (q0 rfl) rfl (fun h => by first | rfl | (rw [h]; rfl))) rfl rfl ?_
  refine xV (e_as (v := .bool _) (q0 rfl)) rfl rfl ?_
  refine XN ?_
  refine thenJ_normal ?_
  refine H_ret ?_
  exact ret1 (v := .bool _) rfl rfl rfl fun w' hw => ⟨rfl, hw.1⟩
theorem between_w (n low high : Int) (w : World) : Calls Try.prog 71 #[.int .i64 n, .int .i64 low, .int .i64 high] w fun e w' => e = .returned (.bool (within n low high)) ∧ Bel w w' := by
  refine H_enter Try.func71 rfl Try.ntmps71 rfl ?_
  refine H_seq ?_
  refine R0 ?_
  refine xV (e_as (v := .bool _) (q0 rfl)) rfl rfl ?_
  refine XN ?_
  refine thenJ_normal ?_
  refine H_seq ?_
  refine R0 ?_
  refine xV (e_mv (v := .int _ _) (q0 rfl)) rfl rfl ?_
  refine xV (e_mv (v := .int _ _) (q0 rfl)) rfl rfl ?_
  refine xV (e_ge (q0 rfl) (q0 rfl)) rfl rfl ?_
  refine xV (e_mv (v := .bool _) (q0 rfl)) rfl rfl ?_
  refine xVT (e_mv (v := .int _ _) (q0 rfl)) rfl rfl rfl rfl ?_
  refine xVT (e_mv (v := .int _ _) (q0 rfl)) rfl rfl rfl rfl ?_
  refine xVT (e_le (q1 rfl) (q1 rfl)) rfl rfl rfl rfl ?_
  refine xV (e_and (q0 rfl) rfl (fun h => by first | rfl | (rw [h]; rfl))) rfl rfl ?_
  refine xV (e_as (v := .bool _) (q0 rfl)) rfl rfl ?_
  refine XN ?_
  refine thenJ_normal ?_
  refine H_ret ?_
  exact ret1 (v := .bool _) rfl rfl rfl fun w' hw => ⟨rfl, hw.1⟩

theorem take_snoc {α : Type} (l : List α) (k : Nat) (v : α) (h : l[k]? = some v) : l.take (k + 1) = l.take k ++ [v] := by
  rw [List.take_add_one, h]; rfl
attribute [local irreducible] within allIn

theorem all_w (A : Option Addr) (n c : Nat) (xs : List Int) (most : Int) (w : World) (hx : IntsAt w A n xs) :
    Calls Try.prog 75 #[.slice A n c, .int .i64 most] w fun e w' => e = .returned (.bool (allIn xs most)) ∧ Bel w w' := by
  have hl := hx.1
  have hn := hx.2.1
  refine H_enter Try.func75 rfl Try.ntmps75 rfl ?_
  refine H_seq ?_
  refine R0 ?_
  refine xV (e_as (v := .bool _) (q0 rfl)) rfl rfl ?_
  refine XN ?_
  refine thenJ_normal ?_
  refine H_seq ?_
  refine H_seq ?_
  refine R0 ?_
  refine xV (e_mv (v := .slice _ _ _) (q0 rfl)) rfl rfl ?_
  refine xV (e_len Try.underlying22 (q0 rfl)) rfl rfl ?_
  refine xV (e_mv (v := .int _ _) (q0 rfl)) rfl rfl ?_
  refine XN ?_
  refine thenJ_normal ?_
  refine H_block ?_
  refine H_loop [4, 6, 9, 10, 11, 12, 13, 14, 15, 16, 17] (fun k : Nat => [(9, .int .i64 k)]) (fun _ => _) (fun k => k ≤ n ∧ (xs.take k).all (fun m => within m 1 most) = true) (fun k => n - k) 0 ⟨rfl, trivial⟩ (fun _ h => h) rfl ⟨Nat.zero_le _, rfl⟩ ?_
  rintro k g ⟨hk, hall⟩
  refine H_seq ?_
  refine R0 ?_
  refine xV (e_lt (q0 rfl) (q0 rfl)) rfl rfl ?_
  refine XN ?_
  refine thenJ_normal ?_
  refine H_seq ?_
  refine H_cond rfl (fun hlt => ?_) (fun hlt => ?_)
  · simp at hlt
    obtain ⟨b, off, x, rfl, hbl, hxk, hrx⟩ := hx.at_ hlt
    refine H_skip ?_
    refine thenJ_normal ?_
    refine H_seq ?_
    refine H_block ?_
    refine H_seq ?_
    refine R0 ?_
    refine xV (e_idx _ Try.underlying22 Try.sizeOf3 (q0 rfl) (q0 rfl) (fun _ => ⟨rfl, by omega⟩)) rfl rfl ?_
    refine xV (e_ld Try.isAgg3 (q0 rfl) (by first | exact bx 0 rfl rfl | exact bx 1 rfl rfl | exact bx 2 rfl rfl | exact bx 3 rfl rfl | exact bx 4 rfl rfl | exact bx 5 rfl rfl | exact bx 6 rfl rfl | exact bx 7 rfl rfl | exact bx 8 rfl rfl | exact bx 9 rfl rfl | exact rc ‹_› ‹_› rfl | exact rc0 ‹_› ‹_› rfl | exact xc ‹_› ‹_› | exact rr 0 rfl ‹_› rfl | exact rr0 0 rfl ‹_› rfl | exact rr 1 rfl ‹_› rfl | exact rr0 1 rfl ‹_› rfl | exact rr 2 rfl ‹_› rfl | exact rr0 2 rfl ‹_› rfl | exact rr 3 rfl ‹_› rfl | exact rr0 3 rfl ‹_› rfl | exact rr 4 rfl ‹_› rfl | exact rr0 4 rfl ‹_› rfl | exact rr 5 rfl ‹_› rfl | exact rr0 5 rfl ‹_› rfl | exact rr 6 rfl ‹_› rfl | exact rr0 6 rfl ‹_› rfl | exact rr 7 rfl ‹_› rfl | exact rr0 7 rfl ‹_› rfl)) rfl rfl ?_
    refine xV (e_as (v := .int _ _) (q0 rfl)) rfl rfl ?_
    refine XN ?_
    refine thenJ_normal ?_
    refine H_seq ?_
    refine R0 ?_
    refine xV (e_mv (v := .int _ _) (q0 rfl)) rfl rfl ?_
    refine xV (e_mv (v := .int _ _) (q0 rfl)) rfl rfl ?_
    refine xC (en Try.call65 (ha3 (q0 rfl) (q0 rfl) (q0 rfl))) (fun _ w _ => within_w x 1 most w) rfl rfl ?_
    refine xV (e_not (q0 rfl)) rfl rfl ?_
    refine XN ?_
    refine thenJ_normal ?_
    refine H_cond rfl (fun hb => ?_) (fun hb => ?_)
    · refine H_seq ?_
      refine R0 ?_
      refine xV (e_as (v := .bool _) (q0 rfl)) rfl rfl ?_
      refine XN ?_
      refine thenJ_normal ?_
      refine H_ret ?_
      refine blockJ_ret ?_
      refine thenJ_ret ?_
      refine loopJ_ret ?_
      refine blockJ_ret ?_
      refine thenJ_ret ?_
      exact ret1 (v := .bool _) rfl rfl rfl fun w' hw => ⟨ret_bool (by
        unfold allIn
        rw [eq_comm, List.all_eq_false]
        exact ⟨x, List.mem_of_getElem? hxk, by simpa using hb⟩), hw.1⟩
    · refine H_skip ?_
      refine blockJ_normal ?_
      refine thenJ_normal ?_
      refine R0 ?_
      refine xV (e_add (q0 rfl) (q0 rfl) (fun _ => ⟨rfl, by omega, by omega⟩)) rfl rfl ?_
      refine xV (e_mv (v := .int _ _) (q0 rfl)) rfl rfl ?_
      refine XN ?_
      exact loopJ_normal (k + 1) (by repeat (first | exact agree_self | exact agree_over | refine agree_upd rfl ?_ | refine agree_updL rfl ?_ | refine agree_over2 rfl ?_)) ⟨rfl, trivial⟩ (fun _ h => h) rfl ⟨by omega, by rw [take_snoc _ _ _ hxk, List.all_append, hall]; simpa using hb⟩ (by show n - (k + 1) < n - k; omega)
  · obtain rfl : k = n := by simp at hlt; omega
    refine H_exit ?_
    refine thenJ_exit ?_
    refine loopJ_exit ?_
    refine blockJ_hit ?_
    refine thenJ_normal ?_
    refine H_seq ?_
    refine R0 ?_
    refine xV (e_as (v := .bool _) (q0 rfl)) rfl rfl ?_
    refine XN ?_
    refine thenJ_normal ?_
    refine H_ret ?_
    exact ret1 (v := .bool _) rfl rfl rfl fun w' hw => ⟨ret_bool (by unfold allIn; rw [← hall, List.take_of_length_le (by omega)]), hw.1⟩
theorem rall_w (A : Option Addr) (n c : Nat) (xs : List Int) (most : Int) (w : World) (hx : IntsAt w A n xs) :
    Calls Try.prog 72 #[.slice A n c, .int .i64 most] w fun e w' => e = .returned (.bool (allIn xs most)) ∧ Bel w w' := by
  have hl := hx.1
  have hn := hx.2.1
  refine H_enter Try.func72 rfl Try.ntmps72 rfl ?_
  refine H_seq ?_
  refine R0 ?_
  refine xV (e_as (v := .bool _) (q0 rfl)) rfl rfl ?_
  refine XN ?_
  refine thenJ_normal ?_
  refine H_seq ?_
  refine H_seq ?_
  refine R0 ?_
  refine xV (e_as (v := .int _ _) (q0 rfl)) rfl rfl ?_
  refine XN ?_
  refine thenJ_normal ?_
  refine H_block ?_
  refine H_loop [4, 5, 6, 7, 8, 9, 10, 11, 12, 13, 14, 15, 16, 17, 18] (fun k : Nat => [(5, .int .i64 k)]) (fun _ => _) (fun k => k ≤ n ∧ (xs.take k).all (fun m => within m 1 most) = true) (fun k => n - k) 0 ⟨rfl, trivial⟩ (fun _ h => h) rfl ⟨Nat.zero_le _, rfl⟩ ?_
  rintro k g ⟨hk, hall⟩
  refine H_seq ?_
  refine H_seq ?_
  refine R0 ?_
  refine xV (e_mv (v := .int _ _) (q0 rfl)) rfl rfl ?_
  refine xV (e_mv (v := .slice _ _ _) (q0 rfl)) rfl rfl ?_
  refine xV (e_len Try.underlying22 (q0 rfl)) rfl rfl ?_
  refine xV (e_lt (q0 rfl) (q0 rfl)) rfl rfl ?_
  refine XN ?_
  refine thenJ_normal ?_
  refine H_cond rfl (fun hlt => ?_) (fun hlt => ?_)
  · simp at hlt
    obtain ⟨b, off, x, rfl, hbl, hxk, hrx⟩ := hx.at_ hlt
    refine H_skip ?_
    refine thenJ_normal ?_
    refine H_seq ?_
    refine H_block ?_
    refine H_seq ?_
    refine R0 ?_
    refine xV (e_mv (v := .slice _ _ _) (q0 rfl)) rfl rfl ?_
    refine xV (e_mv (v := .int _ _) (q0 rfl)) rfl rfl ?_
    refine xV (e_idx _ Try.underlying22 Try.sizeOf3 (q0 rfl) (q0 rfl) (fun _ => ⟨rfl, by omega⟩)) rfl rfl ?_
    refine xV (e_ld Try.isAgg3 (q0 rfl) (by first | exact bx 0 rfl rfl | exact bx 1 rfl rfl | exact bx 2 rfl rfl | exact bx 3 rfl rfl | exact bx 4 rfl rfl | exact bx 5 rfl rfl | exact bx 6 rfl rfl | exact bx 7 rfl rfl | exact bx 8 rfl rfl | exact bx 9 rfl rfl | exact rc ‹_› ‹_› rfl | exact rc0 ‹_› ‹_› rfl | exact xc ‹_› ‹_› | exact rr 0 rfl ‹_› rfl | exact rr0 0 rfl ‹_› rfl | exact rr 1 rfl ‹_› rfl | exact rr0 1 rfl ‹_› rfl | exact rr 2 rfl ‹_› rfl | exact rr0 2 rfl ‹_› rfl | exact rr 3 rfl ‹_› rfl | exact rr0 3 rfl ‹_› rfl | exact rr 4 rfl ‹_› rfl | exact rr0 4 rfl ‹_› rfl | exact rr 5 rfl ‹_› rfl | exact rr0 5 rfl ‹_› rfl | exact rr 6 rfl ‹_› rfl | exact rr0 6 rfl ‹_› rfl | exact rr 7 rfl ‹_› rfl | exact rr0 7 rfl ‹_› rfl)) rfl rfl ?_
    refine xV (e_mv (v := .int _ _) (q0 rfl)) rfl rfl ?_
    refine xC (en Try.call71 (ha3 (q0 rfl) (q0 rfl) (q0 rfl))) (fun _ w _ => between_w x 1 most w) rfl rfl ?_
    refine xV (e_not (q0 rfl)) rfl rfl ?_
    refine XN ?_
    refine thenJ_normal ?_
    refine H_cond rfl (fun hb => ?_) (fun hb => ?_)
    · refine H_seq ?_
      refine R0 ?_
      refine xV (e_as (v := .bool _) (q0 rfl)) rfl rfl ?_
      refine XN ?_
      refine thenJ_normal ?_
      refine H_ret ?_
      refine blockJ_ret ?_
      refine thenJ_ret ?_
      refine loopJ_ret ?_
      refine blockJ_ret ?_
      refine thenJ_ret ?_
      exact ret1 (v := .bool _) rfl rfl rfl fun w' hw => ⟨ret_bool (by
        unfold allIn
        rw [eq_comm, List.all_eq_false]
        exact ⟨x, List.mem_of_getElem? hxk, by simpa using hb⟩), hw.1⟩
    · refine H_skip ?_
      refine blockJ_normal ?_
      refine thenJ_normal ?_
      refine R0 ?_
      refine xV (e_mv (v := .int _ _) (q0 rfl)) rfl rfl ?_
      refine xV (e_add (q0 rfl) (q0 rfl) (fun _ => ⟨rfl, by omega, by omega⟩)) rfl rfl ?_
      refine xV (e_as (v := .int _ _) (q0 rfl)) rfl rfl ?_
      refine XN ?_
      exact loopJ_normal (k + 1) (by repeat (first | exact agree_self | exact agree_over | refine agree_upd rfl ?_ | refine agree_updL rfl ?_ | refine agree_over2 rfl ?_)) ⟨rfl, trivial⟩ (fun _ h => h) rfl ⟨by omega, by rw [take_snoc _ _ _ hxk, List.all_append, hall]; simpa using hb⟩ (by show n - (k + 1) < n - k; omega)
  · obtain rfl : k = n := by simp at hlt; omega
    refine H_exit ?_
    refine thenJ_exit ?_
    refine loopJ_exit ?_
    refine blockJ_hit ?_
    refine thenJ_normal ?_
    refine H_seq ?_
    refine R0 ?_
    refine xV (e_as (v := .bool _) (q0 rfl)) rfl rfl ?_
    refine XN ?_
    refine thenJ_normal ?_
    refine H_ret ?_
    exact ret1 (v := .bool _) rfl rfl rfl fun w' hw => ⟨ret_bool (by unfold allIn; rw [← hall, List.take_of_length_le (by omega)]), hw.1⟩
theorem fleet_w (f : Fl) (a : FA) (w : World) (hx : FlAt w f a) : Calls Try.prog 42 #[.agg (f.cells a).toArray] w fun e w' => e = .returned (.int .i64 (flErr f)) ∧ Bel w w' := by
  have hl := hx.docks.1
  have hl2 := hx.trucks.1
  refine H_enter Try.func42 rfl Try.ntmps42 rfl ?_
  refine H_seq ?_
  refine R0 ?_
  refine X_box (v := .agg _) rfl rfl fun b1 => ?_
  refine xV (e_as (v := .int _ _) (q0 rfl)) rfl rfl ?_
  refine XN ?_
  refine thenJ_normal ?_
  refine H_seq ?_
  refine H_seq ?_
  refine R0 ?_
  refine xV (e_fld Try.underlying24 rfl Try.sizeOf3 rfl (q0 rfl)) rfl rfl ?_
  refine xV (e_ld Try.isAgg3 (q0 rfl) (by first | exact bx 0 rfl rfl | exact bx 1 rfl rfl | exact bx 2 rfl rfl | exact bx 3 rfl rfl | exact bx 4 rfl rfl | exact bx 5 rfl rfl | exact bx 6 rfl rfl | exact bx 7 rfl rfl | exact bx 8 rfl rfl | exact bx 9 rfl rfl | exact rc ‹_› ‹_› rfl | exact rc0 ‹_› ‹_› rfl | exact xc ‹_› ‹_› | exact rr 0 rfl ‹_› rfl | exact rr0 0 rfl ‹_› rfl | exact rr 1 rfl ‹_› rfl | exact rr0 1 rfl ‹_› rfl | exact rr 2 rfl ‹_› rfl | exact rr0 2 rfl ‹_› rfl | exact rr 3 rfl ‹_› rfl | exact rr0 3 rfl ‹_› rfl | exact rr 4 rfl ‹_› rfl | exact rr0 4 rfl ‹_› rfl | exact rr 5 rfl ‹_› rfl | exact rr0 5 rfl ‹_› rfl | exact rr 6 rfl ‹_› rfl | exact rr0 6 rfl ‹_› rfl | exact rr 7 rfl ‹_› rfl | exact rr0 7 rfl ‹_› rfl)) rfl rfl ?_
  refine xC (en Try.call65 (ha3 (q0 rfl) (q0 rfl) (q0 rfl))) (fun _ w _ => within_w f.bikes 1 128 w) rfl rfl ?_
  refine xV (e_not (q0 rfl)) rfl rfl ?_
  refine xV (e_mv (v := .bool _) (q0 rfl)) rfl rfl ?_
  refine xVF (e_fld Try.underlying24 rfl Try.sizeOf3 rfl (q0 rfl)) rfl rfl rfl rfl ?_
  refine xVF (e_ld Try.isAgg3 (q1 rfl) (by first | exact bx 0 rfl rfl | exact bx 1 rfl rfl | exact bx 2 rfl rfl | exact bx 3 rfl rfl | exact bx 4 rfl rfl | exact bx 5 rfl rfl | exact bx 6 rfl rfl | exact bx 7 rfl rfl | exact bx 8 rfl rfl | exact bx 9 rfl rfl | exact rc ‹_› ‹_› rfl | exact rc0 ‹_› ‹_› rfl | exact xc ‹_› ‹_› | exact rr 0 rfl ‹_› rfl | exact rr0 0 rfl ‹_› rfl | exact rr 1 rfl ‹_› rfl | exact rr0 1 rfl ‹_› rfl | exact rr 2 rfl ‹_› rfl | exact rr0 2 rfl ‹_› rfl | exact rr 3 rfl ‹_› rfl | exact rr0 3 rfl ‹_› rfl | exact rr 4 rfl ‹_› rfl | exact rr0 4 rfl ‹_› rfl | exact rr 5 rfl ‹_› rfl | exact rr0 5 rfl ‹_› rfl | exact rr 6 rfl ‹_› rfl | exact rr0 6 rfl ‹_› rfl | exact rr 7 rfl ‹_› rfl | exact rr0 7 rfl ‹_› rfl)) rfl rfl rfl rfl ?_
  refine xCF (en Try.call65 (ha3 (q1 (v := .int _ _) rfl) (q0 rfl) (q0 rfl))) (fun _ w _ => within_w f.riders 1 128 w) rfl rfl rfl rfl ?_
  refine xVF (e_not (q1 rfl)) rfl rfl rfl rfl ?_
  refine xV (e_or (q0 rfl) rfl (fun h => by first | rfl | (rw [h]; rfl))) rfl rfl ?_
  refine xV (e_mv (v := .bool _) (q0 rfl)) rfl rfl ?_
  refine xVF (e_fld Try.underlying24 rfl Try.sizeOf3 rfl (q0 rfl)) rfl rfl rfl rfl ?_
  refine xVF (e_ld Try.isAgg3 (q1 rfl) (by first | exact bx 0 rfl rfl | exact bx 1 rfl rfl | exact bx 2 rfl rfl | exact bx 3 rfl rfl | exact bx 4 rfl rfl | exact bx 5 rfl rfl | exact bx 6 rfl rfl | exact bx 7 rfl rfl | exact bx 8 rfl rfl | exact bx 9 rfl rfl | exact rc ‹_› ‹_› rfl | exact rc0 ‹_› ‹_› rfl | exact xc ‹_› ‹_› | exact rr 0 rfl ‹_› rfl | exact rr0 0 rfl ‹_› rfl | exact rr 1 rfl ‹_› rfl | exact rr0 1 rfl ‹_› rfl | exact rr 2 rfl ‹_› rfl | exact rr0 2 rfl ‹_› rfl | exact rr 3 rfl ‹_› rfl | exact rr0 3 rfl ‹_› rfl | exact rr 4 rfl ‹_› rfl | exact rr0 4 rfl ‹_› rfl | exact rr 5 rfl ‹_› rfl | exact rr0 5 rfl ‹_› rfl | exact rr 6 rfl ‹_› rfl | exact rr0 6 rfl ‹_› rfl | exact rr 7 rfl ‹_› rfl | exact rr0 7 rfl ‹_› rfl)) rfl rfl rfl rfl ?_
  refine xCF (en Try.call65 (ha3 (q1 (v := .int _ _) rfl) (q0 rfl) (q0 rfl))) (fun _ w _ => within_w f.devices 1 256 w) rfl rfl rfl rfl ?_
  refine xVF (e_not (q1 rfl)) rfl rfl rfl rfl ?_
  refine xV (e_or (q0 rfl) rfl (fun h => by first | rfl | (rw [h]; rfl))) rfl rfl ?_
  refine XN ?_
  refine thenJ_normal ?_
  refine H_cond rfl (fun h1 => ?_) (fun h1 => ?_)
  · refine H_seq ?_
    refine R0 ?_
    refine xV (e_as (v := .int _ _) (q0 rfl)) rfl rfl ?_
    refine XN ?_
    refine thenJ_normal ?_
    refine H_ret ?_
    refine thenJ_ret ?_
    exact ret1 (v := .int _ _) rfl rfl rfl fun w' hw => ⟨ret_int (by unfold flErr; rw [if_pos h1]), hw.1⟩
  · refine H_skip ?_
    refine thenJ_normal ?_
    refine H_seq ?_
    refine H_seq ?_
    refine R0 ?_
    refine xV (e_fld Try.underlying24 rfl Try.sizeOf22 rfl (q0 rfl)) rfl rfl ?_
    refine xV (e_ld Try.isAgg22 (q0 rfl) (by first | exact bx 0 rfl rfl | exact bx 1 rfl rfl | exact bx 2 rfl rfl | exact bx 3 rfl rfl | exact bx 4 rfl rfl | exact bx 5 rfl rfl | exact bx 6 rfl rfl | exact bx 7 rfl rfl | exact bx 8 rfl rfl | exact bx 9 rfl rfl | exact rc ‹_› ‹_› rfl | exact rc0 ‹_› ‹_› rfl | exact xc ‹_› ‹_› | exact rr 0 rfl ‹_› rfl | exact rr0 0 rfl ‹_› rfl | exact rr 1 rfl ‹_› rfl | exact rr0 1 rfl ‹_› rfl | exact rr 2 rfl ‹_› rfl | exact rr0 2 rfl ‹_› rfl | exact rr 3 rfl ‹_› rfl | exact rr0 3 rfl ‹_› rfl | exact rr 4 rfl ‹_› rfl | exact rr0 4 rfl ‹_› rfl | exact rr 5 rfl ‹_› rfl | exact rr0 5 rfl ‹_› rfl | exact rr 6 rfl ‹_› rfl | exact rr0 6 rfl ‹_› rfl | exact rr 7 rfl ‹_› rfl | exact rr0 7 rfl ‹_› rfl)) rfl rfl ?_
    refine xV (e_len Try.underlying22 (q0 rfl)) rfl rfl ?_
    refine xV (e_gt (q0 rfl) (q0 rfl)) rfl rfl ?_
    refine xV (e_mv (v := .bool _) (q0 rfl)) rfl rfl ?_
    refine xVF (e_fld Try.underlying24 rfl Try.sizeOf22 rfl (q0 rfl)) rfl rfl rfl rfl ?_
    refine xVF (e_ld Try.isAgg22 (q1 rfl) (by first | exact bx 0 rfl rfl | exact bx 1 rfl rfl | exact bx 2 rfl rfl | exact bx 3 rfl rfl | exact bx 4 rfl rfl | exact bx 5 rfl rfl | exact bx 6 rfl rfl | exact bx 7 rfl rfl | exact bx 8 rfl rfl | exact bx 9 rfl rfl | exact rc ‹_› ‹_› rfl | exact rc0 ‹_› ‹_› rfl | exact xc ‹_› ‹_› | exact rr 0 rfl ‹_› rfl | exact rr0 0 rfl ‹_› rfl | exact rr 1 rfl ‹_› rfl | exact rr0 1 rfl ‹_› rfl | exact rr 2 rfl ‹_› rfl | exact rr0 2 rfl ‹_› rfl | exact rr 3 rfl ‹_› rfl | exact rr0 3 rfl ‹_› rfl | exact rr 4 rfl ‹_› rfl | exact rr0 4 rfl ‹_› rfl | exact rr 5 rfl ‹_› rfl | exact rr0 5 rfl ‹_› rfl | exact rr 6 rfl ‹_› rfl | exact rr0 6 rfl ‹_› rfl | exact rr 7 rfl ‹_› rfl | exact rr0 7 rfl ‹_› rfl)) rfl rfl rfl rfl ?_
    refine xVF (e_len Try.underlying22 (q1 rfl)) rfl rfl rfl rfl ?_
    refine xVF (e_gt (q1 rfl) (q0 rfl)) rfl rfl rfl rfl ?_
    refine xV (e_or (q0 rfl) rfl (fun h => by first | rfl | (rw [h]; rfl))) rfl rfl ?_
    refine XN ?_
    refine thenJ_normal ?_
    refine H_cond rfl (fun h2 => ?_) (fun h2 => ?_)
    · refine H_seq ?_
      refine R0 ?_
      refine xV (e_as (v := .int _ _) (q0 rfl)) rfl rfl ?_
      refine XN ?_
      refine thenJ_normal ?_
      refine H_ret ?_
      refine thenJ_ret ?_
      exact ret1 (v := .int _ _) rfl rfl rfl fun w' hw => ⟨ret_int (by unfold flErr; rw [if_neg (by rw [h1]; decide), if_pos (by simp at h2; omega)]), hw.1⟩
    · refine H_skip ?_
      refine thenJ_normal ?_
      refine H_seq ?_
      refine H_seq ?_
      refine R0 ?_
      refine xV (e_fld Try.underlying24 rfl Try.sizeOf22 rfl (q0 rfl)) rfl rfl ?_
      refine xV (e_ld Try.isAgg22 (q0 rfl) (by first | exact bx 0 rfl rfl | exact bx 1 rfl rfl | exact bx 2 rfl rfl | exact bx 3 rfl rfl | exact bx 4 rfl rfl | exact bx 5 rfl rfl | exact bx 6 rfl rfl | exact bx 7 rfl rfl | exact bx 8 rfl rfl | exact bx 9 rfl rfl | exact rc ‹_› ‹_› rfl | exact rc0 ‹_› ‹_› rfl | exact xc ‹_› ‹_› | exact rr 0 rfl ‹_› rfl | exact rr0 0 rfl ‹_› rfl | exact rr 1 rfl ‹_› rfl | exact rr0 1 rfl ‹_› rfl | exact rr 2 rfl ‹_› rfl | exact rr0 2 rfl ‹_› rfl | exact rr 3 rfl ‹_› rfl | exact rr0 3 rfl ‹_› rfl | exact rr 4 rfl ‹_› rfl | exact rr0 4 rfl ‹_› rfl | exact rr 5 rfl ‹_› rfl | exact rr0 5 rfl ‹_› rfl | exact rr 6 rfl ‹_› rfl | exact rr0 6 rfl ‹_› rfl | exact rr 7 rfl ‹_› rfl | exact rr0 7 rfl ‹_› rfl)) rfl rfl ?_
      refine xC (en Try.call75 (ha2 (q0 rfl) (q0 rfl))) (fun _ w hm => all_w a.dA a.dn a.dc f.docks 32 w (hx.docks.mem hm)) rfl rfl ?_
      refine xV (e_not (q0 rfl)) rfl rfl ?_
      refine xV (e_mv (v := .bool _) (q0 rfl)) rfl rfl ?_
      refine xVF (e_fld Try.underlying24 rfl Try.sizeOf22 rfl (q0 rfl)) rfl rfl rfl rfl ?_
      refine xVF (e_ld Try.isAgg22 (q1 rfl) (by first | exact bx 0 rfl rfl | exact bx 1 rfl rfl | exact bx 2 rfl rfl | exact bx 3 rfl rfl | exact bx 4 rfl rfl | exact bx 5 rfl rfl | exact bx 6 rfl rfl | exact bx 7 rfl rfl | exact bx 8 rfl rfl | exact bx 9 rfl rfl | exact rc ‹_› ‹_› rfl | exact rc0 ‹_› ‹_› rfl | exact xc ‹_› ‹_› | exact rr 0 rfl ‹_› rfl | exact rr0 0 rfl ‹_› rfl | exact rr 1 rfl ‹_› rfl | exact rr0 1 rfl ‹_› rfl | exact rr 2 rfl ‹_› rfl | exact rr0 2 rfl ‹_› rfl | exact rr 3 rfl ‹_› rfl | exact rr0 3 rfl ‹_› rfl | exact rr 4 rfl ‹_› rfl | exact rr0 4 rfl ‹_› rfl | exact rr 5 rfl ‹_› rfl | exact rr0 5 rfl ‹_› rfl | exact rr 6 rfl ‹_› rfl | exact rr0 6 rfl ‹_› rfl | exact rr 7 rfl ‹_› rfl | exact rr0 7 rfl ‹_› rfl)) rfl rfl rfl rfl ?_
      refine xCF (en Try.call75 (ha2 (q1 (v := .slice _ _ _) rfl) (q0 rfl))) (fun _ w hm => all_w a.tA a.tn a.tc f.trucks 32 w (hx.trucks.mem hm)) rfl rfl rfl rfl ?_
      refine xVF (e_not (q1 rfl)) rfl rfl rfl rfl ?_
      refine xV (e_or (q0 rfl) rfl (fun h => by first | rfl | (rw [h]; rfl))) rfl rfl ?_
      refine XN ?_
      refine thenJ_normal ?_
      refine H_cond rfl (fun h3 => ?_) (fun h3 => ?_)
      · refine H_seq ?_
        refine R0 ?_
        refine xV (e_as (v := .int _ _) (q0 rfl)) rfl rfl ?_
        refine XN ?_
        refine thenJ_normal ?_
        refine H_ret ?_
        refine thenJ_ret ?_
        exact ret1 (v := .int _ _) rfl rfl rfl fun w' hw => ⟨ret_int (by unfold flErr; rw [if_neg (by rw [h1]; decide), if_neg (by simp at h2; omega), if_pos h3]), hw.1⟩
      · refine H_skip ?_
        refine thenJ_normal ?_
        refine H_seq ?_
        refine R0 ?_
        refine xV (e_as (v := .int _ _) (q0 rfl)) rfl rfl ?_
        refine XN ?_
        refine thenJ_normal ?_
        refine H_ret ?_
        exact ret1 (v := .int _ _) rfl rfl rfl fun w' hw => ⟨ret_int (by unfold flErr; rw [if_neg (by rw [h1]; decide), if_neg (by simp at h2; omega), if_neg (by rw [h3]; decide)]), hw.1⟩
theorem rfleet_w (f : Fl) (a : FA) (w : World) (hx : FlAt w f a) : Calls Try.prog 39 #[.agg (f.cells a).toArray] w fun e w' => e = .returned (.int .i64 (flErr f)) ∧ Bel w w' := by
  have hl := hx.docks.1
  have hl2 := hx.trucks.1
  refine H_enter Try.func39 rfl Try.ntmps39 rfl ?_
  refine H_seq ?_
  refine R0 ?_
  refine X_box (v := .agg _) rfl rfl fun b1 => ?_
  refine xV (e_as (v := .int _ _) (q0 rfl)) rfl rfl ?_
  refine XN ?_
  refine thenJ_normal ?_
  refine H_seq ?_
  refine H_seq ?_
  refine R0 ?_
  refine xV (e_fld Try.underlying24 rfl Try.sizeOf3 rfl (q0 rfl)) rfl rfl ?_
  refine xV (e_ld Try.isAgg3 (q0 rfl) (by first | exact bx 0 rfl rfl | exact bx 1 rfl rfl | exact bx 2 rfl rfl | exact bx 3 rfl rfl | exact bx 4 rfl rfl | exact bx 5 rfl rfl | exact bx 6 rfl rfl | exact bx 7 rfl rfl | exact bx 8 rfl rfl | exact bx 9 rfl rfl | exact rc ‹_› ‹_› rfl | exact rc0 ‹_› ‹_› rfl | exact xc ‹_› ‹_› | exact rr 0 rfl ‹_› rfl | exact rr0 0 rfl ‹_› rfl | exact rr 1 rfl ‹_› rfl | exact rr0 1 rfl ‹_› rfl | exact rr 2 rfl ‹_› rfl | exact rr0 2 rfl ‹_› rfl | exact rr 3 rfl ‹_› rfl | exact rr0 3 rfl ‹_› rfl | exact rr 4 rfl ‹_› rfl | exact rr0 4 rfl ‹_› rfl | exact rr 5 rfl ‹_› rfl | exact rr0 5 rfl ‹_› rfl | exact rr 6 rfl ‹_› rfl | exact rr0 6 rfl ‹_› rfl | exact rr 7 rfl ‹_› rfl | exact rr0 7 rfl ‹_› rfl)) rfl rfl ?_
  refine xC (en Try.call71 (ha3 (q0 rfl) (q0 rfl) (q0 rfl))) (fun _ w _ => between_w f.bikes 1 128 w) rfl rfl ?_
  refine xV (e_not (q0 rfl)) rfl rfl ?_
  refine xV (e_mv (v := .bool _) (q0 rfl)) rfl rfl ?_
  refine xVF (e_fld Try.underlying24 rfl Try.sizeOf3 rfl (q0 rfl)) rfl rfl rfl rfl ?_
  refine xVF (e_ld Try.isAgg3 (q1 rfl) (by first | exact bx 0 rfl rfl | exact bx 1 rfl rfl | exact bx 2 rfl rfl | exact bx 3 rfl rfl | exact bx 4 rfl rfl | exact bx 5 rfl rfl | exact bx 6 rfl rfl | exact bx 7 rfl rfl | exact bx 8 rfl rfl | exact bx 9 rfl rfl | exact rc ‹_› ‹_› rfl | exact rc0 ‹_› ‹_› rfl | exact xc ‹_› ‹_› | exact rr 0 rfl ‹_› rfl | exact rr0 0 rfl ‹_› rfl | exact rr 1 rfl ‹_› rfl | exact rr0 1 rfl ‹_› rfl | exact rr 2 rfl ‹_› rfl | exact rr0 2 rfl ‹_› rfl | exact rr 3 rfl ‹_› rfl | exact rr0 3 rfl ‹_› rfl | exact rr 4 rfl ‹_› rfl | exact rr0 4 rfl ‹_› rfl | exact rr 5 rfl ‹_› rfl | exact rr0 5 rfl ‹_› rfl | exact rr 6 rfl ‹_› rfl | exact rr0 6 rfl ‹_› rfl | exact rr 7 rfl ‹_› rfl | exact rr0 7 rfl ‹_› rfl)) rfl rfl rfl rfl ?_
  refine xCF (en Try.call71 (ha3 (q1 (v := .int _ _) rfl) (q0 rfl) (q0 rfl))) (fun _ w _ => between_w f.riders 1 128 w) rfl rfl rfl rfl ?_
  refine xVF (e_not (q1 rfl)) rfl rfl rfl rfl ?_
  refine xV (e_or (q0 rfl) rfl (fun h => by first | rfl | (rw [h]; rfl))) rfl rfl ?_
  refine xV (e_mv (v := .bool _) (q0 rfl)) rfl rfl ?_
  refine xVF (e_fld Try.underlying24 rfl Try.sizeOf3 rfl (q0 rfl)) rfl rfl rfl rfl ?_
  refine xVF (e_ld Try.isAgg3 (q1 rfl) (by first | exact bx 0 rfl rfl | exact bx 1 rfl rfl | exact bx 2 rfl rfl | exact bx 3 rfl rfl | exact bx 4 rfl rfl | exact bx 5 rfl rfl | exact bx 6 rfl rfl | exact bx 7 rfl rfl | exact bx 8 rfl rfl | exact bx 9 rfl rfl | exact rc ‹_› ‹_› rfl | exact rc0 ‹_› ‹_› rfl | exact xc ‹_› ‹_› | exact rr 0 rfl ‹_› rfl | exact rr0 0 rfl ‹_› rfl | exact rr 1 rfl ‹_› rfl | exact rr0 1 rfl ‹_› rfl | exact rr 2 rfl ‹_› rfl | exact rr0 2 rfl ‹_› rfl | exact rr 3 rfl ‹_› rfl | exact rr0 3 rfl ‹_› rfl | exact rr 4 rfl ‹_› rfl | exact rr0 4 rfl ‹_› rfl | exact rr 5 rfl ‹_› rfl | exact rr0 5 rfl ‹_› rfl | exact rr 6 rfl ‹_› rfl | exact rr0 6 rfl ‹_› rfl | exact rr 7 rfl ‹_› rfl | exact rr0 7 rfl ‹_› rfl)) rfl rfl rfl rfl ?_
  refine xCF (en Try.call71 (ha3 (q1 (v := .int _ _) rfl) (q0 rfl) (q0 rfl))) (fun _ w _ => between_w f.devices 1 256 w) rfl rfl rfl rfl ?_
  refine xVF (e_not (q1 rfl)) rfl rfl rfl rfl ?_
  refine xV (e_or (q0 rfl) rfl (fun h => by first | rfl | (rw [h]; rfl))) rfl rfl ?_
  refine XN ?_
  refine thenJ_normal ?_
  refine H_cond rfl (fun h1 => ?_) (fun h1 => ?_)
  · refine H_seq ?_
    refine R0 ?_
    refine xV (e_as (v := .int _ _) (q0 rfl)) rfl rfl ?_
    refine XN ?_
    refine thenJ_normal ?_
    refine H_ret ?_
    refine thenJ_ret ?_
    exact ret1 (v := .int _ _) rfl rfl rfl fun w' hw => ⟨ret_int (by unfold flErr; rw [if_pos h1]), hw.1⟩
  · refine H_skip ?_
    refine thenJ_normal ?_
    refine H_seq ?_
    refine H_seq ?_
    refine R0 ?_
    refine xV (e_fld Try.underlying24 rfl Try.sizeOf22 rfl (q0 rfl)) rfl rfl ?_
    refine xV (e_ld Try.isAgg22 (q0 rfl) (by first | exact bx 0 rfl rfl | exact bx 1 rfl rfl | exact bx 2 rfl rfl | exact bx 3 rfl rfl | exact bx 4 rfl rfl | exact bx 5 rfl rfl | exact bx 6 rfl rfl | exact bx 7 rfl rfl | exact bx 8 rfl rfl | exact bx 9 rfl rfl | exact rc ‹_› ‹_› rfl | exact rc0 ‹_› ‹_› rfl | exact xc ‹_› ‹_› | exact rr 0 rfl ‹_› rfl | exact rr0 0 rfl ‹_› rfl | exact rr 1 rfl ‹_› rfl | exact rr0 1 rfl ‹_› rfl | exact rr 2 rfl ‹_› rfl | exact rr0 2 rfl ‹_› rfl | exact rr 3 rfl ‹_› rfl | exact rr0 3 rfl ‹_› rfl | exact rr 4 rfl ‹_› rfl | exact rr0 4 rfl ‹_› rfl | exact rr 5 rfl ‹_› rfl | exact rr0 5 rfl ‹_› rfl | exact rr 6 rfl ‹_› rfl | exact rr0 6 rfl ‹_› rfl | exact rr 7 rfl ‹_› rfl | exact rr0 7 rfl ‹_› rfl)) rfl rfl ?_
    refine xV (e_len Try.underlying22 (q0 rfl)) rfl rfl ?_
    refine xV (e_gt (q0 rfl) (q0 rfl)) rfl rfl ?_
    refine xV (e_mv (v := .bool _) (q0 rfl)) rfl rfl ?_
    refine xVF (e_fld Try.underlying24 rfl Try.sizeOf22 rfl (q0 rfl)) rfl rfl rfl rfl ?_
    refine xVF (e_ld Try.isAgg22 (q1 rfl) (by first | exact bx 0 rfl rfl | exact bx 1 rfl rfl | exact bx 2 rfl rfl | exact bx 3 rfl rfl | exact bx 4 rfl rfl | exact bx 5 rfl rfl | exact bx 6 rfl rfl | exact bx 7 rfl rfl | exact bx 8 rfl rfl | exact bx 9 rfl rfl | exact rc ‹_› ‹_› rfl | exact rc0 ‹_› ‹_› rfl | exact xc ‹_› ‹_› | exact rr 0 rfl ‹_› rfl | exact rr0 0 rfl ‹_› rfl | exact rr 1 rfl ‹_› rfl | exact rr0 1 rfl ‹_› rfl | exact rr 2 rfl ‹_› rfl | exact rr0 2 rfl ‹_› rfl | exact rr 3 rfl ‹_› rfl | exact rr0 3 rfl ‹_› rfl | exact rr 4 rfl ‹_› rfl | exact rr0 4 rfl ‹_› rfl | exact rr 5 rfl ‹_› rfl | exact rr0 5 rfl ‹_› rfl | exact rr 6 rfl ‹_› rfl | exact rr0 6 rfl ‹_› rfl | exact rr 7 rfl ‹_› rfl | exact rr0 7 rfl ‹_› rfl)) rfl rfl rfl rfl ?_
    refine xVF (e_len Try.underlying22 (q1 rfl)) rfl rfl rfl rfl ?_
    refine xVF (e_gt (q1 rfl) (q0 rfl)) rfl rfl rfl rfl ?_
    refine xV (e_or (q0 rfl) rfl (fun h => by first | rfl | (rw [h]; rfl))) rfl rfl ?_
    refine XN ?_
    refine thenJ_normal ?_
    refine H_cond rfl (fun h2 => ?_) (fun h2 => ?_)
    · refine H_seq ?_
      refine R0 ?_
      refine xV (e_as (v := .int _ _) (q0 rfl)) rfl rfl ?_
      refine XN ?_
      refine thenJ_normal ?_
      refine H_ret ?_
      refine thenJ_ret ?_
      exact ret1 (v := .int _ _) rfl rfl rfl fun w' hw => ⟨ret_int (by unfold flErr; rw [if_neg (by rw [h1]; decide), if_pos (by simp at h2; omega)]), hw.1⟩
    · refine H_skip ?_
      refine thenJ_normal ?_
      refine H_seq ?_
      refine H_seq ?_
      refine R0 ?_
      refine xV (e_fld Try.underlying24 rfl Try.sizeOf22 rfl (q0 rfl)) rfl rfl ?_
      refine xV (e_ld Try.isAgg22 (q0 rfl) (by first | exact bx 0 rfl rfl | exact bx 1 rfl rfl | exact bx 2 rfl rfl | exact bx 3 rfl rfl | exact bx 4 rfl rfl | exact bx 5 rfl rfl | exact bx 6 rfl rfl | exact bx 7 rfl rfl | exact bx 8 rfl rfl | exact bx 9 rfl rfl | exact rc ‹_› ‹_› rfl | exact rc0 ‹_› ‹_› rfl | exact xc ‹_› ‹_› | exact rr 0 rfl ‹_› rfl | exact rr0 0 rfl ‹_› rfl | exact rr 1 rfl ‹_› rfl | exact rr0 1 rfl ‹_› rfl | exact rr 2 rfl ‹_› rfl | exact rr0 2 rfl ‹_› rfl | exact rr 3 rfl ‹_› rfl | exact rr0 3 rfl ‹_› rfl | exact rr 4 rfl ‹_› rfl | exact rr0 4 rfl ‹_› rfl | exact rr 5 rfl ‹_› rfl | exact rr0 5 rfl ‹_› rfl | exact rr 6 rfl ‹_› rfl | exact rr0 6 rfl ‹_› rfl | exact rr 7 rfl ‹_› rfl | exact rr0 7 rfl ‹_› rfl)) rfl rfl ?_
      refine xC (en Try.call72 (ha2 (q0 rfl) (q0 rfl))) (fun _ w hm => rall_w a.dA a.dn a.dc f.docks 32 w (hx.docks.mem hm)) rfl rfl ?_
      refine xV (e_not (q0 rfl)) rfl rfl ?_
      refine xV (e_mv (v := .bool _) (q0 rfl)) rfl rfl ?_
      refine xVF (e_fld Try.underlying24 rfl Try.sizeOf22 rfl (q0 rfl)) rfl rfl rfl rfl ?_
      refine xVF (e_ld Try.isAgg22 (q1 rfl) (by first | exact bx 0 rfl rfl | exact bx 1 rfl rfl | exact bx 2 rfl rfl | exact bx 3 rfl rfl | exact bx 4 rfl rfl | exact bx 5 rfl rfl | exact bx 6 rfl rfl | exact bx 7 rfl rfl | exact bx 8 rfl rfl | exact bx 9 rfl rfl | exact rc ‹_› ‹_› rfl | exact rc0 ‹_› ‹_› rfl | exact xc ‹_› ‹_› | exact rr 0 rfl ‹_› rfl | exact rr0 0 rfl ‹_› rfl | exact rr 1 rfl ‹_› rfl | exact rr0 1 rfl ‹_› rfl | exact rr 2 rfl ‹_› rfl | exact rr0 2 rfl ‹_› rfl | exact rr 3 rfl ‹_› rfl | exact rr0 3 rfl ‹_› rfl | exact rr 4 rfl ‹_› rfl | exact rr0 4 rfl ‹_› rfl | exact rr 5 rfl ‹_› rfl | exact rr0 5 rfl ‹_› rfl | exact rr 6 rfl ‹_› rfl | exact rr0 6 rfl ‹_› rfl | exact rr 7 rfl ‹_› rfl | exact rr0 7 rfl ‹_› rfl)) rfl rfl rfl rfl ?_
      refine xCF (en Try.call72 (ha2 (q1 (v := .slice _ _ _) rfl) (q0 rfl))) (fun _ w hm => rall_w a.tA a.tn a.tc f.trucks 32 w (hx.trucks.mem hm)) rfl rfl rfl rfl ?_
      refine xVF (e_not (q1 rfl)) rfl rfl rfl rfl ?_
      refine xV (e_or (q0 rfl) rfl (fun h => by first | rfl | (rw [h]; rfl))) rfl rfl ?_
      refine XN ?_
      refine thenJ_normal ?_
      refine H_cond rfl (fun h3 => ?_) (fun h3 => ?_)
      · refine H_seq ?_
        refine R0 ?_
        refine xV (e_as (v := .int _ _) (q0 rfl)) rfl rfl ?_
        refine XN ?_
        refine thenJ_normal ?_
        refine H_ret ?_
        refine thenJ_ret ?_
        exact ret1 (v := .int _ _) rfl rfl rfl fun w' hw => ⟨ret_int (by unfold flErr; rw [if_neg (by rw [h1]; decide), if_neg (by simp at h2; omega), if_pos h3]), hw.1⟩
      · refine H_skip ?_
        refine thenJ_normal ?_
        refine H_seq ?_
        refine R0 ?_
        refine xV (e_as (v := .int _ _) (q0 rfl)) rfl rfl ?_
        refine XN ?_
        refine thenJ_normal ?_
        refine H_ret ?_
        exact ret1 (v := .int _ _) rfl rfl rfl fun w' hw => ⟨ret_int (by unfold flErr; rw [if_neg (by rw [h1]; decide), if_neg (by simp at h2; omega), if_neg (by rw [h3]; decide)]), hw.1⟩

end Go.Proofs.Cus
