/-
  The walks: what is accepted, what is rejected, the spots.
-/
import Derived.Test.YtnikolfakmgbbaaCl
namespace Go.Proofs.Cus
open Go Go.RowKit Go.Proofs.E

structure Rj where
  device : Int
  seq : Int
  err : Int
deriving DecidableEq, Inhabited
def Rj.cells (x : Rj) : List Value := [.int .i64 x.device, .int .i64 x.seq, .int .i64 x.err]
abbrev rjRow (A : Option Addr) (c : Nat) (xs : List Rj) : E.Item := rowT 69 3 Rj.cells A c xs

def accCb (z : List Ev) (_ : PS) (e : Ev) (er : Int) : List Ev := if er = 0 then z ++ [e] else z
def rejCb (z : List Rj) (_ : PS) (e : Ev) (er : Int) : List Rj := if er ≠ 0 then z ++ [⟨e.device, e.seq, er⟩] else z
def nobCb (z : Unit) (_ : PS) (_ : Ev) (_ : Int) : Unit := z
def nbOf (f : Fl) : Nat := f.bikes.toNat
def accOf (f : Fl) (xs : List Ev) : List Ev := if flErr f = 0 then (runR f accCb (setOf xs) (beginP (nbOf f), [])).2 else []
def rejOf (f : Fl) (xs : List Ev) : List Rj := if flErr f = 0 then (runR f rejCb (setOf xs) (beginP (nbOf f), [])).2 else []
def spotsOf (f : Fl) (xs : List Ev) : List Sp := if flErr f = 0 then (runR f nobCb (setOf xs) (beginP (nbOf f), ())).1.spots else []
theorem nb_eq {f : Fl} (h : flErr f = 0) : f.bikes = nbOf f := by
  have := (flErr_ok h).1
  unfold nbOf; omega
abbrev PlOk (xs : List Ev) : Prop := ∀ e ∈ xs, -9223372036854775808 ≤ e.place ∧ e.place ≤ 9223372036854775807

def accCI (b : Nat) (z : List Ev) (x : Option Addr × Nat) : List E.Item := [box b 25 [.slice x.1 z.length x.2], evRow x.1 x.2 z]
theorem acc_cb (f : Fl) (a : FA) (n b : Nat) : CbOK f a n 38 [.pointer (some ⟨b, 0, none⟩)] accCb (accCI b) (fun k z => z.length ≤ k) where
  enter := Try.call38
  keep := fun k z s e er h => by
    unfold accCb
    split
    · simp; omega
    · omega
  run := fun {w0 L s t z x k} e er hmk _ _ _ _ hk hJ w hw => by
    unfold accCI at hw ⊢
    refine H_enterM hw hmk Try.func38 rfl Try.ntmps38 rfl ?_
    refine H_seq ?_
    refine R0 ?_
    refine X_box (v := .agg _) rfl rfl fun b5 => ?_
    refine XN ?_
    refine thenJ_normal ?_
    refine H_seq ?_
    refine R0 ?_
    refine xV (e_mv (v := .int _ _) (q0 rfl)) rfl rfl ?_
    refine xV (e_eq (q0 rfl) (q0 rfl)) rfl rfl ?_
    refine XN ?_
    refine thenJ_normal ?_
    refine H_cond rfl (fun h => ?_) (fun h => ?_)
    · have h0 : er = 0 := by simpa using h
      refine R0 ?_
      refine xV (e_ld Try.isAgg25 (q0 rfl) (by first | exact bx 0 rfl rfl | exact bx 1 rfl rfl | exact bx 2 rfl rfl | exact bx 3 rfl rfl | exact bx 4 rfl rfl | exact bx 5 rfl rfl | exact bx 6 rfl rfl | exact bx 7 rfl rfl | exact bx 8 rfl rfl | exact bx 9 rfl rfl | exact rc ‹_› ‹_› rfl | exact rc0 ‹_› ‹_› rfl | exact xc ‹_› ‹_› | exact rr 0 rfl ‹_› rfl | exact rr0 0 rfl ‹_› rfl | exact rr 1 rfl ‹_› rfl | exact rr0 1 rfl ‹_› rfl | exact rr 2 rfl ‹_› rfl | exact rr0 2 rfl ‹_› rfl | exact rr 3 rfl ‹_› rfl | exact rr0 3 rfl ‹_› rfl | exact rr 4 rfl ‹_› rfl | exact rr0 4 rfl ‹_› rfl | exact rr 5 rfl ‹_› rfl | exact rr0 5 rfl ‹_› rfl | exact rr 6 rfl ‹_› rfl | exact rr0 6 rfl ‹_› rfl | exact rr 7 rfl ‹_› rfl | exact rr0 7 rfl ‹_› rfl)) rfl rfl ?_
      refine xV (e_lds Try.isAgg67 Try.sizeOf67 (q0 rfl) (by first | exact bxs 0 rfl | exact bxs 1 rfl | exact bxs 2 rfl | exact bxs 3 rfl | exact bxs 4 rfl | exact bxs 5 rfl | exact bxs 6 rfl | exact bxs 7 rfl | exact bxs 8 rfl | exact bxs 9 rfl | exact rcs ‹_› ‹_› | exact rrs 0 rfl ‹_› | exact rrs 1 rfl ‹_› | exact rrs 2 rfl ‹_› | exact rrs 3 rfl ‹_› | exact rrs 4 rfl ‹_› | exact rrs 5 rfl ‹_› | exact rrs 6 rfl ‹_› | exact rrs 7 rfl ‹_›) rfl) rfl rfl ?_
      refine X_push (k := 9) (i := Try.t67) 2 (e) Try.underlying25 (by kernel_rfl) rfl rfl rfl rfl Try.sizeOf67 Try.zeroValue67 rfl rfl rfl rfl rfl rfl ⟨by omega, by decide⟩ rfl rfl fun B A1 c1 => ?_
      (first | refine X_store 0 (v := .slice _ _ _) rfl rfl Try.sizeOf25 rfl rfl rfl rfl ?_ | refine X_store 1 (v := .slice _ _ _) rfl rfl Try.sizeOf25 rfl rfl rfl rfl ?_ | refine X_store 2 (v := .slice _ _ _) rfl rfl Try.sizeOf25 rfl rfl rfl rfl ?_ | refine X_store 3 (v := .slice _ _ _) rfl rfl Try.sizeOf25 rfl rfl rfl rfl ?_ | refine X_store 4 (v := .slice _ _ _) rfl rfl Try.sizeOf25 rfl rfl rfl rfl ?_ | refine X_store 5 (v := .slice _ _ _) rfl rfl Try.sizeOf25 rfl rfl rfl rfl ?_ | refine X_store 6 (v := .slice _ _ _) rfl rfl Try.sizeOf25 rfl rfl rfl rfl ?_ | refine X_store 7 (v := .slice _ _ _) rfl rfl Try.sizeOf25 rfl rfl rfl rfl ?_ | refine X_store 8 (v := .slice _ _ _) rfl rfl Try.sizeOf25 rfl rfl rfl rfl ?_)
      refine XN ?_
      exact end0 rfl hmk fun w' hw => ⟨(A1, c1), rfl, by unfold accCb; rw [if_pos h0]; exact hw.tail⟩
    · have h0 : ¬ er = 0 := by simpa using h
      refine H_skip ?_
      exact end0 rfl hmk fun w' hw => ⟨x, rfl, by unfold accCb; rw [if_neg h0]; exact hw.tail⟩
theorem accepted_w (f : Fl) (a : FA) (A : Option Addr) (n c : Nat) (xs : List Ev) (w : World) (hf : FlAt w f a) (hx : EvsAt w A n xs) (hn : n ≤ 10000) (hpl : PlOk xs) :
    Calls Try.prog 14 #[.agg (f.cells a).toArray, .slice A n c] w fun r w' => ∃ x : Option Addr × Nat, r = .returned (.tuple #[.slice x.1 (accOf f xs).length x.2, .int .i64 (flErr f)]) ∧ Mem w [evRow x.1 x.2 (accOf f xs)] w' := by
  by_cases hok : flErr f = 0
  case neg =>
    have hacc : accOf f xs = [] := by unfold accOf; rw [if_neg hok]
    rw [hacc]
    refine H_enter Try.func14 rfl Try.ntmps14 rfl ?_
    refine H_seq ?_
    refine R0 ?_
    refine X_box (v := .agg _) rfl rfl fun b2 => ?_
    refine xV (e_as (v := .slice _ _ _) (q0 rfl)) rfl rfl ?_
    refine xV (e_as (v := .int _ _) (q0 rfl)) rfl rfl ?_
    refine XN ?_
    refine thenJ_normal ?_
    refine H_seq ?_
    refine R0 ?_
    refine X_alloc Try.zeroValue25 rfl fun b6 => ?_
    refine XN ?_
    refine thenJ_normal ?_
    refine H_seq ?_
    refine R0 ?_
    refine xV (e_lds Try.isAgg24 Try.sizeOf24 (q0 rfl) (by first | exact bxs 0 rfl | exact bxs 1 rfl | exact bxs 2 rfl | exact bxs 3 rfl | exact bxs 4 rfl | exact bxs 5 rfl | exact bxs 6 rfl | exact bxs 7 rfl | exact bxs 8 rfl | exact bxs 9 rfl | exact rcs ‹_› ‹_› | exact rrs 0 rfl ‹_› | exact rrs 1 rfl ‹_› | exact rrs 2 rfl ‹_› | exact rrs 3 rfl ‹_› | exact rrs 4 rfl ‹_› | exact rrs 5 rfl ‹_› | exact rrs 6 rfl ‹_› | exact rrs 7 rfl ‹_›) rfl) rfl rfl ?_
    refine xV (e_mv (v := .slice _ _ _) (q0 rfl)) rfl rfl ?_
    refine xV e_fn rfl rfl ?_
    refine xC (en Try.call37 (ha3 (q0 rfl) (q0 rfl) (q0 rfl))) (fun _ w hm => runErr_w f a A n c _ w (hf.mem hm) hok) rfl rfl ?_
    refine xV (e_mv (q0 rfl)) rfl rfl ?_
    refine xV (e_ext (q0 rfl) rfl) rfl rfl ?_
    refine xV (e_ext (q0 rfl) rfl) rfl rfl ?_
    refine xV (e_as (v := .pointer _) (q0 rfl)) rfl rfl ?_
    refine xV (e_as (v := .int _ _) (q0 rfl)) rfl rfl ?_
    refine XN ?_
    refine thenJ_normal ?_
    refine H_seq ?_
    refine R0 ?_
    refine xV (e_ld Try.isAgg25 (q0 rfl) (by first | exact bx 0 rfl rfl | exact bx 1 rfl rfl | exact bx 2 rfl rfl | exact bx 3 rfl rfl | exact bx 4 rfl rfl | exact bx 5 rfl rfl | exact bx 6 rfl rfl | exact bx 7 rfl rfl | exact bx 8 rfl rfl | exact bx 9 rfl rfl | exact rc ‹_› ‹_› rfl | exact rc0 ‹_› ‹_› rfl | exact xc ‹_› ‹_› | exact rr 0 rfl ‹_› rfl | exact rr0 0 rfl ‹_› rfl | exact rr 1 rfl ‹_› rfl | exact rr0 1 rfl ‹_› rfl | exact rr 2 rfl ‹_› rfl | exact rr0 2 rfl ‹_› rfl | exact rr 3 rfl ‹_› rfl | exact rr0 3 rfl ‹_› rfl | exact rr 4 rfl ‹_› rfl | exact rr0 4 rfl ‹_› rfl | exact rr 5 rfl ‹_› rfl | exact rr0 5 rfl ‹_› rfl | exact rr 6 rfl ‹_› rfl | exact rr0 6 rfl ‹_› rfl | exact rr 7 rfl ‹_› rfl | exact rr0 7 rfl ‹_› rfl)) rfl rfl ?_
    refine xV (e_mv (v := .int _ _) (q0 rfl)) rfl rfl ?_
    refine xV (e_as (v := .slice _ _ _) (q0 rfl)) rfl rfl ?_
    refine xV (e_as (v := .int _ _) (q0 rfl)) rfl rfl ?_
    refine XN ?_
    refine thenJ_normal ?_
    refine H_ret ?_
    exact ret2 (v := .slice _ _ _) (x := .int _ _) rfl rfl rfl rfl fun w' hw => ⟨(none, 0), rfl, (mem_nil.2 hw.1).nilRow _ _ _ rfl⟩
  case pos =>
    have hacc : accOf f xs = (runR f accCb (setOf xs) (beginP (nbOf f), [])).2 := by unfold accOf; rw [if_pos hok]
    rw [hacc, hok]
    refine H_enter Try.func14 rfl Try.ntmps14 rfl ?_
    refine H_seq ?_
    refine R0 ?_
    refine X_box (v := .agg _) rfl rfl fun b2 => ?_
    refine xV (e_as (v := .slice _ _ _) (q0 rfl)) rfl rfl ?_
    refine xV (e_as (v := .int _ _) (q0 rfl)) rfl rfl ?_
    refine XN ?_
    refine thenJ_normal ?_
    refine H_seq ?_
    refine R0 ?_
    refine X_alloc Try.zeroValue25 rfl fun b6 => ?_
    refine XN ?_
    refine thenJ_normal ?_
    refine H_seq ?_
    refine R0 ?_
    refine xV (e_lds Try.isAgg24 Try.sizeOf24 (q0 rfl) (by first | exact bxs 0 rfl | exact bxs 1 rfl | exact bxs 2 rfl | exact bxs 3 rfl | exact bxs 4 rfl | exact bxs 5 rfl | exact bxs 6 rfl | exact bxs 7 rfl | exact bxs 8 rfl | exact bxs 9 rfl | exact rcs ‹_› ‹_› | exact rrs 0 rfl ‹_› | exact rrs 1 rfl ‹_› | exact rrs 2 rfl ‹_› | exact rrs 3 rfl ‹_› | exact rrs 4 rfl ‹_› | exact rrs 5 rfl ‹_› | exact rrs 6 rfl ‹_› | exact rrs 7 rfl ‹_›) rfl) rfl rfl ?_
    refine xV (e_mv (v := .slice _ _ _) (q0 rfl)) rfl rfl ?_
    refine xV e_fn rfl rfl ?_
    refine X_eff (f_callM (en Try.call37 (ha3 (q0 rfl) (q0 rfl) (q0 rfl))) (fun w hw => run_w f a A n c (nbOf f) xs (some (38, [.pointer (some ⟨b6, 0, none⟩)])) accCb (accCI b6) (fun k z => z.length ≤ k) (acc_cb f a (nbOf f) b6) (fun _ _ h => Nat.le_succ_of_le h) (z0 := []) (x0 := (none, 0)) (hw.nilRow _ _ _ rfl).mv1 rfl (fun _ _ => rfl) (Nat.le_refl _) hf hx hn hok (nb_eq hok) hpl) rfl (fun _ => rfl) fun y => ?_)
    refine xV (e_mv (q0 rfl)) rfl rfl ?_
    refine xV (e_ext (q0 rfl) rfl) rfl rfl ?_
    refine xV (e_ext (q0 rfl) rfl) rfl rfl ?_
    refine xV (e_as (v := .pointer _) (q0 rfl)) rfl rfl ?_
    refine xV (e_as (v := .int _ _) (q0 rfl)) rfl rfl ?_
    refine XN ?_
    refine thenJ_normal ?_
    refine H_seq ?_
    refine R0 ?_
    refine xV (e_ld Try.isAgg25 (q0 rfl) (by first | exact bx 0 rfl rfl | exact bx 1 rfl rfl | exact bx 2 rfl rfl | exact bx 3 rfl rfl | exact bx 4 rfl rfl | exact bx 5 rfl rfl | exact bx 6 rfl rfl | exact bx 7 rfl rfl | exact bx 8 rfl rfl | exact bx 9 rfl rfl | exact rc ‹_› ‹_› rfl | exact rc0 ‹_› ‹_› rfl | exact xc ‹_› ‹_› | exact rr 0 rfl ‹_› rfl | exact rr0 0 rfl ‹_› rfl | exact rr 1 rfl ‹_› rfl | exact rr0 1 rfl ‹_› rfl | exact rr 2 rfl ‹_› rfl | exact rr0 2 rfl ‹_› rfl | exact rr 3 rfl ‹_› rfl | exact rr0 3 rfl ‹_› rfl | exact rr 4 rfl ‹_› rfl | exact rr0 4 rfl ‹_› rfl | exact rr 5 rfl ‹_› rfl | exact rr0 5 rfl ‹_› rfl | exact rr 6 rfl ‹_› rfl | exact rr0 6 rfl ‹_› rfl | exact rr 7 rfl ‹_› rfl | exact rr0 7 rfl ‹_› rfl)) rfl rfl ?_
    refine xV (e_mv (v := .int _ _) (q0 rfl)) rfl rfl ?_
    refine xV (e_as (v := .slice _ _ _) (q0 rfl)) rfl rfl ?_
    refine xV (e_as (v := .int _ _) (q0 rfl)) rfl rfl ?_
    refine XN ?_
    refine thenJ_normal ?_
    refine H_ret ?_
    exact ret2 (v := .slice _ _ _) (x := .int _ _) rfl rfl rfl rfl fun w' hw => ⟨y.1.2.2, rfl, hw.pick [5] (by decide)⟩

end Go.Proofs.Cus
