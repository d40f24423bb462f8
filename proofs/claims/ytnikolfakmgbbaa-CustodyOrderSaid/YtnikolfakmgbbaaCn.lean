/-
  The walks: what is rejected; the spots; where a bicycle is at a moment.
-/
import Derived.Test.YtnikolfakmgbbaaCm
namespace Go.Proofs.Cus
open Go Go.RowKit Go.Proofs.E

def rejCI (b : Nat) (z : List Rj) (x : Option Addr × Nat) : List E.Item := [box b 31 [.slice x.1 z.length x.2], rjRow x.1 x.2 z]
theorem rej_cb (f : Fl) (a : FA) (n b : Nat) : CbOK f a n 41 [.pointer (some ⟨b, 0, none⟩)] rejCb (rejCI b) (fun k z => z.length ≤ k) where
  enter := Try.call41
  keep := fun k z s e er h => by
    unfold rejCb
    split
    · simp; omega
    · omega
  run := fun {w0 L s t z x k} e er hmk _ _ _ _ hk hJ w hw => by
    unfold rejCI at hw ⊢
    refine H_enterM hw hmk Try.func41 rfl Try.ntmps41 rfl ?_
    refine H_seq ?_
    refine R0 ?_
    refine X_box (v := .agg _) rfl rfl fun b5 => ?_
    refine XN ?_
    refine thenJ_normal ?_
    refine H_seq ?_
    refine R0 ?_
    refine xV (e_mv (v := .int _ _) (q0 rfl)) rfl rfl ?_
    refine xV (e_ne (q0 rfl) (q0 rfl)) rfl rfl ?_
    refine XN ?_
    refine thenJ_normal ?_
    refine H_cond rfl (fun h => ?_) (fun h => ?_)
    · have h0 : er ≠ 0 := by simpa using h
      refine R0 ?_
      refine xV (e_ld Try.isAgg31 (q0 rfl) (by first | exact bx 0 rfl rfl | exact bx 1 rfl rfl | exact bx 2 rfl rfl | exact bx 3 rfl rfl | exact bx 4 rfl rfl | exact bx 5 rfl rfl | exact bx 6 rfl rfl | exact bx 7 rfl rfl | exact bx 8 rfl rfl | exact bx 9 rfl rfl | exact rc ‹_› ‹_› rfl | exact rc0 ‹_› ‹_› rfl | exact xc ‹_› ‹_› | exact rr 0 rfl ‹_› rfl | exact rr0 0 rfl ‹_› rfl | exact rr 1 rfl ‹_› rfl | exact rr0 1 rfl ‹_› rfl | exact rr 2 rfl ‹_› rfl | exact rr0 2 rfl ‹_› rfl | exact rr 3 rfl ‹_› rfl | exact rr0 3 rfl ‹_› rfl | exact rr 4 rfl ‹_› rfl | exact rr0 4 rfl ‹_› rfl | exact rr 5 rfl ‹_› rfl | exact rr0 5 rfl ‹_› rfl | exact rr 6 rfl ‹_› rfl | exact rr0 6 rfl ‹_› rfl | exact rr 7 rfl ‹_› rfl | exact rr0 7 rfl ‹_› rfl)) rfl rfl ?_
      refine xV (e_fld Try.underlying67 rfl Try.sizeOf3 rfl (q0 rfl)) rfl rfl ?_
      refine xV (e_ld Try.isAgg3 (q0 rfl) (by first | exact bx 0 rfl rfl | exact bx 1 rfl rfl | exact bx 2 rfl rfl | exact bx 3 rfl rfl | exact bx 4 rfl rfl | exact bx 5 rfl rfl | exact bx 6 rfl rfl | exact bx 7 rfl rfl | exact bx 8 rfl rfl | exact bx 9 rfl rfl | exact rc ‹_› ‹_› rfl | exact rc0 ‹_› ‹_› rfl | exact xc ‹_› ‹_› | exact rr 0 rfl ‹_› rfl | exact rr0 0 rfl ‹_› rfl | exact rr 1 rfl ‹_› rfl | exact rr0 1 rfl ‹_› rfl | exact rr 2 rfl ‹_› rfl | exact rr0 2 rfl ‹_› rfl | exact rr 3 rfl ‹_› rfl | exact rr0 3 rfl ‹_› rfl | exact rr 4 rfl ‹_› rfl | exact rr0 4 rfl ‹_› rfl | exact rr 5 rfl ‹_› rfl | exact rr0 5 rfl ‹_› rfl | exact rr 6 rfl ‹_› rfl | exact rr0 6 rfl ‹_› rfl | exact rr 7 rfl ‹_› rfl | exact rr0 7 rfl ‹_› rfl)) rfl rfl ?_
      refine xV (e_fld Try.underlying67 rfl Try.sizeOf3 rfl (q0 rfl)) rfl rfl ?_
      refine xV (e_ld Try.isAgg3 (q0 rfl) (by first | exact bx 0 rfl rfl | exact bx 1 rfl rfl | exact bx 2 rfl rfl | exact bx 3 rfl rfl | exact bx 4 rfl rfl | exact bx 5 rfl rfl | exact bx 6 rfl rfl | exact bx 7 rfl rfl | exact bx 8 rfl rfl | exact bx 9 rfl rfl | exact rc ‹_› ‹_› rfl | exact rc0 ‹_› ‹_› rfl | exact xc ‹_› ‹_› | exact rr 0 rfl ‹_› rfl | exact rr0 0 rfl ‹_› rfl | exact rr 1 rfl ‹_› rfl | exact rr0 1 rfl ‹_› rfl | exact rr 2 rfl ‹_› rfl | exact rr0 2 rfl ‹_› rfl | exact rr 3 rfl ‹_› rfl | exact rr0 3 rfl ‹_› rfl | exact rr 4 rfl ‹_› rfl | exact rr0 4 rfl ‹_› rfl | exact rr 5 rfl ‹_› rfl | exact rr0 5 rfl ‹_› rfl | exact rr 6 rfl ‹_› rfl | exact rr0 6 rfl ‹_› rfl | exact rr 7 rfl ‹_› rfl | exact rr0 7 rfl ‹_› rfl)) rfl rfl ?_
      refine xV (e_mv (v := .int _ _) (q0 rfl)) rfl rfl ?_
      refine xV (e_build Try.underlying69 fl69 Try.zeroValue69 (pt (v := .int _ _) rfl (pt (v := .int _ _) rfl (pt (v := .int _ _) rfl E.p0))) rfl) rfl rfl ?_
      refine X_push (k := 3) (i := Try.t69) 2 (⟨e.device, e.seq, er⟩) Try.underlying31 (by kernel_rfl) rfl rfl rfl rfl Try.sizeOf69 Try.zeroValue69 rfl rfl rfl rfl rfl rfl ⟨by omega, by decide⟩ rfl rfl fun B A1 c1 => ?_
      (first | refine X_store 0 (v := .slice _ _ _) rfl rfl Try.sizeOf31 rfl rfl rfl rfl ?_ | refine X_store 1 (v := .slice _ _ _) rfl rfl Try.sizeOf31 rfl rfl rfl rfl ?_ | refine X_store 2 (v := .slice _ _ _) rfl rfl Try.sizeOf31 rfl rfl rfl rfl ?_ | refine X_store 3 (v := .slice _ _ _) rfl rfl Try.sizeOf31 rfl rfl rfl rfl ?_ | refine X_store 4 (v := .slice _ _ _) rfl rfl Try.sizeOf31 rfl rfl rfl rfl ?_ | refine X_store 5 (v := .slice _ _ _) rfl rfl Try.sizeOf31 rfl rfl rfl rfl ?_ | refine X_store 6 (v := .slice _ _ _) rfl rfl Try.sizeOf31 rfl rfl rfl rfl ?_ | refine X_store 7 (v := .slice _ _ _) rfl rfl Try.sizeOf31 rfl rfl rfl rfl ?_ | refine X_store 8 (v := .slice _ _ _) rfl rfl Try.sizeOf31 rfl rfl rfl rfl ?_)
      refine XN ?_
      exact end0 rfl hmk fun w' hw => ⟨(A1, c1), rfl, by unfold rejCb; rw [if_pos h0]; exact hw.tail⟩
    · have h0 : ¬ er ≠ 0 := by simpa using h
      refine H_skip ?_
      exact end0 rfl hmk fun w' hw => ⟨x, rfl, by unfold rejCb; rw [if_neg h0]; exact hw.tail⟩
theorem rejected_w (f : Fl) (a : FA) (A : Option Addr) (n c : Nat) (xs : List Ev) (w : World) (hf : FlAt w f a) (hx : EvsAt w A n xs) (hn : n ≤ 10000) (hpl : PlOk xs) :
    Calls Try.prog 16 #[.agg (f.cells a).toArray, .slice A n c] w fun r w' => ∃ x : Option Addr × Nat, r = .returned (.tuple #[.slice x.1 (rejOf f xs).length x.2, .int .i64 (flErr f)]) ∧ Mem w [rjRow x.1 x.2 (rejOf f xs)] w' := by
  by_cases hok : flErr f = 0
  case neg =>
    have hacc : rejOf f xs = [] := by unfold rejOf; rw [if_neg hok]
    rw [hacc]
    refine H_enter Try.func16 rfl Try.ntmps16 rfl ?_
    refine H_seq ?_
    refine R0 ?_
    refine X_box (v := .agg _) rfl rfl fun b2 => ?_
    refine xV (e_as (v := .slice _ _ _) (q0 rfl)) rfl rfl ?_
    refine xV (e_as (v := .int _ _) (q0 rfl)) rfl rfl ?_
    refine XN ?_
    refine thenJ_normal ?_
    refine H_seq ?_
    refine R0 ?_
    refine X_alloc Try.zeroValue31 rfl fun b6 => ?_
    refine XN ?_
    refine thenJ_normal ?_
    refine H_seq ?_
    refine R0 ?_
    refine xV (e_lds Try.isAgg24 Try.sizeOf24 (q0 rfl) (by first | exact bxs 0 rfl | exact bxs 1 rfl | exact bxs 2 rfl | exact bxs 3 rfl | exact bxs 4 rfl | exact bxs 5 rfl | exact bxs 6 rfl | exact bxs 7 rfl | exact bxs 8 rfl | exact bxs 9 rfl | exact rcs ‹_› ‹_› | exact rrs 0 rfl ‹_› | exact rrs 1 rfl ‹_› | exact rrs 2 rfl ‹_› | exact rrs 3 rfl ‹_› | exact rrs 4 rfl ‹_› | exact rrs 5 rfl ‹_› | exact rrs 6 rfl ‹_› | exact rrs 7 rfl ‹_›) rfl) rfl rfl ?_
    refine xV (e_mv (v := .slice _ _ _) (q0 rfl)) rfl rfl ?_
    refine xV e_fn rfl rfl ?_
    refine xC (en Try.call37 (ha3 (q0 rfl) (q0 rfl) (q0 rfl))) (fun _ w hm => runErr_w f a A n c _ w (hf.mem hm) hok) rfl rfl ?_
    refine xV (e_mv (q0 rfl)) rfl rfl ?_
    refine xV (e_ext (q0 rfl) rfl) rfl rfl ?_
    refine xV (e_ext (q0 rfl) rfl) rfl rfl ?_
    refine xV (e_as (v := .pointer _) (q0 rfl)) rfl rfl ?_
    refine xV (e_as (v := .int _ _) (q0 rfl)) rfl rfl ?_
    refine XN ?_
    refine thenJ_normal ?_
    refine H_seq ?_
    refine R0 ?_
    refine xV (e_ld Try.isAgg31 (q0 rfl) (by first | exact bx 0 rfl rfl | exact bx 1 rfl rfl | exact bx 2 rfl rfl | exact bx 3 rfl rfl | exact bx 4 rfl rfl | exact bx 5 rfl rfl | exact bx 6 rfl rfl | exact bx 7 rfl rfl | exact bx 8 rfl rfl | exact bx 9 rfl rfl | exact rc ‹_› ‹_› rfl | exact rc0 ‹_› ‹_› rfl | exact xc ‹_› ‹_› | exact rr 0 rfl ‹_› rfl | exact rr0 0 rfl ‹_› rfl | exact rr 1 rfl ‹_› rfl | exact rr0 1 rfl ‹_› rfl | exact rr 2 rfl ‹_› rfl | exact rr0 2 rfl ‹_› rfl | exact rr 3 rfl ‹_› rfl | exact rr0 3 rfl ‹_› rfl | exact rr 4 rfl ‹_› rfl | exact rr0 4 rfl ‹_› rfl | exact rr 5 rfl ‹_› rfl | exact rr0 5 rfl ‹_› rfl | exact rr 6 rfl ‹_› rfl | exact rr0 6 rfl ‹_› rfl | exact rr 7 rfl ‹_› rfl | exact rr0 7 rfl ‹_› rfl)) rfl rfl ?_
    refine xV (e_mv (v := .int _ _) (q0 rfl)) rfl rfl ?_
    refine xV (e_as (v := .slice _ _ _) (q0 rfl)) rfl rfl ?_
    refine xV (e_as (v := .int _ _) (q0 rfl)) rfl rfl ?_
    refine XN ?_
    refine thenJ_normal ?_
    refine H_ret ?_
    exact ret2 (v := .slice _ _ _) (x := .int _ _) rfl rfl rfl rfl fun w' hw => ⟨(none, 0), rfl, (mem_nil.2 hw.1).nilRow _ _ _ rfl⟩
  case pos =>
    have hacc : rejOf f xs = (runR f rejCb (setOf xs) (beginP (nbOf f), [])).2 := by unfold rejOf; rw [if_pos hok]
    rw [hacc, hok]
    refine H_enter Try.func16 rfl Try.ntmps16 rfl ?_
    refine H_seq ?_
    refine R0 ?_
    refine X_box (v := .agg _) rfl rfl fun b2 => ?_
    refine xV (e_as (v := .slice _ _ _) (q0 rfl)) rfl rfl ?_
    refine xV (e_as (v := .int _ _) (q0 rfl)) rfl rfl ?_
    refine XN ?_
    refine thenJ_normal ?_
    refine H_seq ?_
    refine R0 ?_
    refine X_alloc Try.zeroValue31 rfl fun b6 => ?_
    refine XN ?_
    refine thenJ_normal ?_
    refine H_seq ?_
    refine R0 ?_
    refine xV (e_lds Try.isAgg24 Try.sizeOf24 (q0 rfl) (by first | exact bxs 0 rfl | exact bxs 1 rfl | exact bxs 2 rfl | exact bxs 3 rfl | exact bxs 4 rfl | exact bxs 5 rfl | exact bxs 6 rfl | exact bxs 7 rfl | exact bxs 8 rfl | exact bxs 9 rfl | exact rcs ‹_› ‹_› | exact rrs 0 rfl ‹_› | exact rrs 1 rfl ‹_› | exact rrs 2 rfl ‹_› | exact rrs 3 rfl ‹_› | exact rrs 4 rfl ‹_› | exact rrs 5 rfl ‹_› | exact rrs 6 rfl ‹_› | exact rrs 7 rfl ‹_›) rfl) rfl rfl ?_
    refine xV (e_mv (v := .slice _ _ _) (q0 rfl)) rfl rfl ?_
    refine xV e_fn rfl rfl ?_
    refine X_eff (f_callM (en Try.call37 (ha3 (q0 rfl) (q0 rfl) (q0 rfl))) (fun w hw => run_w f a A n c (nbOf f) xs (some (41, [.pointer (some ⟨b6, 0, none⟩)])) rejCb (rejCI b6) (fun k z => z.length ≤ k) (rej_cb f a (nbOf f) b6) (fun _ _ h => Nat.le_succ_of_le h) (z0 := []) (x0 := (none, 0)) (hw.nilRow _ _ _ rfl).mv1 rfl (fun _ _ => rfl) (Nat.le_refl _) hf hx hn hok (nb_eq hok) hpl) rfl (fun _ => rfl) fun y => ?_)
    refine xV (e_mv (q0 rfl)) rfl rfl ?_
    refine xV (e_ext (q0 rfl) rfl) rfl rfl ?_
    refine xV (e_ext (q0 rfl) rfl) rfl rfl ?_
    refine xV (e_as (v := .pointer _) (q0 rfl)) rfl rfl ?_
    refine xV (e_as (v := .int _ _) (q0 rfl)) rfl rfl ?_
    refine XN ?_
    refine thenJ_normal ?_
    refine H_seq ?_
    refine R0 ?_
    refine xV (e_ld Try.isAgg31 (q0 rfl) (by first | exact bx 0 rfl rfl | exact bx 1 rfl rfl | exact bx 2 rfl rfl | exact bx 3 rfl rfl | exact bx 4 rfl rfl | exact bx 5 rfl rfl | exact bx 6 rfl rfl | exact bx 7 rfl rfl | exact bx 8 rfl rfl | exact bx 9 rfl rfl | exact rc ‹_› ‹_› rfl | exact rc0 ‹_› ‹_› rfl | exact xc ‹_› ‹_› | exact rr 0 rfl ‹_› rfl | exact rr0 0 rfl ‹_› rfl | exact rr 1 rfl ‹_› rfl | exact rr0 1 rfl ‹_› rfl | exact rr 2 rfl ‹_› rfl | exact rr0 2 rfl ‹_› rfl | exact rr 3 rfl ‹_› rfl | exact rr0 3 rfl ‹_› rfl | exact rr 4 rfl ‹_› rfl | exact rr0 4 rfl ‹_› rfl | exact rr 5 rfl ‹_› rfl | exact rr0 5 rfl ‹_› rfl | exact rr 6 rfl ‹_› rfl | exact rr0 6 rfl ‹_› rfl | exact rr 7 rfl ‹_› rfl | exact rr0 7 rfl ‹_› rfl)) rfl rfl ?_
    refine xV (e_mv (v := .int _ _) (q0 rfl)) rfl rfl ?_
    refine xV (e_as (v := .slice _ _ _) (q0 rfl)) rfl rfl ?_
    refine xV (e_as (v := .int _ _) (q0 rfl)) rfl rfl ?_
    refine XN ?_
    refine thenJ_normal ?_
    refine H_ret ?_
    exact ret2 (v := .slice _ _ _) (x := .int _ _) rfl rfl rfl rfl fun w' hw => ⟨y.1.2.2, rfl, hw.pick [5] (by decide)⟩
theorem ret_sl {A : Option Addr} {n m c : Nat} {v : Value} (h : n = m) : Ending.returned (.tuple #[.slice A n c, v]) = .returned (.tuple #[.slice A m c, v]) := by rw [h]
theorem spotsOf_len {f : Fl} {xs : List Ev} (hok : flErr f = 0) : (runR f nobCb (setOf xs) (beginP (nbOf f), ())).1.spots.length = nbOf f := (runR_inv (nb_eq hok) _ _ (PInv.begin _)).len
theorem spots_w (f : Fl) (a : FA) (A : Option Addr) (n c : Nat) (xs : List Ev) (w : World) (hf : FlAt w f a) (hx : EvsAt w A n xs) (hn : n ≤ 10000) (hpl : PlOk xs) :
    Calls Try.prog 20 #[.agg (f.cells a).toArray, .slice A n c] w fun r w' => ∃ x : Option Addr × Nat, r = .returned (.tuple #[.slice x.1 (spotsOf f xs).length x.2, .int .i64 (flErr f)]) ∧ Mem w [spRow x.1 x.2 (spotsOf f xs)] w' := by
  by_cases hok : flErr f = 0
  case neg =>
    have hacc : spotsOf f xs = [] := by unfold spotsOf; rw [if_neg hok]
    rw [hacc]
    refine H_enter Try.func20 rfl Try.ntmps20 rfl ?_
    refine H_seq ?_
    refine R0 ?_
    refine X_box (v := .agg _) rfl rfl fun b2 => ?_
    refine xV (e_as (v := .slice _ _ _) (q0 rfl)) rfl rfl ?_
    refine xV (e_as (v := .int _ _) (q0 rfl)) rfl rfl ?_
    refine XN ?_
    refine thenJ_normal ?_
    refine H_seq ?_
    refine R0 ?_
    refine xV (e_lds Try.isAgg24 Try.sizeOf24 (q0 rfl) (by first | exact bxs 0 rfl | exact bxs 1 rfl | exact bxs 2 rfl | exact bxs 3 rfl | exact bxs 4 rfl | exact bxs 5 rfl | exact bxs 6 rfl | exact bxs 7 rfl | exact bxs 8 rfl | exact bxs 9 rfl | exact rcs ‹_› ‹_› | exact rrs 0 rfl ‹_› | exact rrs 1 rfl ‹_› | exact rrs 2 rfl ‹_› | exact rrs 3 rfl ‹_› | exact rrs 4 rfl ‹_› | exact rrs 5 rfl ‹_› | exact rrs 6 rfl ‹_› | exact rrs 7 rfl ‹_›) rfl) rfl rfl ?_
    refine xV (e_mv (v := .slice _ _ _) (q0 rfl)) rfl rfl ?_
    refine xC (en Try.call37 (ha3 (q0 rfl) (q0 rfl) (q0 rfl))) (fun _ w hm => runErr_w f a A n c _ w (hf.mem hm) hok) rfl rfl ?_
    refine xV (e_mv (q0 rfl)) rfl rfl ?_
    refine xV (e_ext (q0 rfl) rfl) rfl rfl ?_
    refine xV (e_ext (q0 rfl) rfl) rfl rfl ?_
    refine xV (e_as (v := .pointer _) (q0 rfl)) rfl rfl ?_
    refine xV (e_as (v := .int _ _) (q0 rfl)) rfl rfl ?_
    refine XN ?_
    refine thenJ_normal ?_
    refine H_seq ?_
    refine H_seq ?_
    refine R0 ?_
    refine xV (e_mv (v := .int _ _) (q0 rfl)) rfl rfl ?_
    refine xV (e_ne (q0 rfl) (q0 rfl)) rfl rfl ?_
    refine XN ?_
    refine thenJ_normal ?_
    refine H_cond rfl (fun h => ?_) (fun h => ?_)
    · refine H_seq ?_
      refine R0 ?_
      refine xV (e_mv (v := .int _ _) (q0 rfl)) rfl rfl ?_
      refine xV (e_as (v := .slice _ _ _) (q0 rfl)) rfl rfl ?_
      refine xV (e_as (v := .int _ _) (q0 rfl)) rfl rfl ?_
      refine XN ?_
      refine thenJ_normal ?_
      refine H_ret ?_
      refine thenJ_ret ?_
      exact ret2 (v := .slice _ _ _) (x := .int _ _) rfl rfl rfl rfl fun w' hw => ⟨(none, 0), rfl, (mem_nil.2 hw.1).nilRow _ _ _ rfl⟩
    · exact absurd (by simpa using h) hok
  case pos =>
    have hacc : spotsOf f xs = (runR f nobCb (setOf xs) (beginP (nbOf f), ())).1.spots := by unfold spotsOf; rw [if_pos hok]
    have hlen := spotsOf_len (xs := xs) hok
    rw [hacc, hok]
    refine H_enter Try.func20 rfl Try.ntmps20 rfl ?_
    refine H_seq ?_
    refine R0 ?_
    refine X_box (v := .agg _) rfl rfl fun b2 => ?_
    refine xV (e_as (v := .slice _ _ _) (q0 rfl)) rfl rfl ?_
    refine xV (e_as (v := .int _ _) (q0 rfl)) rfl rfl ?_
    refine XN ?_
    refine thenJ_normal ?_
    refine H_seq ?_
    refine R0 ?_
    refine xV (e_lds Try.isAgg24 Try.sizeOf24 (q0 rfl) (by first | exact bxs 0 rfl | exact bxs 1 rfl | exact bxs 2 rfl | exact bxs 3 rfl | exact bxs 4 rfl | exact bxs 5 rfl | exact bxs 6 rfl | exact bxs 7 rfl | exact bxs 8 rfl | exact bxs 9 rfl | exact rcs ‹_› ‹_› | exact rrs 0 rfl ‹_› | exact rrs 1 rfl ‹_› | exact rrs 2 rfl ‹_› | exact rrs 3 rfl ‹_› | exact rrs 4 rfl ‹_› | exact rrs 5 rfl ‹_› | exact rrs 6 rfl ‹_› | exact rrs 7 rfl ‹_›) rfl) rfl rfl ?_
    refine xV (e_mv (v := .slice _ _ _) (q0 rfl)) rfl rfl ?_
    refine X_eff (f_callM (en Try.call37 (ha3 (q0 rfl) (q0 rfl) (q0 rfl))) (fun w hw => run_w f a A n c (nbOf f) xs none nobCb (fun _ (_ : Unit) => []) (fun _ _ => True) (fun _ _ _ _ => rfl) (fun _ _ h => h) (z0 := ()) (x0 := ()) hw rfl (fun _ _ => rfl) trivial hf hx hn hok (nb_eq hok) hpl) rfl (fun _ => rfl) fun y => ?_)
    refine xV (e_mv (q0 rfl)) rfl rfl ?_
    refine xV (e_ext (q0 rfl) rfl) rfl rfl ?_
    refine xV (e_ext (q0 rfl) rfl) rfl rfl ?_
    refine xV (e_as (v := .pointer _) (q0 rfl)) rfl rfl ?_
    refine xV (e_as (v := .int _ _) (q0 rfl)) rfl rfl ?_
    refine XN ?_
    refine thenJ_normal ?_
    refine H_seq ?_
    refine H_seq ?_
    refine R0 ?_
    refine xV (e_mv (v := .int _ _) (q0 rfl)) rfl rfl ?_
    refine xV (e_ne (q0 rfl) (q0 rfl)) rfl rfl ?_
    refine XN ?_
    refine thenJ_normal ?_
    refine H_cond rfl (fun h => ?_) (fun h => ?_)
    · cases h
    · obtain ⟨⟨s, t, u⟩, hsn, htp⟩ := y
      simp only at hsn htp
      have hsp : t.spots = (runR f nobCb (setOf xs) (beginP (nbOf f), ())).1.spots := by rw [← htp]; rfl
      refine H_skip ?_
      refine thenJ_normal ?_
      refine H_seq ?_
      refine R0 ?_
      refine xV (e_mv (v := .pointer _) (q0 rfl)) rfl rfl ?_
      refine xV (e_nilc (q0 rfl)) rfl rfl ?_
      refine xV (e_fld Try.underlying86 rfl Try.sizeOf37 rfl (q0 rfl)) rfl rfl ?_
      refine xV (e_ld Try.isAgg37 (q0 rfl) (by first | exact bx 0 rfl rfl | exact bx 1 rfl rfl | exact bx 2 rfl rfl | exact bx 3 rfl rfl | exact bx 4 rfl rfl | exact bx 5 rfl rfl | exact bx 6 rfl rfl | exact bx 7 rfl rfl | exact bx 8 rfl rfl | exact bx 9 rfl rfl | exact rc ‹_› ‹_› rfl | exact rc0 ‹_› ‹_› rfl | exact xc ‹_› ‹_› | exact rr 0 rfl ‹_› rfl | exact rr0 0 rfl ‹_› rfl | exact rr 1 rfl ‹_› rfl | exact rr0 1 rfl ‹_› rfl | exact rr 2 rfl ‹_› rfl | exact rr0 2 rfl ‹_› rfl | exact rr 3 rfl ‹_› rfl | exact rr0 3 rfl ‹_› rfl | exact rr 4 rfl ‹_› rfl | exact rr0 4 rfl ‹_› rfl | exact rr 5 rfl ‹_› rfl | exact rr0 5 rfl ‹_› rfl | exact rr 6 rfl ‹_› rfl | exact rr0 6 rfl ‹_› rfl | exact rr 7 rfl ‹_› rfl | exact rr0 7 rfl ‹_› rfl)) rfl rfl ?_
      refine xV (e_as (v := .slice _ _ _) (q0 rfl)) rfl rfl ?_
      refine xV (e_as (v := .int _ _) (q0 rfl)) rfl rfl ?_
      refine XN ?_
      refine thenJ_normal ?_
      refine H_ret ?_
      exact ret2 (v := .slice _ _ _) (x := .int _ _) rfl rfl rfl rfl fun w' hw => ⟨(some ⟨s.q, 0, none⟩, s.c), ret_sl (by show s.n = _; omega), by rw [← hsp]; exact hw.pick [1] (by decide)⟩

theorem index_deleteEv_w (p : Ev → Bool) (g : Nat) (cap : List Value) (eg : ∀ args w, (callFunc g args).run Try.prog w = .ok (.enter g args) w) (A : Option Addr) (n c : Nat) (xs : List Ev) (w : World) (hx : SlAt w 9 Ev.cells A n xs)
    (hcl : ∀ (x : Ev) (u : World), Bel w u → Calls Try.prog g (([.agg (Ev.cells x).toArray] : List Value) ++ cap).toArray u fun e w' => e = .returned (.bool (p x)) ∧ Bel u w') :
    Calls Try.prog 76 #[.slice A n c, .func (.func g) #[] cap.toArray] w fun e w' => e = .returned (.int .i64 (match xs.findIdx? p with | some i => (i : Int) | none => -1)) ∧ Bel w w' := by
  have hl := hx.1
  have hn := hx.2.1
  refine H_enter Try.func76 rfl Try.ntmps76 rfl ?_
  refine H_seq ?_
  refine R0 ?_
  refine xV (e_as (v := .int _ _) (q0 rfl)) rfl rfl ?_
  refine XN ?_
  refine thenJ_normal ?_
  refine H_seq ?_
  refine H_seq ?_
  refine R0 ?_
  refine xV (e_mv (v := .slice _ _ _) (q0 rfl)) rfl rfl ?_
  refine xV (e_len Try.underlying25 (q0 rfl)) rfl rfl ?_
  refine xV (e_mv (v := .int _ _) (q0 rfl)) rfl rfl ?_
  refine XN ?_
  refine thenJ_normal ?_
  refine H_block ?_
  refine H_loop [4, 5, 8, 9, 10, 11, 12, 13, 14, 15, 16, 17, 18] (fun k : Nat => [(8, .int .i64 k)]) (fun _ => []) (fun k => k ≤ n ∧ (xs.take k).all (fun x => !p x) = true) (fun k => n - k) 0 ⟨rfl, trivial⟩ (fun _ h => h) rfl ⟨Nat.zero_le _, rfl⟩ ?_
  rintro k g2 ⟨hk, hall⟩
  refine H_seq ?_
  refine R0 ?_
  refine xV (e_lt (q0 rfl) (q0 rfl)) rfl rfl ?_
  refine XN ?_
  refine thenJ_normal ?_
  refine H_seq ?_
  refine H_cond rfl (fun hlt => ?_) (fun hlt => ?_)
  · simp at hlt
    obtain ⟨b, off, x, rfl, hbl, hxk, hrx⟩ := hx.at_ hlt
    refine H_skip ?_
    refine thenJ_normal ?_
    refine H_seq ?_
    refine H_block ?_
    refine H_seq ?_
    refine R0 ?_
    refine xV (e_mv (v := .int _ _) (q0 rfl)) rfl rfl ?_
    refine xV (e_as (v := .int _ _) (q0 rfl)) rfl rfl ?_
    refine XN ?_
    refine thenJ_normal ?_
    refine H_seq ?_
    refine R0 ?_
    refine xV (e_mv (q0 rfl)) rfl rfl ?_
    refine xV (e_mv (v := .slice _ _ _) (q0 rfl)) rfl rfl ?_
    refine xV (e_mv (v := .int _ _) (q0 rfl)) rfl rfl ?_
    refine xV (e_idx _ Try.underlying25 Try.sizeOf67 (q0 rfl) (q0 rfl) (fun _ => ⟨rfl, by omega⟩)) rfl rfl ?_
    refine xV (e_lds Try.isAgg67 Try.sizeOf67 (q0 rfl) (by first | exact bxs 0 rfl | exact bxs 1 rfl | exact bxs 2 rfl | exact bxs 3 rfl | exact bxs 4 rfl | exact bxs 5 rfl | exact bxs 6 rfl | exact bxs 7 rfl | exact bxs 8 rfl | exact bxs 9 rfl | exact rcs ‹_› ‹_› | exact rrs 0 rfl ‹_› | exact rrs 1 rfl ‹_› | exact rrs 2 rfl ‹_› | exact rrs 3 rfl ‹_› | exact rrs 4 rfl ‹_› | exact rrs 5 rfl ‹_› | exact rrs 6 rfl ‹_› | exact rrs 7 rfl ‹_›) rfl) rfl rfl ?_
    refine xC (enV eg (q0 rfl) (fun _ => rfl)) (fun _ w hw => hcl x w hw.1) rfl rfl ?_
    refine XN ?_
    refine thenJ_normal ?_
    refine H_cond rfl (fun hb => ?_) (fun hb => ?_)
    · have hfi : xs.findIdx? p = some k := by
        rw [List.findIdx?_eq_some_iff_getElem]
        obtain ⟨q1, q2⟩ := List.getElem?_eq_some_iff.1 hxk
        refine ⟨q1, by rw [q2]; exact hb, fun j hj => ?_⟩
        have h1 := List.all_eq_true.1 hall (xs[j]'(by omega)) (by
          rw [List.mem_iff_getElem?]; exact ⟨j, by rw [List.getElem?_take, if_pos hj]; exact List.getElem?_eq_getElem (by omega)⟩)
        simpa using h1
      refine H_seq ?_
      refine R0 ?_
      refine xV (e_mv (v := .int _ _) (q0 rfl)) rfl rfl ?_
      refine xV (e_as (v := .int _ _) (q0 rfl)) rfl rfl ?_
      refine XN ?_
      refine thenJ_normal ?_
      refine H_ret ?_
      refine blockJ_ret ?_
      refine thenJ_ret ?_
      refine loopJ_ret ?_
      refine blockJ_ret ?_
      refine thenJ_ret ?_
      exact ret1 (v := .int _ _) rfl rfl rfl fun w' hw => ⟨ret_int (by rw [hfi]), hw.1⟩
    · refine H_skip ?_
      refine blockJ_normal ?_
      refine thenJ_normal ?_
      refine R0 ?_
      refine xV (e_add (q0 rfl) (q0 rfl) (fun _ => ⟨rfl, by omega, by omega⟩)) rfl rfl ?_
      refine xV (e_mv (v := .int _ _) (q0 rfl)) rfl rfl ?_
      refine XN ?_
      exact loopJ_normal (k + 1) (by repeat (first | exact agree_self | exact agree_over | refine agree_upd rfl ?_ | refine agree_updL rfl ?_ | refine agree_over2 rfl ?_)) ⟨rfl, trivial⟩ (fun w hw => mem_nil.2 hw.1) rfl ⟨by omega, by rw [take_snoc _ _ _ hxk, List.all_append, hall]; simpa using hb⟩ (by show n - (k + 1) < n - k; omega)
  · obtain rfl : k = n := by simp at hlt; omega
    have hfi : xs.findIdx? p = none := by
      rw [List.findIdx?_eq_none_iff]
      intro x hxm
      rw [List.take_of_length_le (by omega)] at hall
      simpa using List.all_eq_true.1 hall x hxm
    refine H_exit ?_
    refine thenJ_exit ?_
    refine loopJ_exit ?_
    refine blockJ_hit ?_
    refine thenJ_normal ?_
    refine H_seq ?_
    refine R0 ?_
    refine xV (e_as (v := .int _ _) (q0 rfl)) rfl rfl ?_
    refine XN ?_
    refine thenJ_normal ?_
    refine H_ret ?_
    exact ret1 (v := .int _ _) rfl rfl rfl fun w' hw => ⟨ret_int (by rw [hfi]), hw.1⟩
set_option maxHeartbeats 1000000 in
theorem deleteEv_w (p : Ev → Bool) (g : Nat) (cap : List Value) (eg : ∀ args w, (callFunc g args).run Try.prog w = .ok (.enter g args) w)
    {w0 w : World} {L : List E.Item} {c : Nat} {A : Option Addr} {xs : List Ev} (hw : Mem w0 (rowT 67 9 Ev.cells A c xs :: L) w) (hmk : marks L = []) (hn : xs.length ≤ 1000000)
    (hcl : ∀ (x : Ev) (L' : List E.Item) (u : World), Mem w0 (L' ++ L) u → Calls Try.prog g (([.agg (Ev.cells x).toArray] : List Value) ++ cap).toArray u fun e w' => e = .returned (.bool (p x)) ∧ Bel u w') :
    Calls Try.prog 43 #[.slice A xs.length c, .func (.func g) #[] cap.toArray] w fun e w' => ∃ _ : Unit, e = .returned (.slice A (xs.filter fun x => !p x).length c) ∧ Mem w0 (rowT 67 9 Ev.cells A c (xs.filter fun x => !p x) :: L) w' := by
  have hcap := rowT_cap (j := 0) hw rfl
  have hidx : ∀ w, Mem w0 (rowT 67 9 Ev.cells A c xs :: L) w → Calls Try.prog 76 #[.slice A xs.length c, .func (.func g) #[] cap.toArray] w fun e w' => e = .returned (.int .i64 (match xs.findIdx? p with | some i => (i : Int) | none => -1)) ∧ Bel w w' := fun w hw =>
    index_deleteEv_w p g cap eg A xs.length c xs w (slAt_row hw (j := 0) rfl (fun _ => rfl) (by omega)) (fun x u hb => hcl x [_] u (hw.call hb))
  obtain ⟨ix, hix⟩ : ∃ ix : Int, ix = (match xs.findIdx? p with | some i => (i : Int) | none => -1) := ⟨_, rfl⟩
  rw [← hix] at hidx
  refine H_enterM hw hmk Try.func43 rfl Try.ntmps43 rfl ?_
  refine H_seq ?_
  refine R0 ?_
  refine xV (e_as (v := .slice _ _ _) (q0 rfl)) rfl rfl ?_
  refine XN ?_
  refine thenJ_normal ?_
  refine H_seq ?_
  refine R0 ?_
  refine xV (e_mv (v := .slice _ _ _) (q0 rfl)) rfl rfl ?_
  refine xV (e_mv (q0 rfl)) rfl rfl ?_
  refine xC (en Try.call76 (ha2 (q0 rfl) (q0 rfl))) (fun _ w hm => hidx w hm) rfl rfl ?_
  cases hfi : xs.findIdx? p with
  | none =>
    rw [hfi] at hix
    simp only at hix
    subst hix
    have hno : xs.filter (fun x => !p x) = xs := by
      rw [List.filter_eq_self]
      intro x hxm
      rw [List.findIdx?_eq_none_iff] at hfi
      simpa using hfi x hxm
    rw [hno]
    refine xV (e_as (v := .int _ _) (q0 rfl)) rfl rfl ?_
    refine XN ?_
    refine thenJ_normal ?_
    refine H_seq ?_
    refine H_seq ?_
    refine R0 ?_
    refine xV (e_mv (v := .int _ _) (q0 rfl)) rfl rfl ?_
    refine xV (e_eq (q0 rfl) (q0 rfl)) rfl rfl ?_
    refine XN ?_
    refine thenJ_normal ?_
    refine H_cond rfl (fun h1 => ?_) (fun h1 => ?_)
    · refine H_seq ?_
      refine R0 ?_
      refine xV (e_mv (v := .slice _ _ _) (q0 rfl)) rfl rfl ?_
      refine xV (e_as (v := .slice _ _ _) (q0 rfl)) rfl rfl ?_
      refine XN ?_
      refine thenJ_normal ?_
      refine H_ret ?_
      refine thenJ_ret ?_
      exact ret1 (v := .slice _ _ _) rfl rfl hmk fun w' hw => ⟨(), rfl, hw⟩
    · cases h1
  | some i0 =>
    rw [hfi] at hix
    simp only at hix
    subst hix
    obtain ⟨hi0, hpi, hbef⟩ := List.findIdx?_eq_some_iff_getElem.1 hfi
    refine xV (e_as (v := .int _ _) (q0 rfl)) rfl rfl ?_
    refine XN ?_
    refine thenJ_normal ?_
    refine H_seq ?_
    refine H_seq ?_
    refine R0 ?_
    refine xV (e_mv (v := .int _ _) (q0 rfl)) rfl rfl ?_
    refine xV (e_eq (q0 rfl) (q0 rfl)) rfl rfl ?_
    refine XN ?_
    refine thenJ_normal ?_
    refine H_cond rfl (fun h1 => ?_) (fun h1 => ?_)
    · exact absurd h1 (by simp)
    · obtain ⟨b, rfl⟩ := rowT_at (j := 0) hw rfl (by omega)
      refine H_skip ?_
      refine thenJ_normal ?_
      refine H_seq ?_
      refine H_seq ?_
      refine R0 ?_
      refine xV (e_mv (v := .int _ _) (q0 rfl)) rfl rfl ?_
      refine xV (e_add (q0 rfl) (q0 rfl) (fun _ => ⟨rfl, by omega, by omega⟩)) rfl rfl ?_
      refine xV (e_as (v := .int _ _) (q0 rfl)) rfl rfl ?_
      refine XN ?_
      refine thenJ_normal ?_
      refine H_block ?_
      refine H_loop [5, 6, 7, 16, 17, 18, 19, 20, 21, 22, 23, 24, 25, 26, 27, 28, 29, 30, 31, 32, 33, 34, 35] (fun s : Nat × Nat × List Ev => [(5, .int .i64 s.1), (6, .int .i64 s.2.1)]) (fun s => rowT 67 9 Ev.cells (some ⟨b, 0, none⟩) c s.2.2 :: L) (fun s => s.1 < s.2.1 ∧ s.2.1 ≤ xs.length ∧ s.2.2.length = xs.length ∧ s.2.2.drop s.2.1 = xs.drop s.2.1 ∧ s.2.2.take s.1 = (xs.take s.2.1).filter (fun x => !p x)) (fun s => xs.length - s.2.1) (i0, i0 + 1, xs) ⟨rfl, rfl, trivial⟩ (fun _ h => h) rfl ⟨Nat.lt_succ_self _, hi0, rfl, rfl, by
        show xs.take i0 = (xs.take (i0 + 1)).filter _
        have h2 : (xs.take i0).filter (fun x => !p x) = xs.take i0 := by
          rw [List.filter_eq_self]
          intro x hxm
          obtain ⟨j, hj⟩ := List.mem_iff_getElem?.1 hxm
          rw [List.getElem?_take] at hj
          split at hj
          · rename_i hlt
            obtain ⟨_, h4⟩ := List.getElem?_eq_some_iff.1 hj
            have h5 := hbef j hlt
            rw [h4] at h5
            simpa using h5
          · cases hj
        rw [take_snoc _ _ _ (List.getElem?_eq_getElem hi0), List.filter_append, h2]
        simp [hpi]⟩ ?_
      rintro s g2 ⟨hij, hjn, hyl, hyd, hyt⟩
      refine H_seq ?_
      refine H_seq ?_
      refine R0 ?_
      refine xV (e_mv (v := .int _ _) (q0 rfl)) rfl rfl ?_
      refine xV (e_mv (v := .slice _ _ _) (q0 rfl)) rfl rfl ?_
      refine xV (e_len Try.underlying25 (q0 rfl)) rfl rfl ?_
      refine xV (e_lt (q0 rfl) (q0 rfl)) rfl rfl ?_
      refine XN ?_
      refine thenJ_normal ?_
      refine H_cond rfl (fun hlt => ?_) (fun hlt => ?_)
      · have hlt' : s.2.1 < xs.length := by simp at hlt; omega
        obtain ⟨y, hy⟩ : ∃ y, xs[s.2.1]? = some y := ⟨_, List.getElem?_eq_getElem hlt'⟩
        have hyy : s.2.2[s.2.1]? = some y := by
          have : (s.2.2.drop s.2.1)[0]? = (xs.drop s.2.1)[0]? := by rw [hyd]
          rw [List.getElem?_drop, List.getElem?_drop, Nat.add_zero] at this
          rw [this]; exact hy
        have hdd : s.2.2.drop (s.2.1 + 1) = xs.drop (s.2.1 + 1) := by
          have := congrArg (List.drop 1) hyd
          rw [List.drop_drop, List.drop_drop] at this
          exact this
        obtain ⟨q, hq⟩ : ∃ q, s.2.2[s.1]? = some q := ⟨_, List.getElem?_eq_getElem (by omega)⟩
        refine H_skip ?_
        refine thenJ_normal ?_
        refine H_seq ?_
        refine H_block ?_
        refine H_seq ?_
        refine R0 ?_
        refine xV (e_mv (v := .slice _ _ _) (q0 rfl)) rfl rfl ?_
        refine xV (e_mv (v := .int _ _) (q0 rfl)) rfl rfl ?_
        refine xV (e_idx _ Try.underlying25 Try.sizeOf67 (q0 rfl) (q0 rfl) (fun _ => ⟨rfl, by omega⟩)) rfl rfl ?_
        refine xV (e_lds Try.isAgg67 Try.sizeOf67 (q0 rfl) (rrs 0 rfl hyy) rfl) rfl rfl ?_
        refine X_alloc Try.zeroValue67 rfl fun b7 => ?_
        (first | refine X_store 0 (v := .agg _) rfl rfl Try.sizeOf67 rfl rfl rfl rfl ?_ | refine X_store 1 (v := .agg _) rfl rfl Try.sizeOf67 rfl rfl rfl rfl ?_ | refine X_store 2 (v := .agg _) rfl rfl Try.sizeOf67 rfl rfl rfl rfl ?_ | refine X_store 3 (v := .agg _) rfl rfl Try.sizeOf67 rfl rfl rfl rfl ?_ | refine X_store 4 (v := .agg _) rfl rfl Try.sizeOf67 rfl rfl rfl rfl ?_ | refine X_store 5 (v := .agg _) rfl rfl Try.sizeOf67 rfl rfl rfl rfl ?_ | refine X_store 6 (v := .agg _) rfl rfl Try.sizeOf67 rfl rfl rfl rfl ?_ | refine X_store 7 (v := .agg _) rfl rfl Try.sizeOf67 rfl rfl rfl rfl ?_ | refine X_store 8 (v := .agg _) rfl rfl Try.sizeOf67 rfl rfl rfl rfl ?_)
        refine XN ?_
        refine thenJ_normal ?_
        refine H_seq ?_
        refine R0 ?_
        refine xV (e_mv (q0 rfl)) rfl rfl ?_
        refine xV (e_lds Try.isAgg67 Try.sizeOf67 (q0 rfl) (by first | exact bxs 0 rfl | exact bxs 1 rfl | exact bxs 2 rfl | exact bxs 3 rfl | exact bxs 4 rfl | exact bxs 5 rfl | exact bxs 6 rfl | exact bxs 7 rfl | exact bxs 8 rfl | exact bxs 9 rfl | exact rcs ‹_› ‹_› | exact rrs 0 rfl ‹_› | exact rrs 1 rfl ‹_› | exact rrs 2 rfl ‹_› | exact rrs 3 rfl ‹_› | exact rrs 4 rfl ‹_› | exact rrs 5 rfl ‹_› | exact rrs 6 rfl ‹_› | exact rrs 7 rfl ‹_›) rfl) rfl rfl ?_
        refine xC (enV eg (q0 rfl) (fun _ => rfl)) (fun _ w hw => hcl y [_, _] w hw) rfl rfl ?_
        refine xV (e_not (q0 rfl)) rfl rfl ?_
        refine XN ?_
        refine thenJ_normal ?_
        refine H_cond rfl (fun hb => ?_) (fun hb => ?_)
        · have hb' : p y = false := by simpa using hb
          refine H_seq ?_
          refine R0 ?_
          refine xV (e_mv (v := .slice _ _ _) (q0 rfl)) rfl rfl ?_
          refine xV (e_mv (v := .int _ _) (q0 rfl)) rfl rfl ?_
          refine xV (e_lds Try.isAgg67 Try.sizeOf67 (q0 rfl) (by first | exact bxs 0 rfl | exact bxs 1 rfl | exact bxs 2 rfl | exact bxs 3 rfl | exact bxs 4 rfl | exact bxs 5 rfl | exact bxs 6 rfl | exact bxs 7 rfl | exact bxs 8 rfl | exact bxs 9 rfl | exact rcs ‹_› ‹_› | exact rrs 0 rfl ‹_› | exact rrs 1 rfl ‹_› | exact rrs 2 rfl ‹_› | exact rrs 3 rfl ‹_› | exact rrs 4 rfl ‹_› | exact rrs 5 rfl ‹_› | exact rrs 6 rfl ‹_› | exact rrs 7 rfl ‹_›) rfl) rfl rfl ?_
          refine xV (e_idx _ Try.underlying25 Try.sizeOf67 (q0 rfl) (q0 rfl) (fun _ => ⟨rfl, by omega⟩)) rfl rfl ?_
          refine X_eff (f_storeR0 1 y rfl rfl Try.sizeOf67 rfl rfl rfl hq rfl rfl ?_)
          refine XN ?_
          refine thenJ_normal ?_
          refine R0 ?_
          refine xV (e_mv (v := .int _ _) (q0 rfl)) rfl rfl ?_
          refine xV (e_add (q0 rfl) (q0 rfl) (fun _ => ⟨rfl, by omega, by omega⟩)) rfl rfl ?_
          refine xV (e_as (v := .int _ _) (q0 rfl)) rfl rfl ?_
          refine XN ?_
          refine blockJ_normal ?_
          refine thenJ_normal ?_
          refine R0 ?_
          refine xV (e_mv (v := .int _ _) (q0 rfl)) rfl rfl ?_
          refine xV (e_add (q0 rfl) (q0 rfl) (fun _ => ⟨rfl, by omega, by omega⟩)) rfl rfl ?_
          refine xV (e_as (v := .int _ _) (q0 rfl)) rfl rfl ?_
          refine XN ?_
          exact loopJ_normal (s.1 + 1, s.2.1 + 1, s.2.2.set s.1 y) (by repeat (first | exact agree_self | exact agree_over | refine agree_upd rfl ?_ | refine agree_updL rfl ?_ | refine agree_over2 rfl ?_)) ⟨rfl, rfl, trivial⟩ (fun _ h => h.tail) rfl ⟨by show s.1 + 1 < s.2.1 + 1; omega, by show s.2.1 + 1 ≤ _; omega, by simpa using hyl, by
            show (s.2.2.set s.1 y).drop (s.2.1 + 1) = _
            rw [List.drop_set_of_lt (by omega)]; exact hdd, by
            show (s.2.2.set s.1 y).take (s.1 + 1) = _
            rw [take_snoc _ _ _ hy, List.filter_append, ← hyt, List.take_add_one, List.take_set_of_le (by omega), List.getElem?_set_self (by omega)]
            simp [hb']⟩ (by show xs.length - (s.2.1 + 1) < xs.length - s.2.1; omega)
        · have hb' : p y = true := by simpa using hb
          refine H_skip ?_
          refine blockJ_normal ?_
          refine thenJ_normal ?_
          refine R0 ?_
          refine xV (e_mv (v := .int _ _) (q0 rfl)) rfl rfl ?_
          refine xV (e_add (q0 rfl) (q0 rfl) (fun _ => ⟨rfl, by omega, by omega⟩)) rfl rfl ?_
          refine xV (e_as (v := .int _ _) (q0 rfl)) rfl rfl ?_
          refine XN ?_
          exact loopJ_normal (s.1, s.2.1 + 1, s.2.2) (by repeat (first | exact agree_self | exact agree_over | refine agree_upd rfl ?_ | refine agree_updL rfl ?_ | refine agree_over2 rfl ?_)) ⟨rfl, rfl, trivial⟩ (fun _ h => h.tail) rfl ⟨by show s.1 < s.2.1 + 1; omega, by show s.2.1 + 1 ≤ _; omega, hyl, hdd, by
            show s.2.2.take s.1 = _
            rw [take_snoc _ _ _ hy, List.filter_append, ← hyt]
            simp [hb']⟩ (by show xs.length - (s.2.1 + 1) < xs.length - s.2.1; omega)
      · have hend : s.2.1 = xs.length := by simp at hlt; omega
        have hfl : xs.filter (fun x => !p x) = s.2.2.take s.1 := by rw [hyt, hend, List.take_length]
        refine H_exit ?_
        refine thenJ_exit ?_
        refine loopJ_exit ?_
        refine blockJ_hit ?_
        refine thenJ_normal ?_
        refine H_seq ?_
        refine R0 ?_
        refine xV (e_mv (v := .slice _ _ _) (q0 rfl)) rfl rfl ?_
        refine xV (e_mv (v := .int _ _) (q0 rfl)) rfl rfl ?_
        refine xV (e_slLo _ Try.underlying25 Try.sizeOf67 (q0 rfl) (q0 rfl) (fun _ => ⟨rfl, by omega, by omega⟩)) rfl rfl ?_
        refine X_eff (f_clearR (i := s.1) (k := 9) 0 Try.underlying25 Try.zeroValue67 rfl rfl rfl rfl ⟨by omega, by omega⟩ ?_)
        refine XN ?_
        refine thenJ_normal ?_
        refine H_seq ?_
        refine R0 ?_
        refine xV (e_mv (v := .slice _ _ _) (q0 rfl)) rfl rfl ?_
        refine xV (e_mv (v := .int _ _) (q0 rfl)) rfl rfl ?_
        refine xV (e_slHi _ Try.underlying25 Try.sizeOf67 (q0 rfl) (q0 rfl) (fun _ => ⟨rfl, by omega⟩)) rfl rfl ?_
        refine xV (e_as (v := .slice _ _ _) (q0 rfl)) rfl rfl ?_
        refine XN ?_
        refine thenJ_normal ?_
        refine H_ret ?_
        exact ret1 (v := .slice _ _ _) rfl rfl hmk fun w' hw => ⟨(), by rw [hfl, List.length_take, Nat.min_eq_left (by omega)], by rw [hfl]; exact hw⟩


end Go.Proofs.Cus
