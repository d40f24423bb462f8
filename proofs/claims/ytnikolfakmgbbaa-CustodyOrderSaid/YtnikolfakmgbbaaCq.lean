/-
  The walks: stays and loads.
-/
import Derived.Test.YtnikolfakmgbbaaCp
namespace Go.Proofs.Cus
open Go Go.RowKit Go.Proofs.E

def stayErr (f : Fl) (bike : Int) : Int := if flErr f ≠ 0 then flErr f else if (decide (bike < 0) || decide (f.bikes ≤ bike)) = true then 7 else 0
def staysOf (f : Fl) (xs : List Ev) (bike : Int) : List Sty := if stayErr f bike = 0 then (endS 4294944000 (runR f (stayCb bike.toNat) (setOf xs) (beginP (nbOf f), (stay0 bike.toNat, []))).2).2 else []
theorem stay_bound {f : Fl} {k : Nat} : ∀ (l : List Ev) (x : PS × (Sty × List Sty)), (runR f (stayCb k) l x).2.2.length ≤ x.2.2.length + l.length
  | [], x => by simp [runR]
  | e :: l, x => by
    have h1 := stay_bound (f := f) (k := k) l (tellR (stayCb k) x.2 e (stepR f x.1 e))
    have h2 : (tellR (stayCb k) x.2 e (stepR f x.1 e)).2.2.length ≤ x.2.2.length + 1 := by
      unfold tellR
      split
      · simp
      · unfold stayCb
        simp only
        split
        · exact endS_len _ _
        · omega
    show (runR f (stayCb k) l _).2.2.length ≤ _
    simp only [List.length_cons]
    omega
set_option maxRecDepth 20000 in
theorem stays_w (f : Fl) (a : FA) (A : Option Addr) (n c : Nat) (xs : List Ev) (bike : Int) (w : World) (hf : FlAt w f a) (hx : EvsAt w A n xs) (hn : n ≤ 10000) (hpl : PlOk xs) :
    Calls Try.prog 25 #[.agg (f.cells a).toArray, .slice A n c, .int .i64 bike] w fun r w' => ∃ x : Option Addr × Nat, r = .returned (.tuple #[.slice x.1 (staysOf f xs bike).length x.2, .int .i64 (stayErr f bike)]) ∧ Mem w [styRow x.1 x.2 (staysOf f xs bike)] w' := by
  have hxl := hx.1
  have hsl := setOf_len xs
  refine H_enter Try.func25 rfl Try.ntmps25 rfl ?_
  refine H_seq ?_
  refine R0 ?_
  refine X_box (v := .agg _) rfl rfl fun b3 => ?_
  refine X_box (v := .int _ _) rfl rfl fun b5 => ?_
  refine xV (e_as (v := .slice _ _ _) (q0 rfl)) rfl rfl ?_
  refine xV (e_as (v := .int _ _) (q0 rfl)) rfl rfl ?_
  refine XN ?_
  refine thenJ_normal ?_
  refine H_seq ?_
  refine H_seq ?_
  refine R0 ?_
  refine xV (e_lds Try.isAgg24 Try.sizeOf24 (q0 rfl) (by first | exact bxs 0 rfl | exact bxs 1 rfl | exact bxs 2 rfl | exact bxs 3 rfl | exact bxs 4 rfl | exact bxs 5 rfl | exact bxs 6 rfl | exact bxs 7 rfl | exact bxs 8 rfl | exact bxs 9 rfl | exact rcs ‹_› ‹_› | exact rrs 0 rfl ‹_› | exact rrs 1 rfl ‹_› | exact rrs 2 rfl ‹_› | exact rrs 3 rfl ‹_› | exact rrs 4 rfl ‹_› | exact rrs 5 rfl ‹_› | exact rrs 6 rfl ‹_› | exact rrs 7 rfl ‹_›) rfl) rfl rfl ?_
  refine xC (en Try.call42 (ha1 (q0 rfl))) (fun _ w hm => fleet_w f a w (hf.mem hm)) rfl rfl ?_
  refine xV (e_as (v := .int _ _) (q0 rfl)) rfl rfl ?_
  refine XN ?_
  refine thenJ_normal ?_
  refine H_seq ?_
  refine R0 ?_
  refine xV (e_mv (v := .int _ _) (q0 rfl)) rfl rfl ?_
  refine xV (e_ne (q0 rfl) (q0 rfl)) rfl rfl ?_
  refine XN ?_
  refine thenJ_normal ?_
  refine H_cond rfl (fun h1 => ?_) (fun h1 => ?_)
  · have h1' : flErr f ≠ 0 := by simpa using h1
    have he : stayErr f bike = flErr f := by unfold stayErr; rw [if_pos h1']
    have ho : staysOf f xs bike = [] := by unfold staysOf; rw [he, if_neg h1']
    rw [he, ho]
    refine H_seq ?_
    refine R0 ?_
    refine xV (e_mv (v := .int _ _) (q0 rfl)) rfl rfl ?_
    refine xV (e_as (v := .slice _ _ _) (q0 rfl)) rfl rfl ?_
    refine xV (e_as (v := .int _ _) (q0 rfl)) rfl rfl ?_
    refine XN ?_
    refine thenJ_normal ?_
    refine H_ret ?_
    refine thenJ_ret ?_
    exact ret2 (v := .slice _ _ _) (x := .int _ _) rfl rfl rfl rfl fun w' hw => ⟨(none, 0), rfl, (mem_nil.2 hw.1).nilRow _ _ _ rfl⟩
  · have h1' : flErr f = 0 := by simpa using h1
    obtain ⟨hbk, -⟩ := flErr_ok h1'
    have hnb := nb_eq h1'
    refine H_skip ?_
    refine thenJ_normal ?_
    refine H_seq ?_
    refine H_seq ?_
    refine R0 ?_
    refine xV (e_ld Try.isAgg3 (q0 rfl) (by first | exact bx 0 rfl rfl | exact bx 1 rfl rfl | exact bx 2 rfl rfl | exact bx 3 rfl rfl | exact bx 4 rfl rfl | exact bx 5 rfl rfl | exact bx 6 rfl rfl | exact bx 7 rfl rfl | exact bx 8 rfl rfl | exact bx 9 rfl rfl | exact rc ‹_› ‹_› rfl | exact rc0 ‹_› ‹_› rfl | exact xc ‹_› ‹_› | exact rr 0 rfl ‹_› rfl | exact rr0 0 rfl ‹_› rfl | exact rr 1 rfl ‹_› rfl | exact rr0 1 rfl ‹_› rfl | exact rr 2 rfl ‹_› rfl | exact rr0 2 rfl ‹_› rfl | exact rr 3 rfl ‹_› rfl | exact rr0 3 rfl ‹_› rfl | exact rr 4 rfl ‹_› rfl | exact rr0 4 rfl ‹_› rfl | exact rr 5 rfl ‹_› rfl | exact rr0 5 rfl ‹_› rfl | exact rr 6 rfl ‹_› rfl | exact rr0 6 rfl ‹_› rfl | exact rr 7 rfl ‹_› rfl | exact rr0 7 rfl ‹_› rfl)) rfl rfl ?_
    refine xV (e_lt (q0 rfl) (q0 rfl)) rfl rfl ?_
    refine xV (e_mv (v := .bool _) (q0 rfl)) rfl rfl ?_
    refine xVF (e_ld Try.isAgg3 (q0 rfl) (by first | exact bx 0 rfl rfl | exact bx 1 rfl rfl | exact bx 2 rfl rfl | exact bx 3 rfl rfl | exact bx 4 rfl rfl | exact bx 5 rfl rfl | exact bx 6 rfl rfl | exact bx 7 rfl rfl | exact bx 8 rfl rfl | exact bx 9 rfl rfl | exact rc ‹_› ‹_› rfl | exact rc0 ‹_› ‹_› rfl | exact xc ‹_› ‹_› | exact rr 0 rfl ‹_› rfl | exact rr0 0 rfl ‹_› rfl | exact rr 1 rfl ‹_› rfl | exact rr0 1 rfl ‹_› rfl | exact rr 2 rfl ‹_› rfl | exact rr0 2 rfl ‹_› rfl | exact rr 3 rfl ‹_› rfl | exact rr0 3 rfl ‹_› rfl | exact rr 4 rfl ‹_› rfl | exact rr0 4 rfl ‹_› rfl | exact rr 5 rfl ‹_› rfl | exact rr0 5 rfl ‹_› rfl | exact rr 6 rfl ‹_› rfl | exact rr0 6 rfl ‹_› rfl | exact rr 7 rfl ‹_› rfl | exact rr0 7 rfl ‹_› rfl)) rfl rfl rfl rfl ?_
    refine xVF (e_fld Try.underlying24 rfl Try.sizeOf3 rfl (q0 rfl)) rfl rfl rfl rfl ?_
    refine xVF (e_ld Try.isAgg3 (q1 rfl) (by first | exact bx 0 rfl rfl | exact bx 1 rfl rfl | exact bx 2 rfl rfl | exact bx 3 rfl rfl | exact bx 4 rfl rfl | exact bx 5 rfl rfl | exact bx 6 rfl rfl | exact bx 7 rfl rfl | exact bx 8 rfl rfl | exact bx 9 rfl rfl | exact rc ‹_› ‹_› rfl | exact rc0 ‹_› ‹_› rfl | exact xc ‹_› ‹_› | exact rr 0 rfl ‹_› rfl | exact rr0 0 rfl ‹_› rfl | exact rr 1 rfl ‹_› rfl | exact rr0 1 rfl ‹_› rfl | exact rr 2 rfl ‹_› rfl | exact rr0 2 rfl ‹_› rfl | exact rr 3 rfl ‹_› rfl | exact rr0 3 rfl ‹_› rfl | exact rr 4 rfl ‹_› rfl | exact rr0 4 rfl ‹_› rfl | exact rr 5 rfl ‹_› rfl | exact rr0 5 rfl ‹_› rfl | exact rr 6 rfl ‹_› rfl | exact rr0 6 rfl ‹_› rfl | exact rr 7 rfl ‹_› rfl | exact rr0 7 rfl ‹_› rfl)) rfl rfl rfl rfl ?_
    refine xVF (e_ge (q1 rfl) (q1 rfl)) rfl rfl rfl rfl ?_
    refine xV (e_or (q0 rfl) rfl (fun h => by first | rfl | (rw [h]; rfl))) rfl rfl ?_
    refine XN ?_
    refine thenJ_normal ?_
    refine H_cond rfl (fun h2 => ?_) (fun h2 => ?_)
    · have he : stayErr f bike = 7 := by unfold stayErr; rw [if_neg (by simp [h1']), if_pos h2]
      have ho : staysOf f xs bike = [] := by unfold staysOf; rw [he, if_neg (by decide)]
      rw [he, ho]
      refine H_seq ?_
      refine R0 ?_
      refine xV (e_as (v := .slice _ _ _) (q0 rfl)) rfl rfl ?_
      refine xV (e_as (v := .int _ _) (q0 rfl)) rfl rfl ?_
      refine XN ?_
      refine thenJ_normal ?_
      refine H_ret ?_
      refine thenJ_ret ?_
      exact ret2 (v := .slice _ _ _) (x := .int _ _) rfl rfl rfl rfl fun w' hw => ⟨(none, 0), rfl, (mem_nil.2 hw.1).nilRow _ _ _ rfl⟩
    · have he : stayErr f bike = 0 := by unfold stayErr; rw [if_neg (by simp [h1']), if_neg (by rw [h2]; decide)]
      have hb0 : 0 ≤ bike ∧ bike < f.bikes := by simp at h2; omega
      obtain ⟨k, hk⟩ : ∃ k : Nat, bike = k := ⟨bike.toNat, by omega⟩
      subst hk
      have ho : staysOf f xs k = (endS 4294944000 (runR f (stayCb k) (setOf xs) (beginP (nbOf f), (stay0 k, []))).2).2 := by unfold staysOf; rw [if_pos he, Int.toNat_natCast]
      have hbd := stay_bound (f := f) (k := k) (setOf xs) (beginP (nbOf f), (stay0 k, []))
      simp only [List.length_nil] at hbd
      rw [he, ho]
      refine H_skip ?_
      refine thenJ_normal ?_
      refine H_seq ?_
      refine R0 ?_
      refine xV (e_ld Try.isAgg3 (q0 rfl) (by first | exact bx 0 rfl rfl | exact bx 1 rfl rfl | exact bx 2 rfl rfl | exact bx 3 rfl rfl | exact bx 4 rfl rfl | exact bx 5 rfl rfl | exact bx 6 rfl rfl | exact bx 7 rfl rfl | exact bx 8 rfl rfl | exact bx 9 rfl rfl | exact rc ‹_› ‹_› rfl | exact rc0 ‹_› ‹_› rfl | exact xc ‹_› ‹_› | exact rr 0 rfl ‹_› rfl | exact rr0 0 rfl ‹_› rfl | exact rr 1 rfl ‹_› rfl | exact rr0 1 rfl ‹_› rfl | exact rr 2 rfl ‹_› rfl | exact rr0 2 rfl ‹_› rfl | exact rr 3 rfl ‹_› rfl | exact rr0 3 rfl ‹_› rfl | exact rr 4 rfl ‹_› rfl | exact rr0 4 rfl ‹_› rfl | exact rr 5 rfl ‹_› rfl | exact rr0 5 rfl ‹_› rfl | exact rr 6 rfl ‹_› rfl | exact rr0 6 rfl ‹_› rfl | exact rr 7 rfl ‹_› rfl | exact rr0 7 rfl ‹_› rfl)) rfl rfl ?_
      refine xV (e_build Try.underlying57 fl57 Try.zeroValue57 (pt (v := .int _ _) rfl (pt (v := .int _ _) rfl E.p0)) rfl) rfl rfl ?_
      refine X_alloc Try.zeroValue57 rfl fun b9 => ?_
      (first | refine X_store 0 (v := .agg _) rfl rfl Try.sizeOf57 rfl rfl rfl rfl ?_ | refine X_store 1 (v := .agg _) rfl rfl Try.sizeOf57 rfl rfl rfl rfl ?_ | refine X_store 2 (v := .agg _) rfl rfl Try.sizeOf57 rfl rfl rfl rfl ?_ | refine X_store 3 (v := .agg _) rfl rfl Try.sizeOf57 rfl rfl rfl rfl ?_ | refine X_store 4 (v := .agg _) rfl rfl Try.sizeOf57 rfl rfl rfl rfl ?_ | refine X_store 5 (v := .agg _) rfl rfl Try.sizeOf57 rfl rfl rfl rfl ?_ | refine X_store 6 (v := .agg _) rfl rfl Try.sizeOf57 rfl rfl rfl rfl ?_ | refine X_store 7 (v := .agg _) rfl rfl Try.sizeOf57 rfl rfl rfl rfl ?_ | refine X_store 8 (v := .agg _) rfl rfl Try.sizeOf57 rfl rfl rfl rfl ?_)
      refine XN ?_
      refine thenJ_normal ?_
      refine H_seq ?_
      refine R0 ?_
      refine X_alloc Try.zeroValue46 rfl fun b10 => ?_
      refine XN ?_
      refine thenJ_normal ?_
      refine H_seq ?_
      refine R0 ?_
      refine xV e_fn rfl rfl ?_
      refine X_alloc Try.zeroValue90 rfl fun b11 => ?_
      (first | refine X_store 0 rfl rfl Try.sizeOf90 rfl rfl rfl rfl ?_ | refine X_store 1 rfl rfl Try.sizeOf90 rfl rfl rfl rfl ?_ | refine X_store 2 rfl rfl Try.sizeOf90 rfl rfl rfl rfl ?_ | refine X_store 3 rfl rfl Try.sizeOf90 rfl rfl rfl rfl ?_ | refine X_store 4 rfl rfl Try.sizeOf90 rfl rfl rfl rfl ?_ | refine X_store 5 rfl rfl Try.sizeOf90 rfl rfl rfl rfl ?_ | refine X_store 6 rfl rfl Try.sizeOf90 rfl rfl rfl rfl ?_ | refine X_store 7 rfl rfl Try.sizeOf90 rfl rfl rfl rfl ?_ | refine X_store 8 rfl rfl Try.sizeOf90 rfl rfl rfl rfl ?_)
      refine XN ?_
      refine thenJ_normal ?_
      refine H_seq ?_
      refine R0 ?_
      refine xV (e_lds Try.isAgg24 Try.sizeOf24 (q0 rfl) (by first | exact bxs 0 rfl | exact bxs 1 rfl | exact bxs 2 rfl | exact bxs 3 rfl | exact bxs 4 rfl | exact bxs 5 rfl | exact bxs 6 rfl | exact bxs 7 rfl | exact bxs 8 rfl | exact bxs 9 rfl | exact rcs ‹_› ‹_› | exact rrs 0 rfl ‹_› | exact rrs 1 rfl ‹_› | exact rrs 2 rfl ‹_› | exact rrs 3 rfl ‹_› | exact rrs 4 rfl ‹_› | exact rrs 5 rfl ‹_› | exact rrs 6 rfl ‹_› | exact rrs 7 rfl ‹_›) rfl) rfl rfl ?_
      refine xV (e_mv (v := .slice _ _ _) (q0 rfl)) rfl rfl ?_
      refine xV e_fn rfl rfl ?_
      refine X_eff (f_callM (en Try.call37 (ha3 (q0 rfl) (q0 rfl) (q0 rfl))) (fun w hw => run_w f a A n c (nbOf f) xs (some (47, [.pointer (some ⟨b5, 0, none⟩), .pointer (some ⟨b9, 0, none⟩), .pointer (some ⟨b11, 0, none⟩)])) (stayCb k) (stayCI b9 b10 b5 b11 k) (fun k z => z.2.length ≤ k) (stay_cb f a (nbOf f) b9 b10 b5 b11 k (by omega)) (fun _ _ h => Nat.le_succ_of_le h) (z0 := (stay0 k, [])) (x0 := (none, 0)) ((hw.nilRow _ _ _ rfl).pick [3, 2, 0, 4, 1, 5] (by decide)) rfl (fun _ _ => rfl) (Nat.le_refl _) hf hx hn h1' hnb hpl) rfl (fun _ => rfl) fun y => ?_)
      obtain ⟨⟨s, t, x⟩, hsn, htp⟩ := y
      generalize (runR f (stayCb k) (setOf xs) (beginP (nbOf f), (stay0 k, []))).2 = z at *
      obtain ⟨now, out⟩ := z
      simp only at hbd
      refine xV (e_mv (q0 rfl)) rfl rfl ?_
      refine xV (e_ext (q0 rfl) rfl) rfl rfl ?_
      refine xV (e_ext (q0 rfl) rfl) rfl rfl ?_
      refine xV (e_as (v := .pointer _) (q0 rfl)) rfl rfl ?_
      refine xV (e_as (v := .int _ _) (q0 rfl)) rfl rfl ?_
      refine XN ?_
      refine thenJ_normal ?_
      refine H_seq ?_
      refine R0 ?_
      refine xV (e_ld Try.isAgg90 (q0 rfl) (by first | exact bx 0 rfl rfl | exact bx 1 rfl rfl | exact bx 2 rfl rfl | exact bx 3 rfl rfl | exact bx 4 rfl rfl | exact bx 5 rfl rfl | exact bx 6 rfl rfl | exact bx 7 rfl rfl | exact bx 8 rfl rfl | exact bx 9 rfl rfl | exact rc ‹_› ‹_› rfl | exact rc0 ‹_› ‹_› rfl | exact xc ‹_› ‹_› | exact rr 0 rfl ‹_› rfl | exact rr0 0 rfl ‹_› rfl | exact rr 1 rfl ‹_› rfl | exact rr0 1 rfl ‹_› rfl | exact rr 2 rfl ‹_› rfl | exact rr0 2 rfl ‹_› rfl | exact rr 3 rfl ‹_› rfl | exact rr0 3 rfl ‹_› rfl | exact rr 4 rfl ‹_› rfl | exact rr0 4 rfl ‹_› rfl | exact rr 5 rfl ‹_› rfl | exact rr0 5 rfl ‹_› rfl | exact rr 6 rfl ‹_› rfl | exact rr0 6 rfl ‹_› rfl | exact rr 7 rfl ‹_› rfl | exact rr0 7 rfl ‹_› rfl)) rfl rfl ?_
      refine X_eff (f_callM (enV Try.call46 (q0 rfl) (fun _ => rfl)) (fun w hw => end_w (now := now) (out := out) (x := x) (L := [_, _, _, _, _, _, _]) 4294944000 (Mem.rot (X := [_, _, _, _]) (S := endCI b9 b10 now out x) (L := [_, _, _]) hw) (by rfl) (by omega)) rfl (fun _ => rfl) fun x' => ?_)
      refine XN ?_
      refine thenJ_normal ?_
      refine H_seq ?_
      refine R0 ?_
      refine xV (e_ld Try.isAgg46 (q0 rfl) (by first | exact bx 0 rfl rfl | exact bx 1 rfl rfl | exact bx 2 rfl rfl | exact bx 3 rfl rfl | exact bx 4 rfl rfl | exact bx 5 rfl rfl | exact bx 6 rfl rfl | exact bx 7 rfl rfl | exact bx 8 rfl rfl | exact bx 9 rfl rfl | exact rc ‹_› ‹_› rfl | exact rc0 ‹_› ‹_› rfl | exact xc ‹_› ‹_› | exact rr 0 rfl ‹_› rfl | exact rr0 0 rfl ‹_› rfl | exact rr 1 rfl ‹_› rfl | exact rr0 1 rfl ‹_› rfl | exact rr 2 rfl ‹_› rfl | exact rr0 2 rfl ‹_› rfl | exact rr 3 rfl ‹_› rfl | exact rr0 3 rfl ‹_› rfl | exact rr 4 rfl ‹_› rfl | exact rr0 4 rfl ‹_› rfl | exact rr 5 rfl ‹_› rfl | exact rr0 5 rfl ‹_› rfl | exact rr 6 rfl ‹_› rfl | exact rr0 6 rfl ‹_› rfl | exact rr 7 rfl ‹_› rfl | exact rr0 7 rfl ‹_› rfl)) rfl rfl ?_
      refine xV (e_mv (v := .int _ _) (q0 rfl)) rfl rfl ?_
      refine xV (e_as (v := .slice _ _ _) (q0 rfl)) rfl rfl ?_
      refine xV (e_as (v := .int _ _) (q0 rfl)) rfl rfl ?_
      refine XN ?_
      refine thenJ_normal ?_
      refine H_ret ?_
      exact ret2 (v := .slice _ _ _) (x := .int _ _) rfl rfl rfl rfl fun w' hw => ⟨x', rfl, hw.pick [2] (by decide)⟩

end Go.Proofs.Cus
