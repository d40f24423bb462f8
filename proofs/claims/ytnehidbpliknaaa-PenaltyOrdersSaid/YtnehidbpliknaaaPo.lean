/-
  The walk of the law Orders.
-/
import Derived.Test.YtnehidbpliknaaaPy
import Derived.Test.YtnehidbpliknaaaPs
import Derived.Test.YtnehidbpliknaaaEo
namespace Go.Proofs.Pen
open Go Go.RowKit Go.Proofs.E

/-! the plain law -/
theorem vErrL_zero : ∀ (l seen : List V), (∀ x ∈ l, vBad x = 0) → (∀ x ∈ l, hasRide seen x.ride = false) → l.Pairwise (fun a b => a.ride ≠ b.ride) → vErrL seen l = 0
  | [], _, _, _, _ => rfl
  | v :: l, seen, h1, h2, h3 => by
    obtain ⟨h4, h5⟩ := List.pairwise_cons.1 h3
    have hv : vOne seen v = 0 := by unfold vOne; rw [if_neg (by simpa using h1 v (by simp)), h2 v (by simp)]; rfl
    simp only [vErrL]
    rw [if_neg (by simpa using hv)]
    refine vErrL_zero l (seen ++ [v]) (fun x hx => h1 x (by simp [hx])) (fun x hx => ?_) h5
    have e1 := h2 x (by simp [hx])
    have e2 := h4 x hx
    simp [hasRide] at e1 ⊢
    exact ⟨e1, e2⟩
theorem vErr_zero {l : List V} (h0 : l.length ≤ 256) (h1 : ∀ x ∈ l, vBad x = 0) (h3 : l.Pairwise (fun a b => a.ride ≠ b.ride)) : vErr l = 0 := by
  unfold vErr
  rw [if_neg (by omega)]
  exact vErrL_zero l [] h1 (fun x _ => rfl) h3
theorem vErr_rev {l : List V} (h : vErr l = 0) : vErr l.reverse = 0 := by
  obtain ⟨h0, h1⟩ := vErr_ok h
  refine vErr_zero (by simpa using h0) (fun x hx => h1 x (by simpa using hx)) ?_
  exact List.pairwise_reverse.2 (List.pairwise_iff_getElem.2 fun i j hi hj hij => (List.pairwise_iff_getElem.1 (uniq_of h) i j hi hj hij).symm)
theorem cErr_rev {fines : List Int} {d : Int} {l : List V} (h : cErr fines d l = 0) : cErr fines d l.reverse = 0 := by
  obtain ⟨h1, h2⟩ := cErr_ok h
  rw [cErr_v h1]; exact vErr_rev h2
theorem num_rev {d : Int} {l : List V} {v : V} : num d l.reverse v = num d l v := by
  unfold num cnt; rw [List.filter_reverse, List.length_reverse]
theorem fine_rev {fines : List Int} {d : Int} {l : List V} {v : V} : fine fines d l.reverse v = fine fines d l v := by
  unfold fine; rw [num_rev]
theorem num_more {d : Int} {l : List V} {v m : V} (h : ¬ (m.rider = v.rider ∧ m.kind = 2)) : num d (l ++ [m]) v = num d l v := by
  have : hit d v m = false := by
    simp only [hit]
    cases h1 : (m.rider == v.rider && m.kind == 2) with
    | false => rfl
    | true => simp at h1; exact absurd h1 h
  unfold num cnt
  rw [List.filter_append]
  simp [this]
theorem fineR_cases {fines : List Int} {days : Int} {vs : List V} {i : Int} : (∃ e, ¬ e = 0 ∧ fineR fines days vs i = (0, e)) ∨ ∃ (k : Nat) (v : V), i = k ∧ cErr fines days vs = 0 ∧ vs[k]? = some v ∧ fineR fines days vs i = (fine fines days vs v, 0) := by
  by_cases hc : cErr fines days vs = 0
  · by_cases hi : i < 0 ∨ (vs.length : Int) ≤ i
    · exact .inl ⟨7, by decide, by unfold fineR; rw [if_neg (by simpa using hc), if_pos hi]⟩
    · obtain ⟨k, rfl⟩ := Int.eq_ofNat_of_zero_le (show 0 ≤ i by omega)
      have hk : k < vs.length := by omega
      exact .inr ⟨k, vs[k], rfl, hc, List.getElem?_eq_getElem hk, by
        unfold fineR
        rw [if_neg (by simpa using hc), if_neg (by omega), List.getD_eq_getElem?_getD, Int.toNat_natCast, List.getElem?_eq_getElem hk]
        rfl⟩
  · exact .inl ⟨_, hc, fineR_err rfl hc⟩
def backTo (l : List V) (j : Nat) : List V := l.reverse.take j
theorem backTo_succ {l : List V} {j k : Nat} {x : V} (hk : l[k]? = some x) (h : k + j + 1 = l.length) : backTo l (j + 1) = backTo l j ++ [x] := by
  unfold backTo
  exact take_snoc _ _ _ (by rw [List.getElem?_reverse (by omega)]; rw [show l.length - 1 - j = k by omega]; exact hk)
theorem backTo_len {l : List V} {j : Nat} (h : j ≤ l.length) : (backTo l j).length = j := by unfold backTo; simp; omega
theorem backTo_all {l : List V} {j : Nat} (h : l.length ≤ j) : backTo l j = l.reverse := by unfold backTo; rw [List.take_of_length_le (by simpa using h)]

attribute [local irreducible] pErr vErr cErr numR fineR totalR sumF fine num cnt before backTo

theorem orders_w (p0 p1 p2 p3 : Option Addr × Nat × Nat) (p4 : Int) (fA : Option Addr) (fn fc : Nat) (fines : List Int) (days : Int) (A : Option Addr) (n c : Nat) (vs : List V) (i : Int) (mv : V) (w : World) (hf : IntsAt w fA fn fines) (hx : VsAt w A n vs) :
    Calls Try.prog 7 #[.agg #[(sl p0), (sl p1), (sl p2), (sl p3), (.int .i64 p4), .slice fA fn fc, .int .i64 days], .agg #[.slice A n c, .int .i64 i], .agg mv.cells.toArray] w fun e w' => e = .returned (.bool true) ∧ Below w.heap.size w w' := by
  have hl := hx.1
  refine H_enter Try.func7 rfl Try.ntmps7 rfl ?_
  refine H_seq ?_
  refine R0 ?_
  refine X_box (v := .agg _) rfl rfl fun b3 => ?_
  refine X_box (v := .agg _) rfl rfl fun b4 => ?_
  refine X_box (v := .agg _) rfl rfl fun b5 => ?_
  refine xV (e_as (v := .bool _) (q0 rfl)) rfl rfl ?_
  refine XN ?_
  refine thenJ_normal ?_
  refine H_seq ?_
  refine R1 rfl (by decide +kernel) ?_
  refine xV (e_fld Try.underlying40 rfl Try.sizeOf27 rfl (q0 rfl)) rfl rfl ?_
  refine xV (e_ld Try.isAgg27 (q0 rfl) (by first | exact bx 0 rfl rfl | exact bx 1 rfl rfl | exact bx 2 rfl rfl | exact bx 3 rfl rfl | exact bx 4 rfl rfl | exact bx 5 rfl rfl | exact bx 6 rfl rfl | exact bx 7 rfl rfl | exact bx 8 rfl rfl | exact bx 9 rfl rfl | exact rc ‹_› ‹_› rfl | exact rc0 ‹_› ‹_› rfl | exact xc ‹_› ‹_›)) rfl rfl ?_
  refine xV (e_fld Try.underlying40 rfl Try.sizeOf3 rfl (q0 rfl)) rfl rfl ?_
  refine xV (e_ld Try.isAgg3 (q0 rfl) (by first | exact bx 0 rfl rfl | exact bx 1 rfl rfl | exact bx 2 rfl rfl | exact bx 3 rfl rfl | exact bx 4 rfl rfl | exact bx 5 rfl rfl | exact bx 6 rfl rfl | exact bx 7 rfl rfl | exact bx 8 rfl rfl | exact bx 9 rfl rfl | exact rc ‹_› ‹_› rfl | exact rc0 ‹_› ‹_› rfl | exact xc ‹_› ‹_›)) rfl rfl ?_
  refine xV (e_as (v := .slice _ _ _) (q0 rfl)) rfl rfl ?_
  refine xV (e_as (v := .int _ _) (q0 rfl)) rfl rfl ?_
  refine XN ?_
  refine thenJ_normal ?_
  refine H_seq ?_
  refine H_seq ?_
  refine R0 ?_
  refine xV (e_mv (v := .slice _ _ _) (q0 rfl)) rfl rfl ?_
  refine xV (e_len Try.underlying27 (q0 rfl)) rfl rfl ?_
  refine xV (e_gt (q0 rfl) (q0 rfl)) rfl rfl ?_
  refine xV (e_mv (v := .bool _) (q0 rfl)) rfl rfl ?_
  refine xVF (e_fld Try.underlying26 rfl Try.sizeOf24 rfl (q0 rfl)) rfl rfl rfl rfl ?_
  refine xVF (e_ld Try.isAgg24 (q1 rfl) (by first | exact bx 0 rfl rfl | exact bx 1 rfl rfl | exact bx 2 rfl rfl | exact bx 3 rfl rfl | exact bx 4 rfl rfl | exact bx 5 rfl rfl | exact bx 6 rfl rfl | exact bx 7 rfl rfl | exact bx 8 rfl rfl | exact bx 9 rfl rfl | exact rc ‹_› ‹_› rfl | exact rc0 ‹_› ‹_› rfl | exact xc ‹_› ‹_›)) rfl rfl rfl rfl ?_
  refine xVF (e_len Try.underlying24 (q1 rfl)) rfl rfl rfl rfl ?_
  refine xVF (e_gt (q1 rfl) (q0 rfl)) rfl rfl rfl rfl ?_
  refine xV (e_or (q0 rfl) rfl (fun h => by first | rfl | (rw [h]; rfl))) rfl rfl ?_
  refine XN ?_
  refine thenJ_normal ?_
  refine H_cond rfl (fun hb => ?_) (fun hb => ?_)
  · refine H_seq ?_
    refine R0 ?_
    refine xC (en Try.call11 (ha0)) (fun _ w hm => awake_w w) rfl rfl ?_
    refine xV (e_as (v := .bool _) (q0 rfl)) rfl rfl ?_
    refine XN ?_
    refine thenJ_normal ?_
    refine H_ret ?_
    refine thenJ_ret ?_
    exact ret1 (v := .bool _) rfl rfl rfl fun w' hw => ⟨rfl, hw.1⟩
  · simp only [Bool.or_eq_false_iff, decide_eq_false_iff_not] at hb
    rcases fineR_cases (fines := fines) (days := days) (vs := vs) (i := i) with ⟨er, her, hnr⟩ | ⟨k0, v, rfl, hc, hv, hnr⟩
    case inl =>
      refine H_skip ?_
      refine thenJ_normal ?_
      refine H_seq ?_
      refine R0 ?_
      refine xV (e_lds Try.isAgg26 Try.sizeOf26 (q0 rfl) (by first | exact bxs 0 rfl | exact bxs 1 rfl | exact bxs 2 rfl | exact bxs 3 rfl | exact bxs 4 rfl | exact bxs 5 rfl | exact bxs 6 rfl | exact bxs 7 rfl | exact bxs 8 rfl | exact bxs 9 rfl | exact rcs ‹_› ‹_›) rfl) rfl rfl ?_
      refine xV (e_mv (v := .slice _ _ _) (q0 rfl)) rfl rfl ?_
      refine xV (e_mv (v := .int _ _) (q0 rfl)) rfl rfl ?_
      refine xC (en Try.call18 (ha3 (q0 rfl) (q0 rfl) (q0 rfl))) (fun _ w hm => (by have := Fine_w (sl p0) (sl p1) (sl p2) (sl p3) (.int .i64 p4) fA fn fc fines days A n c vs i w (hf.mem hm) (hx.mem hm); rw [hnr] at this; exact this)) rfl rfl ?_
      refine xV (e_mv (q0 rfl)) rfl rfl ?_
      refine xV (e_ext (q0 rfl) rfl) rfl rfl ?_
      refine xV (e_ext (q0 rfl) rfl) rfl rfl ?_
      refine xV (e_as (v := .int _ _) (q0 rfl)) rfl rfl ?_
      refine xV (e_as (v := .int _ _) (q0 rfl)) rfl rfl ?_
      refine XN ?_
      refine thenJ_normal ?_
      refine H_seq ?_
      refine H_seq ?_
      refine R0 ?_
      refine xV (e_mv (v := .int _ _) (q0 rfl)) rfl rfl ?_
      refine xV (e_ne (q0 rfl) (q0 rfl)) rfl rfl ?_
      refine XN ?_
      refine thenJ_normal ?_
      refine H_cond rfl (fun hz => ?_) (fun hz => ?_)
      · refine H_seq ?_
        refine R0 ?_
        refine xV (e_mv (v := .int _ _) (q0 rfl)) rfl rfl ?_
        refine xV (e_eq (q0 rfl) (q0 rfl)) rfl rfl ?_
        refine xV (e_mv (v := .bool _) (q0 rfl)) rfl rfl ?_
        refine xCT (en Try.call11 (ha0)) (fun _ w hm => awake_w w) rfl rfl rfl rfl ?_
        refine xV (e_and (q0 rfl) rfl (fun h => by first | rfl | (rw [h]; rfl))) rfl rfl ?_
        refine xV (e_as (v := .bool _) (q0 rfl)) rfl rfl ?_
        refine XN ?_
        refine thenJ_normal ?_
        refine H_ret ?_
        refine thenJ_ret ?_
        exact ret1 (v := .bool _) rfl rfl rfl fun w' hw => ⟨rfl, hw.1⟩
      · exact absurd (by simpa using hz) her
    case inr =>
      have hk0 : k0 < n := by have := (List.getElem?_eq_some_iff.1 hv).1; omega
      obtain ⟨b, off, v', rfl, hbl, hv', hrv⟩ := hx.at_ hk0
      obtain rfl : v = v' := by rw [hv] at hv'; exact Option.some.inj hv'
      refine H_skip ?_
      refine thenJ_normal ?_
      refine H_seq ?_
      refine R0 ?_
      refine xV (e_lds Try.isAgg26 Try.sizeOf26 (q0 rfl) (by first | exact bxs 0 rfl | exact bxs 1 rfl | exact bxs 2 rfl | exact bxs 3 rfl | exact bxs 4 rfl | exact bxs 5 rfl | exact bxs 6 rfl | exact bxs 7 rfl | exact bxs 8 rfl | exact bxs 9 rfl | exact rcs ‹_› ‹_›) rfl) rfl rfl ?_
      refine xV (e_mv (v := .slice _ _ _) (q0 rfl)) rfl rfl ?_
      refine xV (e_mv (v := .int _ _) (q0 rfl)) rfl rfl ?_
      refine xC (en Try.call18 (ha3 (q0 rfl) (q0 rfl) (q0 rfl))) (fun _ w hm => (by have := Fine_w (sl p0) (sl p1) (sl p2) (sl p3) (.int .i64 p4) fA fn fc fines days _ n c vs k0 w (hf.mem hm) (hx.mem hm); rw [hnr] at this; exact this)) rfl rfl ?_
      refine xV (e_mv (q0 rfl)) rfl rfl ?_
      refine xV (e_ext (q0 rfl) rfl) rfl rfl ?_
      refine xV (e_ext (q0 rfl) rfl) rfl rfl ?_
      refine xV (e_as (v := .int _ _) (q0 rfl)) rfl rfl ?_
      refine xV (e_as (v := .int _ _) (q0 rfl)) rfl rfl ?_
      refine XN ?_
      refine thenJ_normal ?_
      refine H_seq ?_
      refine H_seq ?_
      refine R0 ?_
      refine xV (e_mv (v := .int _ _) (q0 rfl)) rfl rfl ?_
      refine xV (e_ne (q0 rfl) (q0 rfl)) rfl rfl ?_
      refine XN ?_
      refine thenJ_normal ?_
      refine H_cond rfl (fun hz => ?_) (fun hz => ?_)
      · simp at hz
      · refine H_skip ?_
        refine thenJ_normal ?_
        refine H_seq ?_
        refine R0 ?_
        refine xV (e_as (v := .slice _ _ _) (q0 rfl)) rfl rfl ?_
        refine XN ?_
        refine thenJ_normal ?_
        refine H_seq ?_
        refine H_seq ?_
        refine R0 ?_
        refine xV (e_mv (v := .slice _ _ _) (q0 rfl)) rfl rfl ?_
        refine xV (e_len Try.underlying27 (q0 rfl)) rfl rfl ?_
        refine xV (e_sub (q0 rfl) (q0 rfl) (fun _ => ⟨rfl, by omega, by omega⟩)) rfl rfl ?_
        refine xV (e_as (v := .int _ _) (q0 rfl)) rfl rfl ?_
        refine XN ?_
        refine thenJ_normal ?_
        refine H_block ?_
        refine H_loop [11, 12, 52, 53, 54, 55, 56, 57, 58, 59, 60, 61, 62] (fun s : Nat × Option Addr × Nat => [(11, .slice s.2.1 (backTo vs s.1).length s.2.2), (12, .int .i64 ((n : Int) - 1 - (s.1 : Int)))]) (fun s => rowT 37 4 V.cells s.2.1 s.2.2 (backTo vs s.1) :: [box b5 37 mv.cells, box b4 40 [.slice (some ⟨b, off, none⟩) n c, .int .i64 k0], box b3 26 [(sl p0), (sl p1), (sl p2), (sl p3), (.int .i64 p4), .slice fA fn fc, .int .i64 days]]) (fun s => s.1 ≤ n) (fun s => n - s.1) (0, none, 0) ⟨by show _ = Value.slice none (backTo vs 0).length 0; unfold backTo; rfl, by show _ = Value.int _ _; rw [show ((n : Int) - 1 - ((0 : Nat) : Int)) = (n : Int) - 1 by omega]; exact rfl, trivial⟩ (fun w hw => by show Mem _ (rowT _ _ _ _ _ (backTo vs 0) :: _) _; rw [show backTo vs 0 = [] by unfold backTo; rfl]; exact hw.nilRow _ _ _ rfl) rfl (Nat.zero_le _) ?_
        rintro ⟨j, A', c'⟩ g hj
        have hj : j ≤ n := hj
        have hbl2 : (backTo vs j).length = j := backTo_len (by omega)
        refine H_seq ?_
        refine H_seq ?_
        refine R0 ?_
        refine xV (e_mv (v := .int _ _) (q0 rfl)) rfl rfl ?_
        refine xV (e_ge (q0 rfl) (q0 rfl)) rfl rfl ?_
        refine XN ?_
        refine thenJ_normal ?_
        refine H_cond rfl (fun hge => ?_) (fun hge => ?_)
        · simp only [decide_eq_true_eq] at hge
          obtain ⟨k, hk⟩ : ∃ k : Nat, (n : Int) - 1 - (j : Int) = k := ⟨n - 1 - j, by omega⟩
          obtain ⟨x, hxk, hrx⟩ := hx.row (i := k) (by omega)
          have hS := backTo_succ (j := j) hxk (by omega)
          rw [hk]
          refine H_skip ?_
          refine thenJ_normal ?_
          refine H_seq ?_
          refine H_block ?_
          refine R0 ?_
          refine xV (e_mv (v := .slice _ _ _) (q0 rfl)) rfl rfl ?_
          refine xV (e_mv (v := .slice _ _ _) (q0 rfl)) rfl rfl ?_
          refine xV (e_mv (v := .int _ _) (q0 rfl)) rfl rfl ?_
          refine xV (e_idx _ Try.underlying27 Try.sizeOf37 (q0 rfl) (q0 rfl) (fun _ => ⟨rfl, by omega⟩)) rfl rfl ?_
          refine xV (e_lds Try.isAgg37 Try.sizeOf37 (q0 rfl) (by first | exact bxs 0 rfl | exact bxs 1 rfl | exact bxs 2 rfl | exact bxs 3 rfl | exact bxs 4 rfl | exact bxs 5 rfl | exact bxs 6 rfl | exact bxs 7 rfl | exact bxs 8 rfl | exact bxs 9 rfl | exact rcs ‹_› ‹_›) rfl) rfl rfl ?_
          refine X_slit [(.int .i64 0), (.int .i64 0), (.int .i64 0), (.int .i64 0)] Try.underlying27 Try.sizeOf37 Try.zeroValue37 rfl (by kernel_rfl) (pt (v := .agg _) rfl E.p0) rfl rfl fun b61 => ?_
          refine X_append (f_append (i := Try.t37) (enc := V.cells) 1 Try.underlying27 rfl rfl rfl rfl rfl (fun _ => rfl) (fun _ => rfl) rfl rfl rfl (fun w hw => slAt_box (xs := [x]) hw (j := 0) rfl (fun _ => rfl) (by simp)) ⟨by simp; omega, by decide⟩ rfl fun A2 c2 => ?_)
          refine xV (e_as (v := .slice _ _ _) (q0 rfl)) rfl rfl ?_
          refine XN ?_
          refine blockJ_normal ?_
          refine thenJ_normal ?_
          refine R0 ?_
          refine xV (e_mv (v := .int _ _) (q0 rfl)) rfl rfl ?_
          refine xV (e_sub (q0 rfl) (q0 rfl) (fun _ => ⟨rfl, by omega, by omega⟩)) rfl rfl ?_
          refine xV (e_as (v := .int _ _) (q0 rfl)) rfl rfl ?_
          refine XN ?_
          exact loopJ_normal (j + 1, A2, c2) (by repeat (first | exact agree_self | exact agree_over | refine agree_upd rfl ?_ | refine agree_updL rfl ?_ | refine agree_over2 rfl ?_)) ⟨(by show _ = Value.slice A2 (backTo vs (j + 1)).length c2; rw [hS]; exact rfl), (by show _ = Value.int _ ((n : Int) - 1 - ((j + 1 : Nat) : Int)); rw [show (n : Int) - 1 - ((j + 1 : Nat) : Int) = k - 1 by omega]; exact rfl), trivial⟩ (fun w hw => by show Mem _ (rowT _ _ _ _ _ (backTo vs (j + 1)) :: _) _; rw [hS]; exact hw.pick [1, 2, 3, 4] (by decide)) rfl (by show j + 1 ≤ n; omega) (by show n - (j + 1) < n - j; omega)
        · obtain rfl : j = n := by simp at hge; omega
          have hB : backTo vs j = vs.reverse := backTo_all (by omega)
          have hBv : vs.reverse[j - 1 - k0]? = some v := by rw [List.getElem?_reverse (by omega), show vs.length - 1 - (j - 1 - k0) = k0 by omega]; exact hv
          obtain ⟨q, hq⟩ : ∃ q : Nat, q = j - 1 - k0 := ⟨_, rfl⟩
          have hqz : ((j : Int) - 1 - (k0 : Int)) = (q : Int) := by omega
          rw [← hq] at hBv
          have hcr := cErr_rev hc
          have hnR := numR_ok hcr hBv
          rw [num_rev] at hnR
          have hfR := fineR_ok hcr hBv
          rw [fine_rev] at hfR
          rw [hB]
          refine H_exit ?_
          refine thenJ_exit ?_
          refine loopJ_exit ?_
          refine blockJ_hit ?_
          refine thenJ_normal ?_
          refine H_seq ?_
          refine R0 ?_
          refine xV (e_lds Try.isAgg26 Try.sizeOf26 (q0 rfl) (by first | exact bxs 0 rfl | exact bxs 1 rfl | exact bxs 2 rfl | exact bxs 3 rfl | exact bxs 4 rfl | exact bxs 5 rfl | exact bxs 6 rfl | exact bxs 7 rfl | exact bxs 8 rfl | exact bxs 9 rfl | exact rcs ‹_› ‹_›) rfl) rfl rfl ?_
          refine xV (e_mv (v := .slice _ _ _) (q0 rfl)) rfl rfl ?_
          refine xV (e_mv (v := .int _ _) (q0 rfl)) rfl rfl ?_
          refine xC (en Try.call16 (ha3 (q0 rfl) (q0 rfl) (q0 rfl))) (fun _ w hm => (by have := Number_w (sl p0) (sl p1) (sl p2) (sl p3) (.int .i64 p4) fA fn fc fines days _ j c vs k0 w (hf.mem hm) (hx.mem hm); rw [numR_ok hc hv] at this; exact this)) rfl rfl ?_
          refine xV (e_mv (q0 rfl)) rfl rfl ?_
          refine xV (e_ext (q0 rfl) rfl) rfl rfl ?_
          refine xV (e_ext (q0 rfl) rfl) rfl rfl ?_
          refine xV (e_as (v := .int _ _) (q0 rfl)) rfl rfl ?_
          refine xV (e_as (v := .int _ _) (q0 rfl)) rfl rfl ?_
          refine XN ?_
          refine thenJ_normal ?_
          refine H_seq ?_
          refine R0 ?_
          refine xV (e_lds Try.isAgg26 Try.sizeOf26 (q0 rfl) (by first | exact bxs 0 rfl | exact bxs 1 rfl | exact bxs 2 rfl | exact bxs 3 rfl | exact bxs 4 rfl | exact bxs 5 rfl | exact bxs 6 rfl | exact bxs 7 rfl | exact bxs 8 rfl | exact bxs 9 rfl | exact rcs ‹_› ‹_›) rfl) rfl rfl ?_
          refine xV (e_mv (v := .slice _ _ _) (q0 rfl)) rfl rfl ?_
          refine xV (e_mv (v := .slice _ _ _) (q0 rfl)) rfl rfl ?_
          refine xV (e_len Try.underlying27 (q0 rfl)) rfl rfl ?_
          refine xV (e_sub (q0 rfl) (q0 rfl) (fun _ => ⟨rfl, by omega, by omega⟩)) rfl rfl ?_
          refine xV (e_mv (v := .int _ _) (q0 rfl)) rfl rfl ?_
          refine xV (e_sub (q0 rfl) (q0 rfl) (fun _ => ⟨rfl, by omega, by omega⟩)) rfl rfl ?_
          rw [hqz]
          refine xC (en Try.call16 (ha3 (q0 rfl) (q0 rfl) (q0 rfl))) (fun _ w hm => (by have := Number_w (sl p0) (sl p1) (sl p2) (sl p3) (.int .i64 p4) fA fn fc fines days A' vs.reverse.length c' vs.reverse q w (hf.mem hm) (slAt_row hm (j := 0) rfl (fun _ => rfl) (by simp; omega)); rw [hnR] at this; exact this)) rfl rfl ?_
          refine xV (e_mv (q0 rfl)) rfl rfl ?_
          refine xV (e_ext (q0 rfl) rfl) rfl rfl ?_
          refine xV (e_ext (q0 rfl) rfl) rfl rfl ?_
          refine xV (e_as (v := .int _ _) (q0 rfl)) rfl rfl ?_
          refine xV (e_as (v := .int _ _) (q0 rfl)) rfl rfl ?_
          refine XN ?_
          refine thenJ_normal ?_
          refine H_seq ?_
          refine R0 ?_
          refine xV (e_lds Try.isAgg26 Try.sizeOf26 (q0 rfl) (by first | exact bxs 0 rfl | exact bxs 1 rfl | exact bxs 2 rfl | exact bxs 3 rfl | exact bxs 4 rfl | exact bxs 5 rfl | exact bxs 6 rfl | exact bxs 7 rfl | exact bxs 8 rfl | exact bxs 9 rfl | exact rcs ‹_› ‹_›) rfl) rfl rfl ?_
          refine xV (e_mv (v := .slice _ _ _) (q0 rfl)) rfl rfl ?_
          refine xV (e_mv (v := .slice _ _ _) (q0 rfl)) rfl rfl ?_
          refine xV (e_len Try.underlying27 (q0 rfl)) rfl rfl ?_
          refine xV (e_sub (q0 rfl) (q0 rfl) (fun _ => ⟨rfl, by omega, by omega⟩)) rfl rfl ?_
          refine xV (e_mv (v := .int _ _) (q0 rfl)) rfl rfl ?_
          refine xV (e_sub (q0 rfl) (q0 rfl) (fun _ => ⟨rfl, by omega, by omega⟩)) rfl rfl ?_
          rw [hqz]
          refine xC (en Try.call18 (ha3 (q0 rfl) (q0 rfl) (q0 rfl))) (fun _ w hm => (by have := Fine_w (sl p0) (sl p1) (sl p2) (sl p3) (.int .i64 p4) fA fn fc fines days A' vs.reverse.length c' vs.reverse q w (hf.mem hm) (slAt_row hm (j := 0) rfl (fun _ => rfl) (by simp; omega)); rw [hfR] at this; exact this)) rfl rfl ?_
          refine xV (e_mv (q0 rfl)) rfl rfl ?_
          refine xV (e_ext (q0 rfl) rfl) rfl rfl ?_
          refine xV (e_ext (q0 rfl) rfl) rfl rfl ?_
          refine xV (e_as (v := .int _ _) (q0 rfl)) rfl rfl ?_
          refine xV (e_as (v := .int _ _) (q0 rfl)) rfl rfl ?_
          refine XN ?_
          refine thenJ_normal ?_
          refine H_seq ?_
          refine H_seq ?_
          refine R0 ?_
          refine xV (e_mv (v := .int _ _) (q0 rfl)) rfl rfl ?_
          refine xV (e_lt (q0 rfl) (q0 rfl)) rfl rfl ?_
          refine xV (e_mv (v := .bool _) (q0 rfl)) rfl rfl ?_
          refine xVF (e_mv (v := .int _ _) (q0 rfl)) rfl rfl rfl rfl ?_
          refine xVF (e_mv (v := .slice _ _ _) (q0 rfl)) rfl rfl rfl rfl ?_
          refine xVF (e_len Try.underlying27 (q1 rfl)) rfl rfl rfl rfl ?_
          refine xVF (e_ge (q1 rfl) (q1 rfl)) rfl rfl rfl rfl ?_
          refine xV (e_or (q0 rfl) rfl (fun h => by first | rfl | (rw [h]; rfl))) rfl rfl ?_
          refine xV (e_mv (v := .bool _) (q0 rfl)) rfl rfl ?_
          refine xVF (e_mv (v := .int _ _) (q0 rfl)) rfl rfl rfl rfl ?_
          refine xVF (e_ne (q1 rfl) (q0 rfl)) rfl rfl rfl rfl ?_
          refine xV (e_or (q0 rfl) rfl (fun h => by first | rfl | (rw [h]; rfl))) rfl rfl ?_
          refine xV (e_mv (v := .bool _) (q0 rfl)) rfl rfl ?_
          refine xVF (e_mv (v := .int _ _) (q0 rfl)) rfl rfl rfl rfl ?_
          refine xVF (e_ne (q1 rfl) (q0 rfl)) rfl rfl rfl rfl ?_
          refine xV (e_or (q0 rfl) rfl (fun h => by first | rfl | (rw [h]; rfl))) rfl rfl ?_
          refine xV (e_mv (v := .bool _) (q0 rfl)) rfl rfl ?_
          refine xVF (e_mv (v := .int _ _) (q0 rfl)) rfl rfl rfl rfl ?_
          refine xVF (e_ne (q1 rfl) (q0 rfl)) rfl rfl rfl rfl ?_
          refine xV (e_or (q0 rfl) rfl (fun h => by first | rfl | (rw [h]; rfl))) rfl rfl ?_
          refine xV (e_mv (v := .bool _) (q0 rfl)) rfl rfl ?_
          refine xVF (e_mv (v := .int _ _) (q0 rfl)) rfl rfl rfl rfl ?_
          refine xVF (e_mv (v := .int _ _) (q0 rfl)) rfl rfl rfl rfl ?_
          refine xVF (e_ne (q1 rfl) (q1 rfl)) rfl rfl rfl rfl ?_
          refine xV (e_or (q0 rfl) rfl (fun h => by first | rfl | (rw [h]; rfl))) rfl rfl ?_
          refine xV (e_mv (v := .bool _) (q0 rfl)) rfl rfl ?_
          refine xVF (e_mv (v := .int _ _) (q0 rfl)) rfl rfl rfl rfl ?_
          refine xVF (e_mv (v := .int _ _) (q0 rfl)) rfl rfl rfl rfl ?_
          refine xVF (e_ne (q1 rfl) (q1 rfl)) rfl rfl rfl rfl ?_
          refine xV (e_or (q0 rfl) rfl (fun h => by first | rfl | (rw [h]; rfl))) rfl rfl ?_
          refine XN ?_
          refine thenJ_normal ?_
          refine H_cond rfl (fun hbad => ?_) (fun hbad => ?_)
          · simp at hbad; omega
          · refine H_skip ?_
            refine thenJ_normal ?_
            refine H_seq ?_
            refine H_seq ?_
            refine R1 rfl (by decide +kernel) ?_
            refine xV (e_fld Try.underlying37 rfl Try.sizeOf3 rfl (q0 rfl)) rfl rfl ?_
            refine xV (e_ld Try.isAgg3 (q0 rfl) (by first | exact bx 0 rfl rfl | exact bx 1 rfl rfl | exact bx 2 rfl rfl | exact bx 3 rfl rfl | exact bx 4 rfl rfl | exact bx 5 rfl rfl | exact bx 6 rfl rfl | exact bx 7 rfl rfl | exact bx 8 rfl rfl | exact bx 9 rfl rfl | exact rc ‹_› ‹_› rfl | exact rc0 ‹_› ‹_› rfl | exact xc ‹_› ‹_›)) rfl rfl ?_
            refine xV (e_mv (v := .slice _ _ _) (q0 rfl)) rfl rfl ?_
            refine xV (e_mv (v := .int _ _) (q0 rfl)) rfl rfl ?_
            refine xV (e_idx _ Try.underlying27 Try.sizeOf37 (q0 rfl) (q0 rfl) (fun _ => ⟨rfl, by omega⟩)) rfl rfl ?_
            refine xV (e_fld Try.underlying37 rfl Try.sizeOf3 rfl (q0 rfl)) rfl rfl ?_
            refine xV (e_ld Try.isAgg3 (q0 rfl) (by first | exact bx 0 rfl rfl | exact bx 1 rfl rfl | exact bx 2 rfl rfl | exact bx 3 rfl rfl | exact bx 4 rfl rfl | exact bx 5 rfl rfl | exact bx 6 rfl rfl | exact bx 7 rfl rfl | exact bx 8 rfl rfl | exact bx 9 rfl rfl | exact rc ‹_› ‹_› rfl | exact rc0 ‹_› ‹_› rfl | exact xc ‹_› ‹_›)) rfl rfl ?_
            refine xV (e_eq (q0 rfl) (q0 rfl)) rfl rfl ?_
            refine xV (e_mv (v := .bool _) (q0 rfl)) rfl rfl ?_
            refine xVT (e_fld Try.underlying37 rfl Try.sizeOf3 rfl (q0 rfl)) rfl rfl rfl rfl ?_
            refine xVT (e_ld Try.isAgg3 (q1 rfl) (by first | exact bx 0 rfl rfl | exact bx 1 rfl rfl | exact bx 2 rfl rfl | exact bx 3 rfl rfl | exact bx 4 rfl rfl | exact bx 5 rfl rfl | exact bx 6 rfl rfl | exact bx 7 rfl rfl | exact bx 8 rfl rfl | exact bx 9 rfl rfl | exact rc ‹_› ‹_› rfl | exact rc0 ‹_› ‹_› rfl | exact xc ‹_› ‹_›)) rfl rfl rfl rfl ?_
            refine xVT (e_eq (q1 rfl) (q0 rfl)) rfl rfl rfl rfl ?_
            refine xV (e_and (q0 rfl) rfl (fun h => by first | rfl | (rw [h]; rfl))) rfl rfl ?_
            refine XN ?_
            refine thenJ_normal ?_
            refine H_cond rfl (fun hmv => ?_) (fun hmv => ?_)
            · refine H_seq ?_
              refine R0 ?_
              refine xC (en Try.call11 (ha0)) (fun _ w hm => awake_w w) rfl rfl ?_
              refine xV (e_as (v := .bool _) (q0 rfl)) rfl rfl ?_
              refine XN ?_
              refine thenJ_normal ?_
              refine H_ret ?_
              refine thenJ_ret ?_
              exact ret1 (v := .bool _) rfl rfl rfl fun w' hw => ⟨rfl, hw.1⟩
            · have hmv' : ¬ (mv.rider = v.rider ∧ mv.kind = 2) := by simpa using hmv
              refine H_skip ?_
              refine thenJ_normal ?_
              refine H_seq ?_
              refine H_cut [19, 20, 136, 137, 138, 139, 140, 141, 142, 143, 144, 145, 146, 147] (fun _ : Unit => [(19, .int .i64 (numR fines days (vs ++ [mv]) k0).1), (20, .int .i64 (numR fines days (vs ++ [mv]) k0).2)]) (fun _ => []) (fun _ => True) ?_ ?_
              · refine RA rfl (by decide +kernel) ?_
                refine aV 0 (by decide +kernel) rfl (e_lds Try.isAgg26 Try.sizeOf26 (q0 rfl) (by first | exact bxs 0 rfl | exact bxs 1 rfl | exact bxs 2 rfl | exact bxs 3 rfl | exact bxs 4 rfl | exact bxs 5 rfl | exact bxs 6 rfl | exact bxs 7 rfl | exact bxs 8 rfl | exact bxs 9 rfl | exact rcs ‹_› ‹_›) rfl) rfl ?_
                refine aV 2 (by decide +kernel) rfl (e_mv (v := .slice _ _ _) (q0 rfl)) rfl ?_
                refine aV 4 (by decide +kernel) rfl (e_lds Try.isAgg37 Try.sizeOf37 (q0 rfl) (by first | exact bxs 0 rfl | exact bxs 1 rfl | exact bxs 2 rfl | exact bxs 3 rfl | exact bxs 4 rfl | exact bxs 5 rfl | exact bxs 6 rfl | exact bxs 7 rfl | exact bxs 8 rfl | exact bxs 9 rfl | exact rcs ‹_› ‹_›) rfl) rfl ?_
                refine aV 7 (by decide +kernel) rfl (e_mv (v := .int _ _) (q0 rfl)) rfl ?_
                refine rdy2 (i := 1) (j := 5) (by decide +kernel) (sub_drop 0) ?_ ?_
                · refine aL rfl (f_slit0 V.cells Try.underlying27 Try.sizeOf37 rfl fun A1 c1 => ?_)
                  refine rdy2 (i := 3) (j := 5) (by decide +kernel) (sub_drop 1) ?_ ?_
                  · refine aL rfl (f_append (i := Try.t37) (enc := V.cells) 0 Try.underlying27 rfl rfl rfl rfl rfl (fun _ => rfl) (fun _ => rfl) rfl rfl rfl (fun w hw => hx.mem hw) ⟨by simp; omega, by decide⟩ rfl fun A2 c2 => ?_)
                    refine rdy1 (i := 5) (by decide +kernel) (sub_drop 1) ?_
                    refine aL rfl (f_slit [(.int .i64 0), (.int .i64 0), (.int .i64 0), (.int .i64 0)] Try.underlying27 Try.sizeOf37 Try.zeroValue37 rfl (by kernel_rfl) (pt (v := .agg _) rfl E.p0) rfl rfl fun b142 => ?_)
                    refine aI 1 ?_
                    refine rdy1 (i := 6) (by decide +kernel) (sub_drop 2) ?_
                    refine aL rfl (f_append (i := Try.t37) (enc := V.cells) 0 Try.underlying27 rfl rfl rfl rfl rfl (fun _ => rfl) (fun _ => rfl) rfl rfl rfl (fun w hw => slAt_box (xs := [mv]) hw (j := 1) rfl (fun _ => rfl) (by simp)) ⟨by simp; omega, by decide⟩ rfl fun A3 c3 => ?_)
                    refine aRL (sub_drop 2) ?_
                    refine aC 8 (by decide +kernel) rfl (en Try.call16 (ha3 (q0 rfl) (q0 rfl) (q0 rfl))) (fun _ w hm => Number_w (sl p0) (sl p1) (sl p2) (sl p3) (.int .i64 p4) fA fn fc fines days A3 _ c3 (vs ++ [mv]) k0 w (hf.mem hm) (slAt_row hm (j := 0) rfl (fun _ => rfl) (by simp; omega))) rfl ?_
                    refine aV 9 (by decide +kernel) rfl (e_mv (q0 rfl)) rfl ?_
                    refine aV 10 (by decide +kernel) rfl (e_ext (q0 rfl) rfl) rfl ?_
                    refine aV 11 (by decide +kernel) rfl (e_ext (q0 rfl) rfl) rfl ?_
                    refine aV 12 (by decide +kernel) rfl (e_as (v := .int _ _) (q0 rfl)) rfl ?_
                    refine aV 13 (by decide +kernel) rfl (e_as (v := .int _ _) (q0 rfl)) rfl ?_
                    refine aZ (by decide +kernel) (sub_drop 0) ?_
                    exact cutJ_normal () (by repeat (first | exact agree_self | exact agree_over | refine agree_upd rfl ?_ | refine agree_updL rfl ?_ | refine agree_over2 rfl ?_)) ⟨rfl, rfl, trivial⟩ (fun w hw => hw.pick [] (by decide)) rfl trivial
                  · refine aL rfl (f_slit [(.int .i64 0), (.int .i64 0), (.int .i64 0), (.int .i64 0)] Try.underlying27 Try.sizeOf37 Try.zeroValue37 rfl (by kernel_rfl) (pt (v := .agg _) rfl E.p0) rfl rfl fun b142 => ?_)
                    refine aI 1 ?_
                    refine rdy1 (i := 3) (by decide +kernel) (sub_drop 2) ?_
                    refine aL rfl (f_append (i := Try.t37) (enc := V.cells) 0 Try.underlying27 rfl rfl rfl rfl rfl (fun _ => rfl) (fun _ => rfl) rfl rfl rfl (fun w hw => hx.mem hw) ⟨by simp; omega, by decide⟩ rfl fun A2 c2 => ?_)
                    refine rdy1 (i := 6) (by decide +kernel) (sub_drop 2) ?_
                    refine aL rfl (f_append (i := Try.t37) (enc := V.cells) 0 Try.underlying27 rfl rfl rfl rfl rfl (fun _ => rfl) (fun _ => rfl) rfl rfl rfl (fun w hw => slAt_box (xs := [mv]) hw (j := 1) rfl (fun _ => rfl) (by simp)) ⟨by simp; omega, by decide⟩ rfl fun A3 c3 => ?_)
                    refine aRL (sub_drop 2) ?_
                    refine aC 8 (by decide +kernel) rfl (en Try.call16 (ha3 (q0 rfl) (q0 rfl) (q0 rfl))) (fun _ w hm => Number_w (sl p0) (sl p1) (sl p2) (sl p3) (.int .i64 p4) fA fn fc fines days A3 _ c3 (vs ++ [mv]) k0 w (hf.mem hm) (slAt_row hm (j := 0) rfl (fun _ => rfl) (by simp; omega))) rfl ?_
                    refine aV 9 (by decide +kernel) rfl (e_mv (q0 rfl)) rfl ?_
                    refine aV 10 (by decide +kernel) rfl (e_ext (q0 rfl) rfl) rfl ?_
                    refine aV 11 (by decide +kernel) rfl (e_ext (q0 rfl) rfl) rfl ?_
                    refine aV 12 (by decide +kernel) rfl (e_as (v := .int _ _) (q0 rfl)) rfl ?_
                    refine aV 13 (by decide +kernel) rfl (e_as (v := .int _ _) (q0 rfl)) rfl ?_
                    refine aZ (by decide +kernel) (sub_drop 0) ?_
                    exact cutJ_normal () (by repeat (first | exact agree_self | exact agree_over | refine agree_upd rfl ?_ | refine agree_updL rfl ?_ | refine agree_over2 rfl ?_)) ⟨rfl, rfl, trivial⟩ (fun w hw => hw.pick [] (by decide)) rfl trivial
                · refine aL rfl (f_slit [(.int .i64 0), (.int .i64 0), (.int .i64 0), (.int .i64 0)] Try.underlying27 Try.sizeOf37 Try.zeroValue37 rfl (by kernel_rfl) (pt (v := .agg _) rfl E.p0) rfl rfl fun b142 => ?_)
                  refine rdy1 (i := 1) (by decide +kernel) (sub_drop 1) ?_
                  refine aL rfl (f_slit0 V.cells Try.underlying27 Try.sizeOf37 rfl fun A1 c1 => ?_)
                  refine rdy1 (i := 3) (by decide +kernel) (sub_drop 2) ?_
                  refine aL rfl (f_append (i := Try.t37) (enc := V.cells) 0 Try.underlying27 rfl rfl rfl rfl rfl (fun _ => rfl) (fun _ => rfl) rfl rfl rfl (fun w hw => hx.mem hw) ⟨by simp; omega, by decide⟩ rfl fun A2 c2 => ?_)
                  refine rdy1 (i := 6) (by decide +kernel) (sub_drop 2) ?_
                  refine aL rfl (f_append (i := Try.t37) (enc := V.cells) 0 Try.underlying27 rfl rfl rfl rfl rfl (fun _ => rfl) (fun _ => rfl) rfl rfl rfl (fun w hw => slAt_box (xs := [mv]) hw (j := 1) rfl (fun _ => rfl) (by simp)) ⟨by simp; omega, by decide⟩ rfl fun A3 c3 => ?_)
                  refine aRL (sub_drop 2) ?_
                  refine aC 8 (by decide +kernel) rfl (en Try.call16 (ha3 (q0 rfl) (q0 rfl) (q0 rfl))) (fun _ w hm => Number_w (sl p0) (sl p1) (sl p2) (sl p3) (.int .i64 p4) fA fn fc fines days A3 _ c3 (vs ++ [mv]) k0 w (hf.mem hm) (slAt_row hm (j := 0) rfl (fun _ => rfl) (by simp; omega))) rfl ?_
                  refine aV 9 (by decide +kernel) rfl (e_mv (q0 rfl)) rfl ?_
                  refine aV 10 (by decide +kernel) rfl (e_ext (q0 rfl) rfl) rfl ?_
                  refine aV 11 (by decide +kernel) rfl (e_ext (q0 rfl) rfl) rfl ?_
                  refine aV 12 (by decide +kernel) rfl (e_as (v := .int _ _) (q0 rfl)) rfl ?_
                  refine aV 13 (by decide +kernel) rfl (e_as (v := .int _ _) (q0 rfl)) rfl ?_
                  refine aZ (by decide +kernel) (sub_drop 0) ?_
                  exact cutJ_normal () (by repeat (first | exact agree_self | exact agree_over | refine agree_upd rfl ?_ | refine agree_updL rfl ?_ | refine agree_over2 rfl ?_)) ⟨rfl, rfl, trivial⟩ (fun w hw => hw.pick [] (by decide)) rfl trivial
              · rintro _ g2 -
                refine thenJ_normal ?_
                refine H_seq ?_
                refine R0 ?_
                refine xV (e_mv (v := .int _ _) (q0 rfl)) rfl rfl ?_
                refine xV (e_ne (q0 rfl) (q0 rfl)) rfl rfl ?_
                refine xV (e_mv (v := .bool _) (q0 rfl)) rfl rfl ?_
                refine xVF (e_mv (v := .int _ _) (q0 rfl)) rfl rfl rfl rfl ?_
                refine xVF (e_mv (v := .int _ _) (q0 rfl)) rfl rfl rfl rfl ?_
                refine xVF (e_eq (q1 rfl) (q1 rfl)) rfl rfl rfl rfl ?_
                refine xV (e_or (q0 rfl) rfl (fun h => by first | rfl | (rw [h]; rfl))) rfl rfl ?_
                refine xV (e_mv (v := .bool _) (q0 rfl)) rfl rfl ?_
                refine xCT (en Try.call11 (ha0)) (fun _ w hm => awake_w w) rfl rfl rfl rfl ?_
                refine xV (e_and (q0 rfl) rfl (fun h => by first | rfl | (rw [h]; rfl))) rfl rfl ?_
                refine xV (e_as (v := .bool _) (q0 rfl)) rfl rfl ?_
                refine XN ?_
                refine thenJ_normal ?_
                refine H_ret ?_
                exact ret1 (v := .bool _) rfl rfl rfl fun w' hw => ⟨ret_bool (by
                  by_cases hc2 : cErr fines days (vs ++ [mv]) = 0
                  · rw [numR_ok hc2 (show (vs ++ [mv])[k0]? = some v by rw [List.getElem?_append_left (by omega)]; exact hv), num_more hmv']; simp
                  · rw [numR_err rfl hc2]; simp [hc2]), hw.1⟩

end Go.Proofs.Pen
