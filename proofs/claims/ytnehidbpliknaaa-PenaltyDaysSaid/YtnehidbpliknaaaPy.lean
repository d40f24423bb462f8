/-
  The walk of the law Days.
-/
import Derived.Test.YtnehidbpliknaaaPg
import Derived.Test.YtnehidbpliknaaaEx
namespace Go.Proofs.Pen
open Go Go.RowKit Go.Proofs.E

/-! the plain law -/
theorem cnt_mono {d1 d2 : Int} (h : d1 ≤ d2) (v : V) : ∀ l : List V, cnt d1 l v ≤ cnt d2 l v
  | [] => Nat.le_refl _
  | x :: l => by
    have ih := cnt_mono h v l
    unfold cnt at ih ⊢
    have hx : hit d1 v x = true → hit d2 v x = true := by
      simp only [hit, inDays, Bool.and_eq_true, decide_eq_true_eq]
      exact fun ⟨h1, h2, h3⟩ => ⟨h1, h2, by omega⟩
    simp only [List.filter_cons]
    cases h1 : hit d1 v x with
    | true => simp [hx h1]; exact ih
    | false => cases h2 : hit d2 v x <;> simp <;> omega
theorem num_mono {d1 d2 : Int} (h : d1 ≤ d2) {v : V} {l : List V} : num d1 l v ≤ num d2 l v := by
  have := cnt_mono h v l
  unfold num
  split <;> omega
def dCond (v : V) (i j : Nat) (x : V) : Bool := ((decide (v.kind = 2) && decide (x.kind = 2)) && decide (x.rider = v.rider)) && (decide (j = i) || before x v)
def dRun (l : List V) (v : V) (i : Nat) : Nat → Int
  | 0 => 0
  | k + 1 => dRun l v i k + if dCond v i k (l.getD k V.zero) = true then 1 else 0
theorem dRun_eq {l : List V} {v : V} {i : Nat} (hv : l[i]? = some v) : ∀ k, k ≤ l.length → dRun l v i k = if v.kind = 2 then (((l.take k).filter (cand v)).length : Int) + (if i < k then 1 else 0) else 0
  | 0, _ => by simp [dRun]
  | k + 1, hk => by
    have ih := dRun_eq hv k (by omega)
    have hx : l[k]? = some (l.getD k V.zero) := by rw [List.getD_eq_getElem?_getD, List.getElem?_eq_getElem (by omega)]; rfl
    simp only [dRun]
    revert hx
    generalize l.getD k V.zero = x
    intro hx
    rw [ih, take_snoc _ _ _ hx, List.filter_append]
    by_cases hk2 : v.kind = 2
    · rw [if_pos hk2, if_pos hk2]
      by_cases hki : k = i
      · subst hki
        obtain rfl : v = x := by rw [hv] at hx; exact Option.some.inj hx
        have h1 : cand v v = false := by simp [cand, bef_irr]
        simp [dCond, hk2, h1]
      · have h1 : dCond v i k x = cand v x := by simp [dCond, cand, same, hk2, hki, Bool.and_assoc]
        rw [h1]
        have h2 : (i < k + 1) ↔ i < k := by omega
        cases hc : cand v x <;> simp [hc, h2] <;> omega
    · simp [hk2, dCond]
theorem dRun_bound {l : List V} {v : V} {i : Nat} : ∀ k, 0 ≤ dRun l v i k ∧ dRun l v i k ≤ k
  | 0 => by simp [dRun]
  | k + 1 => by
    have := dRun_bound (l := l) (v := v) (i := i) k
    simp only [dRun]
    split <;> omega
theorem dRun_all {l : List V} {v : V} {i k : Nat} (hv : l[i]? = some v) (ht : Timely l) (hk : k = l.length) : num 49709 l v = dRun l v i k := by
  rw [dRun_eq hv k (by omega), List.take_of_length_le (by omega)]
  have hi := (List.getElem?_eq_some_iff.1 hv).1
  unfold num cnt
  split
  · rw [if_pos (by omega)]
    have : l.filter (hit 49709 v) = l.filter (cand v) := List.filter_congr fun x hx => by
      rw [hit_cand]
      have h1 := ht x hx
      have h2 := ht v (List.mem_of_getElem? hv)
      have : inDays 49709 x v = true := by
        simp only [inDays, decide_eq_true_eq]; omega
      rw [this, Bool.and_true]
    rw [this]; omega
  · rfl
theorem dRun_succ {l : List V} {v x : V} {i k : Nat} (hx : l[k]? = some x) : dRun l v i (k + 1) = dRun l v i k + if dCond v i k x = true then 1 else 0 := by
  show dRun l v i k + (if dCond v i k (l.getD k V.zero) = true then 1 else 0) = _
  rw [List.getD_eq_getElem?_getD, hx]; rfl
theorem pErr_days2 {fines : List Int} {d d' : Int} (h : pErr fines d = 0) (h0 : 0 ≤ d') (h1 : d' ≤ 49709) : pErr fines d' = 0 := by
  unfold pErr at *
  split at h
  · cases h
  · split at h
    · cases h
    · rename_i h2 h3
      rw [if_neg h2, if_neg h3, if_neg (by omega)]
theorem cErr_days {fines : List Int} {d d' : Int} {vs : List V} (h : cErr fines d vs = 0) (h0 : 0 ≤ d') (h1 : d' ≤ 49709) : cErr fines d' vs = 0 := by
  obtain ⟨h2, h3⟩ := cErr_ok h
  rw [cErr_v (pErr_days2 h2 h0 h1)]; exact h3

def sl (p : Option Addr × Nat × Nat) : Value := .slice p.1 p.2.1 p.2.2

attribute [local irreducible] pErr vErr cErr numR fineR totalR sumF fine num cnt dRun before

theorem days_w (p0 p1 p2 p3 : Option Addr × Nat × Nat) (p4 : Int) (fA : Option Addr) (fn fc : Nat) (fines : List Int) (days : Int) (A : Option Addr) (n c : Nat) (vs : List V) (i more : Int) (w : World) (hf : IntsAt w fA fn fines) (hx : VsAt w A n vs) (hmo : more ≤ 9223372036854775807) :
    Calls Try.prog 8 #[.agg #[(sl p0), (sl p1), (sl p2), (sl p3), (.int .i64 p4), .slice fA fn fc, .int .i64 days], .agg #[.slice A n c, .int .i64 i], .int .i64 more] w fun e w' => e = .returned (.bool true) ∧ Below w.heap.size w w' := by
  have hl := hx.1
  refine H_enter Try.func8 rfl Try.ntmps8 rfl ?_
  refine H_seq ?_
  refine R0 ?_
  refine X_box (v := .agg _) rfl rfl fun b3 => ?_
  refine X_box (v := .agg _) rfl rfl fun b4 => ?_
  refine xV (e_as (v := .bool _) (q0 rfl)) rfl rfl ?_
  refine XN ?_
  refine thenJ_normal ?_
  refine H_seq ?_
  refine R1 rfl (by decide +kernel) ?_
  refine xV (e_fld Try.underlying40 rfl Try.sizeOf27 rfl (q0 rfl)) rfl rfl ?_
  refine xV (e_ld Try.isAgg27 (q0 rfl) (by first | exact bx 0 rfl rfl | exact bx 1 rfl rfl | exact bx 2 rfl rfl | exact bx 3 rfl rfl | exact bx 4 rfl rfl | exact bx 5 rfl rfl | exact bx 6 rfl rfl | exact bx 7 rfl rfl | exact bx 8 rfl rfl | exact bx 9 rfl rfl | exact rc ‹_› ‹_› rfl | exact rc0 ‹_› ‹_› rfl | exact xc ‹_› ‹_›)) rfl rfl ?_
  refine xV (e_fld Try.underlying40 rfl Try.sizeOf3 rfl (q0 rfl)) rfl rfl ?_
  refine xV (e_ld Try.isAgg3 (q0 rfl) (by first | exact bx 0 rfl rfl | exact bx 1 rfl rfl | exact bx 2 rfl rfl | exact bx 3 rfl rfl | exact bx 4 rfl rfl | exact bx 5 rfl rfl | exact bx 6 rfl rfl | exact bx 7 rfl rfl | exact bx 8 rfl rfl | exact bx 9 rfl rfl | exact rc ‹_› ‹_› rfl | exact rc0 ‹_› ‹_› rfl | exact xc ‹_› ‹_›)) rfl rfl ?_
  refine xV (e_as (v := .slice _ _ _) (q0 rfl)) rfl rfl ?_
  refine xV (e_as (v := .int _ _) (q0 rfl)) rfl rfl ?_
  refine XN ?_
  refine thenJ_normal ?_
  refine H_seq ?_
  refine H_seq ?_
  refine R0 ?_
  refine xV (e_mv (v := .slice _ _ _) (q0 rfl)) rfl rfl ?_
  refine xV (e_len Try.underlying27 (q0 rfl)) rfl rfl ?_
  refine xV (e_gt (q0 rfl) (q0 rfl)) rfl rfl ?_
  refine xV (e_mv (v := .bool _) (q0 rfl)) rfl rfl ?_
  refine xVF (e_fld Try.underlying26 rfl Try.sizeOf24 rfl (q0 rfl)) rfl rfl rfl rfl ?_
  refine xVF (e_ld Try.isAgg24 (q1 rfl) (by first | exact bx 0 rfl rfl | exact bx 1 rfl rfl | exact bx 2 rfl rfl | exact bx 3 rfl rfl | exact bx 4 rfl rfl | exact bx 5 rfl rfl | exact bx 6 rfl rfl | exact bx 7 rfl rfl | exact bx 8 rfl rfl | exact bx 9 rfl rfl | exact rc ‹_› ‹_› rfl | exact rc0 ‹_› ‹_› rfl | exact xc ‹_› ‹_›)) rfl rfl rfl rfl ?_
  refine xVF (e_len Try.underlying24 (q1 rfl)) rfl rfl rfl rfl ?_
  refine xVF (e_gt (q1 rfl) (q0 rfl)) rfl rfl rfl rfl ?_
  refine xV (e_or (q0 rfl) rfl (fun h => by first | rfl | (rw [h]; rfl))) rfl rfl ?_
  refine xV (e_mv (v := .bool _) (q0 rfl)) rfl rfl ?_
  refine xVF (e_mv (v := .int _ _) (q0 rfl)) rfl rfl rfl rfl ?_
  refine xVF (e_lt (q1 rfl) (q0 rfl)) rfl rfl rfl rfl ?_
  refine xV (e_or (q0 rfl) rfl (fun h => by first | rfl | (rw [h]; rfl))) rfl rfl ?_
  refine XN ?_
  refine thenJ_normal ?_
  refine H_cond rfl (fun hb => ?_) (fun hb => ?_)
  · refine H_seq ?_
    refine R0 ?_
    refine xC (en Try.call11 (ha0)) (fun _ w hm => awake_w w) rfl rfl ?_
    refine xV (e_as (v := .bool _) (q0 rfl)) rfl rfl ?_
    refine XN ?_
    refine thenJ_normal ?_
    refine H_ret ?_
    refine thenJ_ret ?_
    exact ret1 (v := .bool _) rfl rfl rfl fun w' hw => ⟨rfl, hw.1⟩
  · simp only [Bool.or_eq_false_iff, decide_eq_false_iff_not] at hb
    rcases numR_cases (fines := fines) (days := days) (vs := vs) (i := i) with ⟨er, her, hnr⟩ | ⟨k0, v, rfl, hc, hv, hnr⟩
    case inl =>
      refine H_skip ?_
      refine thenJ_normal ?_
      refine H_seq ?_
      refine R0 ?_
      refine xV (e_lds Try.isAgg26 Try.sizeOf26 (q0 rfl) (by first | exact bxs 0 rfl | exact bxs 1 rfl | exact bxs 2 rfl | exact bxs 3 rfl | exact bxs 4 rfl | exact bxs 5 rfl | exact bxs 6 rfl | exact bxs 7 rfl | exact bxs 8 rfl | exact bxs 9 rfl | exact rcs ‹_› ‹_›) rfl) rfl rfl ?_
      refine xV (e_mv (v := .slice _ _ _) (q0 rfl)) rfl rfl ?_
      refine xV (e_mv (v := .int _ _) (q0 rfl)) rfl rfl ?_
      refine xC (en Try.call16 (ha3 (q0 rfl) (q0 rfl) (q0 rfl))) (fun _ w hm => (by have := Number_w (sl p0) (sl p1) (sl p2) (sl p3) (.int .i64 p4) fA fn fc fines days A n c vs i w (hf.mem hm) (hx.mem hm); rw [hnr] at this; exact this)) rfl rfl ?_
      refine xV (e_mv (q0 rfl)) rfl rfl ?_
      refine xV (e_ext (q0 rfl) rfl) rfl rfl ?_
      refine xV (e_ext (q0 rfl) rfl) rfl rfl ?_
      refine xV (e_as (v := .int _ _) (q0 rfl)) rfl rfl ?_
      refine xV (e_as (v := .int _ _) (q0 rfl)) rfl rfl ?_
      refine XN ?_
      refine thenJ_normal ?_
      refine H_seq ?_
      refine H_seq ?_
      refine R0 ?_
      refine xV (e_mv (v := .int _ _) (q0 rfl)) rfl rfl ?_
      refine xV (e_ne (q0 rfl) (q0 rfl)) rfl rfl ?_
      refine XN ?_
      refine thenJ_normal ?_
      refine H_cond rfl (fun hz => ?_) (fun hz => ?_)
      · refine H_seq ?_
        refine R0 ?_
        refine xV (e_mv (v := .int _ _) (q0 rfl)) rfl rfl ?_
        refine xV (e_eq (q0 rfl) (q0 rfl)) rfl rfl ?_
        refine xV (e_mv (v := .bool _) (q0 rfl)) rfl rfl ?_
        refine xCT (en Try.call11 (ha0)) (fun _ w hm => awake_w w) rfl rfl rfl rfl ?_
        refine xV (e_and (q0 rfl) rfl (fun h => by first | rfl | (rw [h]; rfl))) rfl rfl ?_
        refine xV (e_as (v := .bool _) (q0 rfl)) rfl rfl ?_
        refine XN ?_
        refine thenJ_normal ?_
        refine H_ret ?_
        refine thenJ_ret ?_
        exact ret1 (v := .bool _) rfl rfl rfl fun w' hw => ⟨rfl, hw.1⟩
      · exact absurd (by simpa using hz) her
    case inr =>
      have hk0 : k0 < n := by have := (List.getElem?_eq_some_iff.1 hv).1; omega
      obtain ⟨hcp, hcv⟩ := cErr_ok hc
      have htm := timely_of hcv
      have hdy := (pErr_ok2 hcp).2.2
      refine H_skip ?_
      refine thenJ_normal ?_
      refine H_seq ?_
      refine R0 ?_
      refine xV (e_lds Try.isAgg26 Try.sizeOf26 (q0 rfl) (by first | exact bxs 0 rfl | exact bxs 1 rfl | exact bxs 2 rfl | exact bxs 3 rfl | exact bxs 4 rfl | exact bxs 5 rfl | exact bxs 6 rfl | exact bxs 7 rfl | exact bxs 8 rfl | exact bxs 9 rfl | exact rcs ‹_› ‹_›) rfl) rfl rfl ?_
      refine xV (e_mv (v := .slice _ _ _) (q0 rfl)) rfl rfl ?_
      refine xV (e_mv (v := .int _ _) (q0 rfl)) rfl rfl ?_
      refine xC (en Try.call16 (ha3 (q0 rfl) (q0 rfl) (q0 rfl))) (fun _ w hm => (by have := Number_w (sl p0) (sl p1) (sl p2) (sl p3) (.int .i64 p4) fA fn fc fines days A n c vs k0 w (hf.mem hm) (hx.mem hm); rw [hnr] at this; exact this)) rfl rfl ?_
      refine xV (e_mv (q0 rfl)) rfl rfl ?_
      refine xV (e_ext (q0 rfl) rfl) rfl rfl ?_
      refine xV (e_ext (q0 rfl) rfl) rfl rfl ?_
      refine xV (e_as (v := .int _ _) (q0 rfl)) rfl rfl ?_
      refine xV (e_as (v := .int _ _) (q0 rfl)) rfl rfl ?_
      refine XN ?_
      refine thenJ_normal ?_
      refine H_seq ?_
      refine H_seq ?_
      refine R0 ?_
      refine xV (e_mv (v := .int _ _) (q0 rfl)) rfl rfl ?_
      refine xV (e_ne (q0 rfl) (q0 rfl)) rfl rfl ?_
      refine XN ?_
      refine thenJ_normal ?_
      refine H_cond rfl (fun hz => ?_) (fun hz => ?_)
      · simp at hz
      · refine H_skip ?_
        refine thenJ_normal ?_
        refine H_seq ?_
        refine H_seq ?_
        refine R0 ?_
        refine xV (e_mv (v := .int _ _) (q0 rfl)) rfl rfl ?_
        refine xV (e_lt (q0 rfl) (q0 rfl)) rfl rfl ?_
        refine xV (e_mv (v := .bool _) (q0 rfl)) rfl rfl ?_
        refine xVF (e_mv (v := .int _ _) (q0 rfl)) rfl rfl rfl rfl ?_
        refine xVF (e_mv (v := .slice _ _ _) (q0 rfl)) rfl rfl rfl rfl ?_
        refine xVF (e_len Try.underlying27 (q1 rfl)) rfl rfl rfl rfl ?_
        refine xVF (e_ge (q1 rfl) (q1 rfl)) rfl rfl rfl rfl ?_
        refine xV (e_or (q0 rfl) rfl (fun h => by first | rfl | (rw [h]; rfl))) rfl rfl ?_
        refine xV (e_mv (v := .bool _) (q0 rfl)) rfl rfl ?_
        refine xVF (e_fld Try.underlying26 rfl Try.sizeOf3 rfl (q0 rfl)) rfl rfl rfl rfl ?_
        refine xVF (e_ld Try.isAgg3 (q1 rfl) (by first | exact bx 0 rfl rfl | exact bx 1 rfl rfl | exact bx 2 rfl rfl | exact bx 3 rfl rfl | exact bx 4 rfl rfl | exact bx 5 rfl rfl | exact bx 6 rfl rfl | exact bx 7 rfl rfl | exact bx 8 rfl rfl | exact bx 9 rfl rfl | exact rc ‹_› ‹_› rfl | exact rc0 ‹_› ‹_› rfl | exact xc ‹_› ‹_›)) rfl rfl rfl rfl ?_
        refine xVF (e_lt (q1 rfl) (q0 rfl)) rfl rfl rfl rfl ?_
        refine xV (e_or (q0 rfl) rfl (fun h => by first | rfl | (rw [h]; rfl))) rfl rfl ?_
        refine xV (e_mv (v := .bool _) (q0 rfl)) rfl rfl ?_
        refine xVF (e_fld Try.underlying26 rfl Try.sizeOf3 rfl (q0 rfl)) rfl rfl rfl rfl ?_
        refine xVF (e_ld Try.isAgg3 (q1 rfl) (by first | exact bx 0 rfl rfl | exact bx 1 rfl rfl | exact bx 2 rfl rfl | exact bx 3 rfl rfl | exact bx 4 rfl rfl | exact bx 5 rfl rfl | exact bx 6 rfl rfl | exact bx 7 rfl rfl | exact bx 8 rfl rfl | exact bx 9 rfl rfl | exact rc ‹_› ‹_› rfl | exact rc0 ‹_› ‹_› rfl | exact xc ‹_› ‹_›)) rfl rfl rfl rfl ?_
        refine xVF (e_gt (q1 rfl) (q0 rfl)) rfl rfl rfl rfl ?_
        refine xV (e_or (q0 rfl) rfl (fun h => by first | rfl | (rw [h]; rfl))) rfl rfl ?_
        refine XN ?_
        refine thenJ_normal ?_
        refine H_cond rfl (fun hi => ?_) (fun hi => ?_)
        · simp at hi; omega
        · refine H_skip ?_
          refine thenJ_normal ?_
          refine H_seq ?_
          refine H_cut [11, 12, 69, 70] (fun s : Nat × Nat => [(11, .pointer (some ⟨s.1, 0, none⟩)), (12, .pointer (some ⟨s.2, 0, none⟩))]) (fun s => [box s.1 26 [(sl p0), (sl p1), (sl p2), (sl p3), (.int .i64 p4), .slice fA fn fc, .int .i64 days], box s.2 26 [(sl p0), (sl p1), (sl p2), (sl p3), (.int .i64 p4), .slice fA fn fc, .int .i64 days], box b4 40 [.slice A n c, .int .i64 k0], box b3 26 [(sl p0), (sl p1), (sl p2), (sl p3), (.int .i64 p4), .slice fA fn fc, .int .i64 days]]) (fun _ => True) ?_ ?_
          · refine RA rfl (by decide +kernel) ?_
            refine aV 0 (by decide +kernel) rfl (e_lds Try.isAgg26 Try.sizeOf26 (q0 rfl) (by first | exact bxs 0 rfl | exact bxs 1 rfl | exact bxs 2 rfl | exact bxs 3 rfl | exact bxs 4 rfl | exact bxs 5 rfl | exact bxs 6 rfl | exact bxs 7 rfl | exact bxs 8 rfl | exact bxs 9 rfl | exact rcs ‹_› ‹_›) rfl) rfl ?_
            refine aV 1 (by decide +kernel) rfl (e_lds Try.isAgg26 Try.sizeOf26 (q0 rfl) (by first | exact bxs 0 rfl | exact bxs 1 rfl | exact bxs 2 rfl | exact bxs 3 rfl | exact bxs 4 rfl | exact bxs 5 rfl | exact bxs 6 rfl | exact bxs 7 rfl | exact bxs 8 rfl | exact bxs 9 rfl | exact rcs ‹_› ‹_›) rfl) rfl ?_
            refine rdy2 (i := 2) (j := 3) (by decide +kernel) (sub_drop 0) ?_ ?_
            · refine aL rfl (f_alloc Try.zeroValue26 rfl fun b11 => ?_)
              refine rdy1 (i := 3) (by decide +kernel) (sub_drop 1) ?_
              refine aL rfl (f_alloc Try.zeroValue26 rfl fun b12 => ?_)
              refine aI 1 ?_
              refine rdy1 (i := 4) (by decide +kernel) (sub_drop 2) ?_
              (first | refine aL rfl (f_store 0 (v := .agg _) rfl rfl Try.sizeOf26 rfl rfl rfl rfl ?_) | refine aL rfl (f_store 1 (v := .agg _) rfl rfl Try.sizeOf26 rfl rfl rfl rfl ?_) | refine aL rfl (f_store 2 (v := .agg _) rfl rfl Try.sizeOf26 rfl rfl rfl rfl ?_) | refine aL rfl (f_store 3 (v := .agg _) rfl rfl Try.sizeOf26 rfl rfl rfl rfl ?_) | refine aL rfl (f_store 4 (v := .agg _) rfl rfl Try.sizeOf26 rfl rfl rfl rfl ?_) | refine aL rfl (f_store 5 (v := .agg _) rfl rfl Try.sizeOf26 rfl rfl rfl rfl ?_) | refine aL rfl (f_store 6 (v := .agg _) rfl rfl Try.sizeOf26 rfl rfl rfl rfl ?_) | refine aL rfl (f_store 7 (v := .agg _) rfl rfl Try.sizeOf26 rfl rfl rfl rfl ?_) | refine aL rfl (f_store 8 (v := .agg _) rfl rfl Try.sizeOf26 rfl rfl rfl rfl ?_))
              refine rdy1 (i := 5) (by decide +kernel) (sub_drop 2) ?_
              (first | refine aL rfl (f_store 0 (v := .agg _) rfl rfl Try.sizeOf26 rfl rfl rfl rfl ?_) | refine aL rfl (f_store 1 (v := .agg _) rfl rfl Try.sizeOf26 rfl rfl rfl rfl ?_) | refine aL rfl (f_store 2 (v := .agg _) rfl rfl Try.sizeOf26 rfl rfl rfl rfl ?_) | refine aL rfl (f_store 3 (v := .agg _) rfl rfl Try.sizeOf26 rfl rfl rfl rfl ?_) | refine aL rfl (f_store 4 (v := .agg _) rfl rfl Try.sizeOf26 rfl rfl rfl rfl ?_) | refine aL rfl (f_store 5 (v := .agg _) rfl rfl Try.sizeOf26 rfl rfl rfl rfl ?_) | refine aL rfl (f_store 6 (v := .agg _) rfl rfl Try.sizeOf26 rfl rfl rfl rfl ?_) | refine aL rfl (f_store 7 (v := .agg _) rfl rfl Try.sizeOf26 rfl rfl rfl rfl ?_) | refine aL rfl (f_store 8 (v := .agg _) rfl rfl Try.sizeOf26 rfl rfl rfl rfl ?_))
              refine aZ (by decide +kernel) (sub_drop 2) ?_
              exact cutJ_normal (b11, b12) (by repeat (first | exact agree_self | exact agree_over | refine agree_upd rfl ?_ | refine agree_updL rfl ?_ | refine agree_over2 rfl ?_)) ⟨rfl, rfl, trivial⟩ (fun w hw => hw) rfl trivial
            · refine aL rfl (f_alloc Try.zeroValue26 rfl fun b12 => ?_)
              refine rdy1 (i := 2) (by decide +kernel) (sub_drop 1) ?_
              refine aL rfl (f_alloc Try.zeroValue26 rfl fun b11 => ?_)
              refine rdy1 (i := 4) (by decide +kernel) (sub_drop 2) ?_
              (first | refine aL rfl (f_store 0 (v := .agg _) rfl rfl Try.sizeOf26 rfl rfl rfl rfl ?_) | refine aL rfl (f_store 1 (v := .agg _) rfl rfl Try.sizeOf26 rfl rfl rfl rfl ?_) | refine aL rfl (f_store 2 (v := .agg _) rfl rfl Try.sizeOf26 rfl rfl rfl rfl ?_) | refine aL rfl (f_store 3 (v := .agg _) rfl rfl Try.sizeOf26 rfl rfl rfl rfl ?_) | refine aL rfl (f_store 4 (v := .agg _) rfl rfl Try.sizeOf26 rfl rfl rfl rfl ?_) | refine aL rfl (f_store 5 (v := .agg _) rfl rfl Try.sizeOf26 rfl rfl rfl rfl ?_) | refine aL rfl (f_store 6 (v := .agg _) rfl rfl Try.sizeOf26 rfl rfl rfl rfl ?_) | refine aL rfl (f_store 7 (v := .agg _) rfl rfl Try.sizeOf26 rfl rfl rfl rfl ?_) | refine aL rfl (f_store 8 (v := .agg _) rfl rfl Try.sizeOf26 rfl rfl rfl rfl ?_))
              refine rdy1 (i := 5) (by decide +kernel) (sub_drop 2) ?_
              (first | refine aL rfl (f_store 0 (v := .agg _) rfl rfl Try.sizeOf26 rfl rfl rfl rfl ?_) | refine aL rfl (f_store 1 (v := .agg _) rfl rfl Try.sizeOf26 rfl rfl rfl rfl ?_) | refine aL rfl (f_store 2 (v := .agg _) rfl rfl Try.sizeOf26 rfl rfl rfl rfl ?_) | refine aL rfl (f_store 3 (v := .agg _) rfl rfl Try.sizeOf26 rfl rfl rfl rfl ?_) | refine aL rfl (f_store 4 (v := .agg _) rfl rfl Try.sizeOf26 rfl rfl rfl rfl ?_) | refine aL rfl (f_store 5 (v := .agg _) rfl rfl Try.sizeOf26 rfl rfl rfl rfl ?_) | refine aL rfl (f_store 6 (v := .agg _) rfl rfl Try.sizeOf26 rfl rfl rfl rfl ?_) | refine aL rfl (f_store 7 (v := .agg _) rfl rfl Try.sizeOf26 rfl rfl rfl rfl ?_) | refine aL rfl (f_store 8 (v := .agg _) rfl rfl Try.sizeOf26 rfl rfl rfl rfl ?_))
              refine aZ (by decide +kernel) (sub_drop 2) ?_
              exact cutJ_normal (b11, b12) (by repeat (first | exact agree_self | exact agree_over | refine agree_upd rfl ?_ | refine agree_updL rfl ?_ | refine agree_over2 rfl ?_)) ⟨rfl, rfl, trivial⟩ (fun w hw => hw) rfl trivial
          · rintro ⟨b11, b12⟩ g -
            refine thenJ_normal ?_
            refine H_seq ?_
            refine R0 ?_
            refine xV (e_fld Try.underlying26 rfl Try.sizeOf3 rfl (q0 rfl)) rfl rfl ?_
            refine xV (e_ld Try.isAgg3 (q0 rfl) (by first | exact bx 0 rfl rfl | exact bx 1 rfl rfl | exact bx 2 rfl rfl | exact bx 3 rfl rfl | exact bx 4 rfl rfl | exact bx 5 rfl rfl | exact bx 6 rfl rfl | exact bx 7 rfl rfl | exact bx 8 rfl rfl | exact bx 9 rfl rfl | exact rc ‹_› ‹_› rfl | exact rc0 ‹_› ‹_› rfl | exact xc ‹_› ‹_›)) rfl rfl ?_
            refine xV (e_sub (q0 rfl) (q0 rfl) (fun _ => ⟨rfl, by omega, by omega⟩)) rfl rfl ?_
            refine xV (e_mv (v := .int _ _) (q0 rfl)) rfl rfl ?_
            refine xV (e_min (q0 rfl) (q0 rfl)) rfl rfl ?_
            refine xV (e_fld Try.underlying26 rfl Try.sizeOf3 rfl (q0 rfl)) rfl rfl ?_
            refine xV (e_ld Try.isAgg3 (q0 rfl) (by first | exact bx 0 rfl rfl | exact bx 1 rfl rfl | exact bx 2 rfl rfl | exact bx 3 rfl rfl | exact bx 4 rfl rfl | exact bx 5 rfl rfl | exact bx 6 rfl rfl | exact bx 7 rfl rfl | exact bx 8 rfl rfl | exact bx 9 rfl rfl | exact rc ‹_› ‹_› rfl | exact rc0 ‹_› ‹_› rfl | exact xc ‹_› ‹_›)) rfl rfl ?_
            refine xV (e_add (q0 rfl) (q0 rfl) (fun _ => ⟨rfl, by omega, by omega⟩)) rfl rfl ?_
            refine xV (e_fld Try.underlying26 rfl Try.sizeOf3 rfl (q0 rfl)) rfl rfl ?_
            (first | refine X_store 0 (v := .int _ _) rfl rfl Try.sizeOf3 rfl rfl rfl rfl ?_ | refine X_store 1 (v := .int _ _) rfl rfl Try.sizeOf3 rfl rfl rfl rfl ?_ | refine X_store 2 (v := .int _ _) rfl rfl Try.sizeOf3 rfl rfl rfl rfl ?_ | refine X_store 3 (v := .int _ _) rfl rfl Try.sizeOf3 rfl rfl rfl rfl ?_ | refine X_store 4 (v := .int _ _) rfl rfl Try.sizeOf3 rfl rfl rfl rfl ?_ | refine X_store 5 (v := .int _ _) rfl rfl Try.sizeOf3 rfl rfl rfl rfl ?_ | refine X_store 6 (v := .int _ _) rfl rfl Try.sizeOf3 rfl rfl rfl rfl ?_ | refine X_store 7 (v := .int _ _) rfl rfl Try.sizeOf3 rfl rfl rfl rfl ?_ | refine X_store 8 (v := .int _ _) rfl rfl Try.sizeOf3 rfl rfl rfl rfl ?_)
            refine XN ?_
            refine thenJ_normal ?_
            refine H_seq ?_
            refine R0 ?_
            refine xV (e_fld Try.underlying26 rfl Try.sizeOf3 rfl (q0 rfl)) rfl rfl ?_
            (first | refine X_store 0 (v := .int _ _) rfl rfl Try.sizeOf3 rfl rfl rfl rfl ?_ | refine X_store 1 (v := .int _ _) rfl rfl Try.sizeOf3 rfl rfl rfl rfl ?_ | refine X_store 2 (v := .int _ _) rfl rfl Try.sizeOf3 rfl rfl rfl rfl ?_ | refine X_store 3 (v := .int _ _) rfl rfl Try.sizeOf3 rfl rfl rfl rfl ?_ | refine X_store 4 (v := .int _ _) rfl rfl Try.sizeOf3 rfl rfl rfl rfl ?_ | refine X_store 5 (v := .int _ _) rfl rfl Try.sizeOf3 rfl rfl rfl rfl ?_ | refine X_store 6 (v := .int _ _) rfl rfl Try.sizeOf3 rfl rfl rfl rfl ?_ | refine X_store 7 (v := .int _ _) rfl rfl Try.sizeOf3 rfl rfl rfl rfl ?_ | refine X_store 8 (v := .int _ _) rfl rfl Try.sizeOf3 rfl rfl rfl rfl ?_)
            refine XN ?_
            refine thenJ_normal ?_
            refine H_seq ?_
            refine R0 ?_
            refine xV (e_lds Try.isAgg26 Try.sizeOf26 (q0 rfl) (by first | exact bxs 0 rfl | exact bxs 1 rfl | exact bxs 2 rfl | exact bxs 3 rfl | exact bxs 4 rfl | exact bxs 5 rfl | exact bxs 6 rfl | exact bxs 7 rfl | exact bxs 8 rfl | exact bxs 9 rfl | exact rcs ‹_› ‹_›) rfl) rfl rfl ?_
            refine xV (e_mv (v := .slice _ _ _) (q0 rfl)) rfl rfl ?_
            refine xV (e_mv (v := .int _ _) (q0 rfl)) rfl rfl ?_
            have hq0 : 0 ≤ (if more < 49709 - days then more else 49709 - days) + days ∧ (if more < 49709 - days then more else 49709 - days) + days ≤ 49709 ∧ days ≤ (if more < 49709 - days then more else 49709 - days) + days := by split <;> omega
            refine xC (en Try.call16 (ha3 (q0 rfl) (q0 rfl) (q0 rfl))) (fun _ w hm => (by have := Number_w (sl p0) (sl p1) (sl p2) (sl p3) (.int .i64 p4) fA fn fc fines ((if more < 49709 - days then more else 49709 - days) + days) A n c vs k0 w (hf.mem hm) (hx.mem hm); rw [numR_ok (cErr_days hc hq0.1 hq0.2.1) hv] at this; exact this)) rfl rfl ?_
            refine xV (e_mv (q0 rfl)) rfl rfl ?_
            refine xV (e_ext (q0 rfl) rfl) rfl rfl ?_
            refine xV (e_ext (q0 rfl) rfl) rfl rfl ?_
            refine xV (e_as (v := .int _ _) (q0 rfl)) rfl rfl ?_
            refine xV (e_as (v := .int _ _) (q0 rfl)) rfl rfl ?_
            refine XN ?_
            refine thenJ_normal ?_
            refine H_seq ?_
            refine R0 ?_
            refine xV (e_lds Try.isAgg26 Try.sizeOf26 (q0 rfl) (by first | exact bxs 0 rfl | exact bxs 1 rfl | exact bxs 2 rfl | exact bxs 3 rfl | exact bxs 4 rfl | exact bxs 5 rfl | exact bxs 6 rfl | exact bxs 7 rfl | exact bxs 8 rfl | exact bxs 9 rfl | exact rcs ‹_› ‹_›) rfl) rfl rfl ?_
            refine xV (e_mv (v := .slice _ _ _) (q0 rfl)) rfl rfl ?_
            refine xV (e_mv (v := .int _ _) (q0 rfl)) rfl rfl ?_
            refine xC (en Try.call16 (ha3 (q0 rfl) (q0 rfl) (q0 rfl))) (fun _ w hm => (by have := Number_w (sl p0) (sl p1) (sl p2) (sl p3) (.int .i64 p4) fA fn fc fines 49709 A n c vs k0 w (hf.mem hm) (hx.mem hm); rw [numR_ok (cErr_days hc (by omega) (by omega)) hv] at this; exact this)) rfl rfl ?_
            refine xV (e_mv (q0 rfl)) rfl rfl ?_
            refine xV (e_ext (q0 rfl) rfl) rfl rfl ?_
            refine xV (e_ext (q0 rfl) rfl) rfl rfl ?_
            refine xV (e_as (v := .int _ _) (q0 rfl)) rfl rfl ?_
            refine xV (e_as (v := .int _ _) (q0 rfl)) rfl rfl ?_
            refine XN ?_
            refine thenJ_normal ?_
            refine H_seq ?_
            refine R0 ?_
            refine xV (e_as (v := .int _ _) (q0 rfl)) rfl rfl ?_
            refine XN ?_
            refine thenJ_normal ?_
            refine H_seq ?_
            refine H_seq ?_
            refine R0 ?_
            refine xV (e_as (v := .int _ _) (q0 rfl)) rfl rfl ?_
            refine XN ?_
            refine thenJ_normal ?_
            refine H_block ?_
            refine H_loop [17, 18, 95, 96, 97, 98, 99, 100, 101, 102, 103, 104, 105, 106, 107, 108, 109, 110, 111, 112, 113, 114, 115, 116, 117, 118, 119, 120, 121, 122, 123, 124, 125, 126, 127, 128, 129, 130, 131, 132, 133, 134, 135, 136, 137, 138, 139, 140, 141, 142, 143, 144, 145] (fun k : Nat => [(17, .int .i64 (dRun vs v k0 k)), (18, .int .i64 k)]) (fun _ => _) (fun k => k ≤ n) (fun k => n - k) 0 ⟨by unfold dRun; rfl, rfl, trivial⟩ (fun _ h => h) rfl (Nat.zero_le _) ?_
            rintro k g' hkn
            have hdb := dRun_bound (l := vs) (v := v) (i := k0) k
            refine H_seq ?_
            refine H_seq ?_
            refine R0 ?_
            refine xV (e_mv (v := .int _ _) (q0 rfl)) rfl rfl ?_
            refine xV (e_mv (v := .slice _ _ _) (q0 rfl)) rfl rfl ?_
            refine xV (e_len Try.underlying27 (q0 rfl)) rfl rfl ?_
            refine xV (e_lt (q0 rfl) (q0 rfl)) rfl rfl ?_
            refine XN ?_
            refine thenJ_normal ?_
            refine H_cond rfl (fun hlt => ?_) (fun hlt => ?_)
            · simp at hlt
              obtain ⟨b, off, v', rfl, hbl, hv', hrv⟩ := hx.at_ hk0
              obtain rfl : v = v' := by rw [hv] at hv'; exact Option.some.inj hv'
              obtain ⟨x, hxk, hrx⟩ := hx.row hlt
              have hS := dRun_succ (v := v) (i := k0) hxk
              refine H_skip ?_
              refine thenJ_normal ?_
              refine H_seq ?_
              refine H_block ?_
              refine H_seq ?_
              refine R1 rfl (by decide +kernel) ?_
              refine xV (e_mv (v := .slice _ _ _) (q0 rfl)) rfl rfl ?_
              refine xV (e_mv (v := .int _ _) (q0 rfl)) rfl rfl ?_
              refine xV (e_idx _ Try.underlying27 Try.sizeOf37 (q0 rfl) (q0 rfl) (fun _ => ⟨rfl, by omega⟩)) rfl rfl ?_
              refine xV (e_fld Try.underlying37 rfl Try.sizeOf3 rfl (q0 rfl)) rfl rfl ?_
              refine xV (e_ld Try.isAgg3 (q0 rfl) (by first | exact bx 0 rfl rfl | exact bx 1 rfl rfl | exact bx 2 rfl rfl | exact bx 3 rfl rfl | exact bx 4 rfl rfl | exact bx 5 rfl rfl | exact bx 6 rfl rfl | exact bx 7 rfl rfl | exact bx 8 rfl rfl | exact bx 9 rfl rfl | exact rc ‹_› ‹_› rfl | exact rc0 ‹_› ‹_› rfl | exact xc ‹_› ‹_›)) rfl rfl ?_
              refine xV (e_eq (q0 rfl) (q0 rfl)) rfl rfl ?_
              refine xV (e_mv (v := .bool _) (q0 rfl)) rfl rfl ?_
              refine xVT (e_mv (v := .slice _ _ _) (q0 rfl)) rfl rfl rfl rfl ?_
              refine xVT (e_mv (v := .int _ _) (q0 rfl)) rfl rfl rfl rfl ?_
              refine xVT (e_idx _ Try.underlying27 Try.sizeOf37 (q1 rfl) (q1 rfl) (fun _ => ⟨rfl, by omega⟩)) rfl rfl rfl rfl ?_
              refine xVT (e_fld Try.underlying37 rfl Try.sizeOf3 rfl (q1 rfl)) rfl rfl rfl rfl ?_
              refine xVT (e_ld Try.isAgg3 (q1 rfl) (by first | exact bx 0 rfl rfl | exact bx 1 rfl rfl | exact bx 2 rfl rfl | exact bx 3 rfl rfl | exact bx 4 rfl rfl | exact bx 5 rfl rfl | exact bx 6 rfl rfl | exact bx 7 rfl rfl | exact bx 8 rfl rfl | exact bx 9 rfl rfl | exact rc ‹_› ‹_› rfl | exact rc0 ‹_› ‹_› rfl | exact xc ‹_› ‹_›)) rfl rfl rfl rfl ?_
              refine xVT (e_eq (q1 rfl) (q0 rfl)) rfl rfl rfl rfl ?_
              refine xV (e_and (q0 rfl) rfl (fun h => by first | rfl | (rw [h]; rfl))) rfl rfl ?_
              refine xV (e_mv (v := .bool _) (q0 rfl)) rfl rfl ?_
              refine xVT (e_mv (v := .slice _ _ _) (q0 rfl)) rfl rfl rfl rfl ?_
              refine xVT (e_mv (v := .int _ _) (q0 rfl)) rfl rfl rfl rfl ?_
              refine xVT (e_idx _ Try.underlying27 Try.sizeOf37 (q1 rfl) (q1 rfl) (fun _ => ⟨rfl, by omega⟩)) rfl rfl rfl rfl ?_
              refine xVT (e_fld Try.underlying37 rfl Try.sizeOf3 rfl (q1 rfl)) rfl rfl rfl rfl ?_
              refine xVT (e_ld Try.isAgg3 (q1 rfl) (by first | exact bx 0 rfl rfl | exact bx 1 rfl rfl | exact bx 2 rfl rfl | exact bx 3 rfl rfl | exact bx 4 rfl rfl | exact bx 5 rfl rfl | exact bx 6 rfl rfl | exact bx 7 rfl rfl | exact bx 8 rfl rfl | exact bx 9 rfl rfl | exact rc ‹_› ‹_› rfl | exact rc0 ‹_› ‹_› rfl | exact xc ‹_› ‹_›)) rfl rfl rfl rfl ?_
              refine xVT (e_mv (v := .slice _ _ _) (q0 rfl)) rfl rfl rfl rfl ?_
              refine xVT (e_mv (v := .int _ _) (q0 rfl)) rfl rfl rfl rfl ?_
              refine xVT (e_idx _ Try.underlying27 Try.sizeOf37 (q1 rfl) (q1 rfl) (fun _ => ⟨rfl, by omega⟩)) rfl rfl rfl rfl ?_
              refine xVT (e_fld Try.underlying37 rfl Try.sizeOf3 rfl (q1 rfl)) rfl rfl rfl rfl ?_
              refine xVT (e_ld Try.isAgg3 (q1 rfl) (by first | exact bx 0 rfl rfl | exact bx 1 rfl rfl | exact bx 2 rfl rfl | exact bx 3 rfl rfl | exact bx 4 rfl rfl | exact bx 5 rfl rfl | exact bx 6 rfl rfl | exact bx 7 rfl rfl | exact bx 8 rfl rfl | exact bx 9 rfl rfl | exact rc ‹_› ‹_› rfl | exact rc0 ‹_› ‹_› rfl | exact xc ‹_› ‹_›)) rfl rfl rfl rfl ?_
              refine xVT (e_eq (q1 rfl) (q1 rfl)) rfl rfl rfl rfl ?_
              refine xV (e_and (q0 rfl) rfl (fun h => by first | rfl | (rw [h]; rfl))) rfl rfl ?_
              refine xV (e_mv (v := .bool _) (q0 rfl)) rfl rfl ?_
              refine xVT (e_mv (v := .int _ _) (q0 rfl)) rfl rfl rfl rfl ?_
              refine xVT (e_mv (v := .int _ _) (q0 rfl)) rfl rfl rfl rfl ?_
              refine xVT (e_eq (q1 rfl) (q1 rfl)) rfl rfl rfl rfl ?_
              refine xVT (e_mv (v := .bool _) (q1 rfl)) rfl rfl rfl rfl ?_
              refine xVF2 (e_mv (v := .slice _ _ _) (q0 rfl)) rfl rfl rfl rfl ?_
              refine xVF2 (e_mv (v := .int _ _) (q0 rfl)) rfl rfl rfl rfl ?_
              refine xVF2 (e_idx _ Try.underlying27 Try.sizeOf37 (q1 rfl) (q1 rfl) (fun _ => ⟨rfl, by omega⟩)) rfl rfl rfl rfl ?_
              refine xVF2 (e_lds Try.isAgg37 Try.sizeOf37 (q1 rfl) (by first | exact bxs 0 rfl | exact bxs 1 rfl | exact bxs 2 rfl | exact bxs 3 rfl | exact bxs 4 rfl | exact bxs 5 rfl | exact bxs 6 rfl | exact bxs 7 rfl | exact bxs 8 rfl | exact bxs 9 rfl | exact rcs ‹_› ‹_›) rfl) rfl rfl rfl rfl ?_
              refine xVF2 (e_mv (v := .slice _ _ _) (q0 rfl)) rfl rfl rfl rfl ?_
              refine xVF2 (e_mv (v := .int _ _) (q0 rfl)) rfl rfl rfl rfl ?_
              refine xVF2 (e_idx _ Try.underlying27 Try.sizeOf37 (q1 rfl) (q1 rfl) (fun _ => ⟨rfl, by omega⟩)) rfl rfl rfl rfl ?_
              refine xVF2 (e_lds Try.isAgg37 Try.sizeOf37 (q1 rfl) (by first | exact bxs 0 rfl | exact bxs 1 rfl | exact bxs 2 rfl | exact bxs 3 rfl | exact bxs 4 rfl | exact bxs 5 rfl | exact bxs 6 rfl | exact bxs 7 rfl | exact bxs 8 rfl | exact bxs 9 rfl | exact rcs ‹_› ‹_›) rfl) rfl rfl rfl rfl ?_
              refine xCF2 (en Try.call22 (ha2 (q1 (v := .agg _) rfl) (q1 (v := .agg _) rfl))) (fun _ w _ => rbefore_w x v w) rfl rfl rfl rfl ?_
              refine xVT (e_or (q1 rfl) rfl (fun h => by first | rfl | (rw [h]; rfl))) rfl rfl rfl rfl ?_
              refine xV (e_and (q0 rfl) rfl (fun h => by first | rfl | (rw [h]; rfl))) rfl rfl ?_
              refine XN ?_
              refine thenJ_normal ?_
              refine H_cond rfl (fun hcd => ?_) (fun hcd => ?_)
              · have hcd' : dCond v k0 k x = true := by simpa [dCond, Int.ofNat_inj] using hcd
                rw [if_pos hcd'] at hS
                refine R0 ?_
                refine xV (e_mv (v := .int _ _) (q0 rfl)) rfl rfl ?_
                refine xV (e_add (q0 rfl) (q0 rfl) (fun _ => ⟨rfl, by omega, by omega⟩)) rfl rfl ?_
                refine xV (e_as (v := .int _ _) (q0 rfl)) rfl rfl ?_
                refine XN ?_
                refine blockJ_normal ?_
                refine thenJ_normal ?_
                refine R0 ?_
                refine xV (e_mv (v := .int _ _) (q0 rfl)) rfl rfl ?_
                refine xV (e_add (q0 rfl) (q0 rfl) (fun _ => ⟨rfl, by omega, by omega⟩)) rfl rfl ?_
                refine xV (e_as (v := .int _ _) (q0 rfl)) rfl rfl ?_
                refine XN ?_
                exact loopJ_normal (k + 1) (by repeat (first | exact agree_self | exact agree_over | refine agree_upd rfl ?_ | refine agree_updL rfl ?_ | refine agree_over2 rfl ?_)) ⟨(congrArg (Value.int .i64) hS.symm : Value.int .i64 _ = _), rfl, trivial⟩ (fun _ h => h) rfl (by omega) (by show n - (k + 1) < n - k; omega)
              · have hcd' : ¬ dCond v k0 k x = true := by simpa [dCond, Int.ofNat_inj] using hcd
                rw [if_neg hcd', Int.add_zero] at hS
                refine H_skip ?_
                refine blockJ_normal ?_
                refine thenJ_normal ?_
                refine R0 ?_
                refine xV (e_mv (v := .int _ _) (q0 rfl)) rfl rfl ?_
                refine xV (e_add (q0 rfl) (q0 rfl) (fun _ => ⟨rfl, by omega, by omega⟩)) rfl rfl ?_
                refine xV (e_as (v := .int _ _) (q0 rfl)) rfl rfl ?_
                refine XN ?_
                exact loopJ_normal (k + 1) (by repeat (first | exact agree_self | exact agree_over | refine agree_upd rfl ?_ | refine agree_updL rfl ?_ | refine agree_over2 rfl ?_)) ⟨(congrArg (Value.int .i64) hS.symm : Value.int .i64 _ = _), rfl, trivial⟩ (fun _ h => h) rfl (by omega) (by show n - (k + 1) < n - k; omega)
            · obtain rfl : k = n := by simp at hlt; omega
              have e1 := num_mono (v := v) (l := vs) hq0.2.2
              have e2 := num_mono (v := v) (l := vs) hq0.2.1
              have e3 := dRun_all hv htm hl.symm
              refine H_exit ?_
              refine thenJ_exit ?_
              refine loopJ_exit ?_
              refine blockJ_hit ?_
              refine thenJ_normal ?_
              refine H_seq ?_
              refine R0 ?_
              refine xV (e_mv (v := .int _ _) (q0 rfl)) rfl rfl ?_
              refine xV (e_eq (q0 rfl) (q0 rfl)) rfl rfl ?_
              refine xV (e_mv (v := .bool _) (q0 rfl)) rfl rfl ?_
              refine xVT (e_mv (v := .int _ _) (q0 rfl)) rfl rfl rfl rfl ?_
              refine xVT (e_eq (q1 rfl) (q0 rfl)) rfl rfl rfl rfl ?_
              refine xV (e_and (q0 rfl) rfl (fun h => by first | rfl | (rw [h]; rfl))) rfl rfl ?_
              refine xV (e_mv (v := .bool _) (q0 rfl)) rfl rfl ?_
              refine xVT (e_mv (v := .int _ _) (q0 rfl)) rfl rfl rfl rfl ?_
              refine xVT (e_mv (v := .int _ _) (q0 rfl)) rfl rfl rfl rfl ?_
              refine xVT (e_le (q1 rfl) (q1 rfl)) rfl rfl rfl rfl ?_
              refine xV (e_and (q0 rfl) rfl (fun h => by first | rfl | (rw [h]; rfl))) rfl rfl ?_
              refine xV (e_mv (v := .bool _) (q0 rfl)) rfl rfl ?_
              refine xVT (e_mv (v := .int _ _) (q0 rfl)) rfl rfl rfl rfl ?_
              refine xVT (e_mv (v := .int _ _) (q0 rfl)) rfl rfl rfl rfl ?_
              refine xVT (e_le (q1 rfl) (q1 rfl)) rfl rfl rfl rfl ?_
              refine xV (e_and (q0 rfl) rfl (fun h => by first | rfl | (rw [h]; rfl))) rfl rfl ?_
              refine xV (e_mv (v := .bool _) (q0 rfl)) rfl rfl ?_
              refine xVT (e_mv (v := .int _ _) (q0 rfl)) rfl rfl rfl rfl ?_
              refine xVT (e_mv (v := .int _ _) (q0 rfl)) rfl rfl rfl rfl ?_
              refine xVT (e_eq (q1 rfl) (q1 rfl)) rfl rfl rfl rfl ?_
              refine xV (e_and (q0 rfl) rfl (fun h => by first | rfl | (rw [h]; rfl))) rfl rfl ?_
              refine xV (e_mv (v := .bool _) (q0 rfl)) rfl rfl ?_
              refine xCT (en Try.call11 (ha0)) (fun _ w hm => awake_w w) rfl rfl rfl rfl ?_
              refine xV (e_and (q0 rfl) rfl (fun h => by first | rfl | (rw [h]; rfl))) rfl rfl ?_
              refine xV (e_as (v := .bool _) (q0 rfl)) rfl rfl ?_
              refine XN ?_
              refine thenJ_normal ?_
              refine H_ret ?_
              exact ret1 (v := .bool _) rfl rfl rfl fun w' hw => ⟨ret_bool (by rw [decide_eq_true e1, decide_eq_true e2, decide_eq_true e3]; rfl), hw.1⟩

end Go.Proofs.Pen
