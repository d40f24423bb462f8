/-
  The walk of the law Sums: penalties and totals.
-/
import Derived.Test.YtnehidbpliknaaaPf
namespace Go.Proofs.Pen
open Go Go.RowKit Go.Proofs.E

/-! the plain law -/
def isFirst (l : List V) (k : Nat) (v : V) : Bool := (l.take k).all fun x => !decide (x.rider = v.rider)
def seen (l : List V) (k : Nat) (x : V) : Bool := (l.take k).any fun y => decide (y.rider = x.rider)
def totalsTo (f : V → Int) (l : List V) (k : Nat) : Int := sumF f (l.filter (seen l k))
theorem sumF_cons {f : V → Int} {l : List V} {v : V} : sumF f (v :: l) = f v + sumF f l := by simp [sumF]
theorem seen_succ {l : List V} {k : Nat} {v : V} (hv : l[k]? = some v) (x : V) : seen l (k + 1) x = (seen l k x || decide (v.rider = x.rider)) := by
  unfold seen; rw [take_snoc _ _ _ hv]; simp
theorem first_seen {l : List V} {k : Nat} {v : V} : isFirst l k v = !seen l k v := by
  unfold isFirst seen; simp [List.all_eq_not_any_not]
theorem seen_congr {l : List V} {k : Nat} {v x : V} (h : v.rider = x.rider) : seen l k v = seen l k x := by unfold seen; rw [h]
theorem sumF_or {f : V → Int} {p q : V → Bool} (hd : ∀ x, p x = true → q x = true → False) : ∀ l : List V, sumF f (l.filter fun x => p x || q x) = sumF f (l.filter p) + sumF f (l.filter q)
  | [] => by simp [sumF]
  | v :: l => by
    have ih := sumF_or (f := f) hd l
    have h0 := hd v
    simp only [List.filter_cons]
    cases hp : p v <;> cases hq : q v <;> simp [hp, hq, sumF_cons, ih] at h0 ⊢ <;> omega
theorem totalsTo_first {f : V → Int} {l : List V} {k : Nat} {v : V} (hv : l[k]? = some v) (h : isFirst l k v = true) : totalsTo f l (k + 1) = totalsTo f l k + sumF f (l.filter fun x => decide (x.rider = v.rider)) := by
  unfold totalsTo
  have h1 : l.filter (seen l (k + 1)) = l.filter fun x => seen l k x || decide (x.rider = v.rider) := by
    congr 1; funext x; rw [seen_succ hv]; congr 1; exact decide_eq_decide.2 ⟨Eq.symm, Eq.symm⟩
  rw [h1, sumF_or]
  intro x h2 h3
  rw [first_seen, seen_congr (x := x) (of_decide_eq_true h3).symm, h2] at h
  cases h
theorem totalsTo_again {f : V → Int} {l : List V} {k : Nat} {v : V} (hv : l[k]? = some v) (h : isFirst l k v = false) : totalsTo f l (k + 1) = totalsTo f l k := by
  unfold totalsTo
  congr 2; funext x; rw [seen_succ hv]
  cases hx : decide (v.rider = x.rider) with
  | false => simp
  | true =>
    rw [first_seen, seen_congr (x := x) (of_decide_eq_true hx)] at h
    simp at h
    simp [h]
theorem totalsTo_zero {f : V → Int} {l : List V} : totalsTo f l 0 = 0 := by
  have : l.filter (seen l 0) = [] := List.filter_eq_nil_iff.2 fun x _ => by simp [seen]
  unfold totalsTo; rw [this]; rfl
theorem sumF_nil {f : V → Int} : sumF f [] = 0 := rfl
theorem totalsTo_all {f : V → Int} {l : List V} {k : Nat} (hk : l.length ≤ k) : totalsTo f l k = sumF f l := by
  unfold totalsTo
  congr 1
  refine List.filter_eq_self.2 fun x hx => ?_
  unfold seen
  rw [List.take_of_length_le hk]
  exact List.any_eq_true.2 ⟨x, hx, by simp⟩
theorem sumF_le_filter {f : V → Int} (hf : ∀ v, 0 ≤ f v ∧ f v ≤ 1000000) (p : V → Bool) (l : List V) (hl : l.length ≤ 40) : 0 ≤ sumF f (l.filter p) ∧ sumF f (l.filter p) ≤ 40000000 := by
  have h1 := sumF_le hf (l.filter p)
  have h2 := List.length_filter_le p l
  omega
theorem totalsTo_le {f : V → Int} (hf : ∀ v, 0 ≤ f v ∧ f v ≤ 1000000) {l : List V} {k : Nat} (hl : l.length ≤ 40) : 0 ≤ totalsTo f l k ∧ totalsTo f l k ≤ 40000000 := sumF_le_filter hf (seen l k) l hl
theorem totalR_ok {fines : List Int} {days : Int} {vs : List V} {rider : Int} (hc : cErr fines days vs = 0) (hl : vs.length ≤ 40) : totalR fines days vs rider = (sumF (fine fines days vs) (vs.filter fun x => decide (x.rider = rider)), 0) := by
  have hp := (pErr_ok2 (cErr_ok hc).1).2.1
  have h1 := sumF_le_filter (f := fine fines days vs) (fun v => fine_le hp) (fun x => decide (x.rider = rider)) vs hl
  have h2 : total fines days vs rider = sumF (fine fines days vs) (vs.filter fun x => decide (x.rider = rider)) := sumF_viol vs
  unfold totalR
  rw [if_neg (by simpa using hc), h2, if_neg (by omega)]
theorem fineR_ok {fines : List Int} {days : Int} {vs : List V} {k : Nat} {v : V} (hc : cErr fines days vs = 0) (hv : vs[k]? = some v) : fineR fines days vs (k : Int) = (fine fines days vs v, 0) := by
  have := (List.getElem?_eq_some_iff.1 hv).1
  unfold fineR
  rw [if_neg (by simpa using hc), if_neg (by omega), List.getD_eq_getElem?_getD, Int.toNat_natCast, hv]
  rfl

theorem sumF_yes {f : V → Int} {l : List V} {k : Nat} {v : V} {r : Int} (hv : l[k]? = some v) (h : decide (v.rider = r) = true) : sumF f ((l.take (k + 1)).filter fun x => decide (x.rider = r)) = sumF f ((l.take k).filter fun x => decide (x.rider = r)) + f v := by
  rw [take_snoc _ _ _ hv, List.filter_append, show [v].filter (fun x => decide (x.rider = r)) = [v] by simp [h], sumF_snoc]
theorem sumF_no {f : V → Int} {l : List V} {k : Nat} {v : V} {r : Int} (hv : l[k]? = some v) (h : decide (v.rider = r) = false) : sumF f ((l.take (k + 1)).filter fun x => decide (x.rider = r)) = sumF f ((l.take k).filter fun x => decide (x.rider = r)) := by
  rw [take_snoc _ _ _ hv, List.filter_append, show [v].filter (fun x => decide (x.rider = r)) = [] by simp [h], List.append_nil]
theorem isFirst_zero {l : List V} {v : V} : isFirst l 0 v = true := by simp [isFirst]
theorem isFirst_succ {l : List V} {k : Nat} {v x : V} (hx : l[k]? = some x) : isFirst l (k + 1) v = (isFirst l k v && !decide (x.rider = v.rider)) := by
  unfold isFirst; rw [take_snoc _ _ _ hx]; simp

attribute [local irreducible] pErr vErr cErr numR fineR totalR sumF fine totalsTo isFirst

theorem sums_w (a0 a1 a2 a3 a4 : Value) (fA : Option Addr) (fn fc : Nat) (fines : List Int) (days : Int) (A : Option Addr) (n c : Nat) (vs : List V) (rider : Int) (w : World) (hf : IntsAt w fA fn fines) (hx : VsAt w A n vs) :
    Calls Try.prog 9 #[.agg #[a0, a1, a2, a3, a4, .slice fA fn fc, .int .i64 days], .slice A n c, .int .i64 rider] w fun e w' => e = .returned (.bool true) ∧ Below w.heap.size w w' := by
  have hl := hx.1
  refine H_enter Try.func9 rfl Try.ntmps9 rfl ?_
  refine H_seq ?_
  refine R0 ?_
  refine X_box (v := .agg _) rfl rfl fun b3 => ?_
  refine xV (e_as (v := .bool _) (q0 rfl)) rfl rfl ?_
  refine XN ?_
  refine thenJ_normal ?_
  refine H_seq ?_
  refine H_seq ?_
  refine R0 ?_
  refine xV (e_mv (v := .slice _ _ _) (q0 rfl)) rfl rfl ?_
  refine xV (e_len Try.underlying27 (q0 rfl)) rfl rfl ?_
  refine xV (e_gt (q0 rfl) (q0 rfl)) rfl rfl ?_
  refine xV (e_mv (v := .bool _) (q0 rfl)) rfl rfl ?_
  refine xVF (e_fld Try.underlying26 rfl Try.sizeOf24 rfl (q0 rfl)) rfl rfl rfl rfl ?_
  refine xVF (e_ld Try.isAgg24 (q1 rfl) (by first | exact bx 0 rfl rfl | exact bx 1 rfl rfl | exact bx 2 rfl rfl | exact bx 3 rfl rfl | exact bx 4 rfl rfl | exact bx 5 rfl rfl | exact bx 6 rfl rfl | exact bx 7 rfl rfl | exact bx 8 rfl rfl | exact bx 9 rfl rfl | exact rc ‹_› ‹_› rfl | exact rc0 ‹_› ‹_› rfl | exact xc ‹_› ‹_›)) rfl rfl rfl rfl ?_
  refine xVF (e_len Try.underlying24 (q1 rfl)) rfl rfl rfl rfl ?_
  refine xVF (e_gt (q1 rfl) (q0 rfl)) rfl rfl rfl rfl ?_
  refine xV (e_or (q0 rfl) rfl (fun h => by first | rfl | (rw [h]; rfl))) rfl rfl ?_
  refine XN ?_
  refine thenJ_normal ?_
  refine H_cond rfl (fun hb => ?_) (fun hb => ?_)
  · refine H_seq ?_
    refine R0 ?_
    refine xC (en Try.call11 (ha0)) (fun _ w hm => awake_w w) rfl rfl ?_
    refine xV (e_as (v := .bool _) (q0 rfl)) rfl rfl ?_
    refine XN ?_
    refine thenJ_normal ?_
    refine H_ret ?_
    refine thenJ_ret ?_
    exact ret1 (v := .bool _) rfl rfl rfl fun w' hw => ⟨rfl, hw.1⟩
  · have h40 : vs.length ≤ 40 := by simp at hb; omega
    by_cases hc : cErr fines days vs = 0
    case neg =>
      have htr : totalR fines days vs rider = (0, cErr fines days vs) := totalR_err rfl hc
      refine H_skip ?_
      refine thenJ_normal ?_
      refine H_seq ?_
      refine R0 ?_
      refine xV (e_lds Try.isAgg26 Try.sizeOf26 (q0 rfl) (by first | exact bxs 0 rfl | exact bxs 1 rfl | exact bxs 2 rfl | exact bxs 3 rfl | exact bxs 4 rfl | exact bxs 5 rfl | exact bxs 6 rfl | exact bxs 7 rfl | exact bxs 8 rfl | exact bxs 9 rfl | exact rcs ‹_› ‹_›) rfl) rfl rfl ?_
      refine xV (e_mv (v := .slice _ _ _) (q0 rfl)) rfl rfl ?_
      refine xV (e_mv (v := .int _ _) (q0 rfl)) rfl rfl ?_
      refine xC (en Try.call20 (ha3 (q0 rfl) (q0 rfl) (q0 rfl))) (fun _ w hm => (by have := Total_w a0 a1 a2 a3 a4 fA fn fc fines days A n c vs rider w (hf.mem hm) (hx.mem hm); rw [htr] at this; exact this)) rfl rfl ?_
      refine xV (e_mv (q0 rfl)) rfl rfl ?_
      refine xV (e_ext (q0 rfl) rfl) rfl rfl ?_
      refine xV (e_ext (q0 rfl) rfl) rfl rfl ?_
      refine xV (e_as (v := .int _ _) (q0 rfl)) rfl rfl ?_
      refine xV (e_as (v := .int _ _) (q0 rfl)) rfl rfl ?_
      refine XN ?_
      refine thenJ_normal ?_
      refine H_seq ?_
      refine H_seq ?_
      refine R0 ?_
      refine xV (e_mv (v := .int _ _) (q0 rfl)) rfl rfl ?_
      refine xV (e_ne (q0 rfl) (q0 rfl)) rfl rfl ?_
      refine XN ?_
      refine thenJ_normal ?_
      refine H_cond rfl (fun hz => ?_) (fun hz => ?_)
      · refine H_seq ?_
        refine R0 ?_
        refine xV (e_mv (v := .int _ _) (q0 rfl)) rfl rfl ?_
        refine xV (e_eq (q0 rfl) (q0 rfl)) rfl rfl ?_
        refine xV (e_mv (v := .bool _) (q0 rfl)) rfl rfl ?_
        refine xVT (e_lds Try.isAgg26 Try.sizeOf26 (q0 rfl) (by first | exact bxs 0 rfl | exact bxs 1 rfl | exact bxs 2 rfl | exact bxs 3 rfl | exact bxs 4 rfl | exact bxs 5 rfl | exact bxs 6 rfl | exact bxs 7 rfl | exact bxs 8 rfl | exact bxs 9 rfl | exact rcs ‹_› ‹_›) rfl) rfl rfl rfl rfl ?_
        refine xCT (en Try.call12 (ha1 (q1 (v := .agg _) rfl))) (fun _ w hm => check_w a0 a1 a2 a3 a4 fA fn fc fines days w (hf.mem hm)) rfl rfl rfl rfl ?_
        refine xVT (e_mv (v := .int _ _) (q0 rfl)) rfl rfl rfl rfl ?_
        refine xVT (e_eq (q1 rfl) (q1 rfl)) rfl rfl rfl rfl ?_
        refine xVT (e_mv (v := .bool _) (q1 rfl)) rfl rfl rfl rfl ?_
        refine xVF2 (e_mv (v := .slice _ _ _) (q0 rfl)) rfl rfl rfl rfl ?_
        refine xCF2 (en Try.call14 (ha1 (q1 (v := .slice _ _ _) rfl))) (fun _ w hm => verd_w A n c vs w (hx.mem hm)) rfl rfl rfl rfl ?_
        refine xVF2 (e_mv (v := .int _ _) (q0 rfl)) rfl rfl rfl rfl ?_
        refine xVF2 (e_eq (q1 rfl) (q1 rfl)) rfl rfl rfl rfl ?_
        refine xVT (e_or (q1 rfl) rfl (fun h => by first | rfl | (rw [h]; rfl))) rfl rfl rfl rfl ?_
        refine xV (e_and (q0 rfl) rfl (fun h => by first | rfl | (rw [h]; rfl))) rfl rfl ?_
        refine xV (e_mv (v := .bool _) (q0 rfl)) rfl rfl ?_
        refine xCT (en Try.call11 (ha0)) (fun _ w hm => awake_w w) rfl rfl rfl rfl ?_
        refine xV (e_and (q0 rfl) rfl (fun h => by first | rfl | (rw [h]; rfl))) rfl rfl ?_
        refine xV (e_as (v := .bool _) (q0 rfl)) rfl rfl ?_
        refine XN ?_
        refine thenJ_normal ?_
        refine H_ret ?_
        refine thenJ_ret ?_
        exact ret1 (v := .bool _) rfl rfl rfl fun w' hw => ⟨ret_bool (by
          by_cases hp : pErr fines days = 0
          · rw [cErr_v hp]; simp
          · rw [cErr_p hp]; simp), hw.1⟩
      · exact absurd (by simpa using hz) hc
    case pos =>
      have htr : totalR fines days vs rider = _ := totalR_ok hc h40
      have hfl : ∀ v, 0 ≤ fine fines days vs v ∧ fine fines days vs v ≤ 1000000 := fun v => fine_le (pErr_ok2 (cErr_ok hc).1).2.1
      refine H_skip ?_
      refine thenJ_normal ?_
      refine H_seq ?_
      refine R0 ?_
      refine xV (e_lds Try.isAgg26 Try.sizeOf26 (q0 rfl) (by first | exact bxs 0 rfl | exact bxs 1 rfl | exact bxs 2 rfl | exact bxs 3 rfl | exact bxs 4 rfl | exact bxs 5 rfl | exact bxs 6 rfl | exact bxs 7 rfl | exact bxs 8 rfl | exact bxs 9 rfl | exact rcs ‹_› ‹_›) rfl) rfl rfl ?_
      refine xV (e_mv (v := .slice _ _ _) (q0 rfl)) rfl rfl ?_
      refine xV (e_mv (v := .int _ _) (q0 rfl)) rfl rfl ?_
      refine xC (en Try.call20 (ha3 (q0 rfl) (q0 rfl) (q0 rfl))) (fun _ w hm => (by have := Total_w a0 a1 a2 a3 a4 fA fn fc fines days A n c vs rider w (hf.mem hm) (hx.mem hm); rw [htr] at this; exact this)) rfl rfl ?_
      refine xV (e_mv (q0 rfl)) rfl rfl ?_
      refine xV (e_ext (q0 rfl) rfl) rfl rfl ?_
      refine xV (e_ext (q0 rfl) rfl) rfl rfl ?_
      refine xV (e_as (v := .int _ _) (q0 rfl)) rfl rfl ?_
      refine xV (e_as (v := .int _ _) (q0 rfl)) rfl rfl ?_
      refine XN ?_
      refine thenJ_normal ?_
      refine H_seq ?_
      refine H_seq ?_
      refine R0 ?_
      refine xV (e_mv (v := .int _ _) (q0 rfl)) rfl rfl ?_
      refine xV (e_ne (q0 rfl) (q0 rfl)) rfl rfl ?_
      refine XN ?_
      refine thenJ_normal ?_
      refine H_cond rfl (fun hz => ?_) (fun hz => ?_)
      · simp at hz
      · refine H_skip ?_
        refine thenJ_normal ?_
        refine H_seq ?_
        refine R0 ?_
        refine xV (e_as (v := .int _ _) (q0 rfl)) rfl rfl ?_
        refine xV (e_as (v := .int _ _) (q0 rfl)) rfl rfl ?_
        refine xV (e_as (v := .int _ _) (q0 rfl)) rfl rfl ?_
        refine XN ?_
        refine thenJ_normal ?_
        refine H_seq ?_
        refine H_seq ?_
        refine R0 ?_
        refine xV (e_as (v := .int _ _) (q0 rfl)) rfl rfl ?_
        refine XN ?_
        refine thenJ_normal ?_
        refine H_block ?_
        refine H_loop [6, 9, 10, 11, 12, 13, 14, 15, 16, 17, 18, 55, 56, 57, 58, 59, 60, 61, 62, 63, 64, 65, 66, 67, 68, 69, 70, 71, 72, 73, 74, 75, 76, 77, 78, 79, 80, 81, 82, 83, 84, 85, 86, 87, 88, 89, 90, 91, 92, 93, 94, 95, 96, 97, 98, 99, 100, 101, 102, 103, 104, 105, 106, 107, 108, 109, 110, 111, 112, 113, 114, 115, 116, 117, 118, 119, 120, 121, 122, 123] (fun k : Nat => [(9, .int .i64 (sumF (fine fines days vs) ((vs.take k).filter fun x => decide (x.rider = rider)))), (10, .int .i64 (sumF (fine fines days vs) (vs.take k))), (11, .int .i64 (totalsTo (fine fines days vs) vs k)), (12, .int .i64 k)]) (fun _ => _) (fun k => k ≤ n) (fun k => n - k) 0 ⟨(congrArg (Value.int .i64) sumF_nil.symm : Value.int .i64 0 = _), (congrArg (Value.int .i64) sumF_nil.symm : Value.int .i64 0 = _), (congrArg (Value.int .i64) totalsTo_zero.symm : Value.int .i64 0 = _), rfl, trivial⟩ (fun _ h => h) rfl (Nat.zero_le _) ?_
        rintro k g hk
        have hs1 := sumF_le_filter hfl (fun x => decide (x.rider = rider)) (vs.take k) (by rw [List.length_take]; omega)
        have hs2 := sumF_le hfl (vs.take k)
        rw [List.length_take] at hs2
        have hs3 : 0 ≤ totalsTo (fine fines days vs) vs k ∧ totalsTo (fine fines days vs) vs k ≤ 40000000 := totalsTo_le hfl h40
        refine H_seq ?_
        refine H_seq ?_
        refine R0 ?_
        refine xV (e_mv (v := .int _ _) (q0 rfl)) rfl rfl ?_
        refine xV (e_mv (v := .slice _ _ _) (q0 rfl)) rfl rfl ?_
        refine xV (e_len Try.underlying27 (q0 rfl)) rfl rfl ?_
        refine xV (e_lt (q0 rfl) (q0 rfl)) rfl rfl ?_
        refine XN ?_
        refine thenJ_normal ?_
        refine H_cond rfl (fun hlt => ?_) (fun hlt => ?_)
        · simp at hlt
          obtain ⟨b, off, v, rfl, hbl, hvk, hrv⟩ := hx.at_ hlt
          have hfr := fineR_ok hc hvk
          have hfv := hfl v
          have hall : sumF (fine fines days vs) (vs.take (k + 1)) = sumF (fine fines days vs) (vs.take k) + fine fines days vs v := by rw [take_snoc _ _ _ hvk, sumF_snoc]
          refine H_skip ?_
          refine thenJ_normal ?_
          refine H_seq ?_
          refine H_block ?_
          refine H_seq ?_
          refine R0 ?_
          refine xV (e_lds Try.isAgg26 Try.sizeOf26 (q0 rfl) (by first | exact bxs 0 rfl | exact bxs 1 rfl | exact bxs 2 rfl | exact bxs 3 rfl | exact bxs 4 rfl | exact bxs 5 rfl | exact bxs 6 rfl | exact bxs 7 rfl | exact bxs 8 rfl | exact bxs 9 rfl | exact rcs ‹_› ‹_›) rfl) rfl rfl ?_
          refine xV (e_mv (v := .slice _ _ _) (q0 rfl)) rfl rfl ?_
          refine xV (e_mv (v := .int _ _) (q0 rfl)) rfl rfl ?_
          refine xC (en Try.call18 (ha3 (q0 rfl) (q0 rfl) (q0 rfl))) (fun _ w hm => (by have := Fine_w a0 a1 a2 a3 a4 fA fn fc fines days _ n c vs (k : Int) w (hf.mem hm) (hx.mem hm); rw [hfr] at this; exact this)) rfl rfl ?_
          refine xV (e_mv (q0 rfl)) rfl rfl ?_
          refine xV (e_ext (q0 rfl) rfl) rfl rfl ?_
          refine xV (e_ext (q0 rfl) rfl) rfl rfl ?_
          refine xV (e_as (v := .int _ _) (q0 rfl)) rfl rfl ?_
          refine xV (e_as (v := .int _ _) (q0 rfl)) rfl rfl ?_
          refine XN ?_
          refine thenJ_normal ?_
          refine H_seq ?_
          refine H_seq ?_
          refine R0 ?_
          refine xV (e_mv (v := .int _ _) (q0 rfl)) rfl rfl ?_
          refine xV (e_ne (q0 rfl) (q0 rfl)) rfl rfl ?_
          refine xV (e_mv (v := .bool _) (q0 rfl)) rfl rfl ?_
          refine xVF (e_mv (v := .int _ _) (q0 rfl)) rfl rfl rfl rfl ?_
          refine xVF (e_lt (q1 rfl) (q0 rfl)) rfl rfl rfl rfl ?_
          refine xV (e_or (q0 rfl) rfl (fun h => by first | rfl | (rw [h]; rfl))) rfl rfl ?_
          refine XN ?_
          refine thenJ_normal ?_
          refine H_cond rfl (fun hz2 => ?_) (fun hz2 => ?_)
          · simp at hz2; omega
          · refine H_skip ?_
            refine thenJ_normal ?_
            refine H_seq ?_
            refine R0 ?_
            refine xV (e_mv (v := .int _ _) (q0 rfl)) rfl rfl ?_
            refine xV (e_mv (v := .int _ _) (q0 rfl)) rfl rfl ?_
            refine xV (e_add (q0 rfl) (q0 rfl) (fun _ => ⟨rfl, by omega, by omega⟩)) rfl rfl ?_
            refine xV (e_as (v := .int _ _) (q0 rfl)) rfl rfl ?_
            refine XN ?_
            refine thenJ_normal ?_
            refine H_seq ?_
            refine H_seq ?_
            refine R0 ?_
            refine xV (e_mv (v := .slice _ _ _) (q0 rfl)) rfl rfl ?_
            refine xV (e_mv (v := .int _ _) (q0 rfl)) rfl rfl ?_
            refine xV (e_idx _ Try.underlying27 Try.sizeOf37 (q0 rfl) (q0 rfl) (fun _ => ⟨rfl, by omega⟩)) rfl rfl ?_
            refine xV (e_fld Try.underlying37 rfl Try.sizeOf3 rfl (q0 rfl)) rfl rfl ?_
            refine xV (e_ld Try.isAgg3 (q0 rfl) (by first | exact bx 0 rfl rfl | exact bx 1 rfl rfl | exact bx 2 rfl rfl | exact bx 3 rfl rfl | exact bx 4 rfl rfl | exact bx 5 rfl rfl | exact bx 6 rfl rfl | exact bx 7 rfl rfl | exact bx 8 rfl rfl | exact bx 9 rfl rfl | exact rc ‹_› ‹_› rfl | exact rc0 ‹_› ‹_› rfl | exact xc ‹_› ‹_›)) rfl rfl ?_
            refine xV (e_mv (v := .int _ _) (q0 rfl)) rfl rfl ?_
            refine xV (e_eq (q0 rfl) (q0 rfl)) rfl rfl ?_
            refine XN ?_
            refine thenJ_normal ?_
            refine H_cond rfl (fun hr => ?_) (fun hr => ?_)
            · refine R0 ?_
              refine xV (e_mv (v := .int _ _) (q0 rfl)) rfl rfl ?_
              refine xV (e_mv (v := .int _ _) (q0 rfl)) rfl rfl ?_
              refine xV (e_add (q0 rfl) (q0 rfl) (fun _ => ⟨rfl, by omega, by omega⟩)) rfl rfl ?_
              refine xV (e_as (v := .int _ _) (q0 rfl)) rfl rfl ?_
              refine XN ?_
              refine thenJ_normal ?_
              refine H_seq ?_
              refine R0 ?_
              refine xV (e_as (v := .bool _) (q0 rfl)) rfl rfl ?_
              refine XN ?_
              refine thenJ_normal ?_
              refine H_seq ?_
              refine H_seq ?_
              refine R0 ?_
              refine xV (e_as (v := .int _ _) (q0 rfl)) rfl rfl ?_
              refine XN ?_
              refine thenJ_normal ?_
              refine H_block ?_
              refine H_loop [15, 16, 87, 88, 89, 90, 91, 92, 93, 94, 95, 96, 97, 98, 99, 100, 101, 102, 103, 104, 105] (fun j : Nat => [(15, .bool (isFirst vs j v)), (16, .int .i64 j)]) (fun _ => _) (fun j => j ≤ k) (fun j => k - j) 0 ⟨(congrArg Value.bool (isFirst_zero).symm : Value.bool true = _), rfl, trivial⟩ (fun _ h => h) rfl (Nat.zero_le _) ?_
              rintro j g' hj
              refine H_seq ?_
              refine H_seq ?_
              refine R0 ?_
              refine xV (e_mv (v := .int _ _) (q0 rfl)) rfl rfl ?_
              refine xV (e_mv (v := .int _ _) (q0 rfl)) rfl rfl ?_
              refine xV (e_lt (q0 rfl) (q0 rfl)) rfl rfl ?_
              refine XN ?_
              refine thenJ_normal ?_
              refine H_cond rfl (fun hjk => ?_) (fun hjk => ?_)
              · simp at hjk
                obtain ⟨x, hxj, hrx⟩ := hx.row (i := j) (by omega)
                refine H_skip ?_
                refine thenJ_normal ?_
                refine H_seq ?_
                refine H_block ?_
                refine R1 rfl (by decide +kernel) ?_
                refine xV (e_mv (v := .bool _) (q0 rfl)) rfl rfl ?_
                refine xV (e_mv (v := .bool _) (q0 rfl)) rfl rfl ?_
                refine xVT (e_mv (v := .slice _ _ _) (q0 rfl)) rfl rfl rfl rfl ?_
                refine xVT (e_mv (v := .int _ _) (q0 rfl)) rfl rfl rfl rfl ?_
                refine xVT (e_idx _ Try.underlying27 Try.sizeOf37 (q1 rfl) (q1 rfl) (fun _ => ⟨rfl, by omega⟩)) rfl rfl rfl rfl ?_
                refine xVT (e_fld Try.underlying37 rfl Try.sizeOf3 rfl (q1 rfl)) rfl rfl rfl rfl ?_
                refine xVT (e_ld Try.isAgg3 (q1 rfl) (by first | exact bx 0 rfl rfl | exact bx 1 rfl rfl | exact bx 2 rfl rfl | exact bx 3 rfl rfl | exact bx 4 rfl rfl | exact bx 5 rfl rfl | exact bx 6 rfl rfl | exact bx 7 rfl rfl | exact bx 8 rfl rfl | exact bx 9 rfl rfl | exact rc ‹_› ‹_› rfl | exact rc0 ‹_› ‹_› rfl | exact xc ‹_› ‹_›)) rfl rfl rfl rfl ?_
                refine xVT (e_mv (v := .slice _ _ _) (q0 rfl)) rfl rfl rfl rfl ?_
                refine xVT (e_mv (v := .int _ _) (q0 rfl)) rfl rfl rfl rfl ?_
                refine xVT (e_idx _ Try.underlying27 Try.sizeOf37 (q1 rfl) (q1 rfl) (fun _ => ⟨rfl, by omega⟩)) rfl rfl rfl rfl ?_
                refine xVT (e_fld Try.underlying37 rfl Try.sizeOf3 rfl (q1 rfl)) rfl rfl rfl rfl ?_
                refine xVT (e_ld Try.isAgg3 (q1 rfl) (by first | exact bx 0 rfl rfl | exact bx 1 rfl rfl | exact bx 2 rfl rfl | exact bx 3 rfl rfl | exact bx 4 rfl rfl | exact bx 5 rfl rfl | exact bx 6 rfl rfl | exact bx 7 rfl rfl | exact bx 8 rfl rfl | exact bx 9 rfl rfl | exact rc ‹_› ‹_› rfl | exact rc0 ‹_› ‹_› rfl | exact xc ‹_› ‹_›)) rfl rfl rfl rfl ?_
                refine xVT (e_ne (q1 rfl) (q1 rfl)) rfl rfl rfl rfl ?_
                refine xV (e_and (q0 rfl) rfl (fun h => by first | rfl | (rw [h]; rfl))) rfl rfl ?_
                refine xV (e_as (v := .bool _) (q0 rfl)) rfl rfl ?_
                refine XN ?_
                refine blockJ_normal ?_
                refine thenJ_normal ?_
                refine R0 ?_
                refine xV (e_mv (v := .int _ _) (q0 rfl)) rfl rfl ?_
                refine xV (e_add (q0 rfl) (q0 rfl) (fun _ => ⟨rfl, by omega, by omega⟩)) rfl rfl ?_
                refine xV (e_as (v := .int _ _) (q0 rfl)) rfl rfl ?_
                refine XN ?_
                exact loopJ_normal (j + 1) (by repeat (first | exact agree_self | exact agree_over | refine agree_upd rfl ?_ | refine agree_updL rfl ?_ | refine agree_over2 rfl ?_)) ⟨(congrArg Value.bool (isFirst_succ hxj).symm : Value.bool _ = _), rfl, trivial⟩ (fun _ h => h) rfl (by omega) (by show k - (j + 1) < k - j; omega)
              · obtain rfl : j = k := by simp at hjk; omega
                refine H_exit ?_
                refine thenJ_exit ?_
                refine loopJ_exit ?_
                refine blockJ_hit ?_
                refine thenJ_normal ?_
                refine H_seq ?_
                refine H_seq ?_
                refine R0 ?_
                refine xV (e_mv (v := .bool _) (q0 rfl)) rfl rfl ?_
                refine xV (e_not (q0 rfl)) rfl rfl ?_
                refine XN ?_
                refine thenJ_normal ?_
                refine H_cond rfl (fun hfi => ?_) (fun hfi => ?_)
                · have hfi' : isFirst vs j v = false := by simpa using hfi
                  refine H_exit ?_
                  refine thenJ_exit ?_
                  refine blockJ_hit ?_
                  refine thenJ_normal ?_
                  refine R0 ?_
                  refine xV (e_mv (v := .int _ _) (q0 rfl)) rfl rfl ?_
                  refine xV (e_add (q0 rfl) (q0 rfl) (fun _ => ⟨rfl, by omega, by omega⟩)) rfl rfl ?_
                  refine xV (e_as (v := .int _ _) (q0 rfl)) rfl rfl ?_
                  refine XN ?_
                  exact loopJ_normal (j + 1) (by repeat (first | exact agree_self | exact agree_over | refine agree_upd rfl ?_ | refine agree_updL rfl ?_ | refine agree_over2 rfl ?_)) ⟨(congrArg (Value.int .i64) (sumF_yes hvk hr).symm : Value.int .i64 _ = _), (congrArg (Value.int .i64) hall.symm : Value.int .i64 _ = _), (congrArg (Value.int .i64) (totalsTo_again hvk hfi').symm : Value.int .i64 _ = _), rfl, trivial⟩ (fun _ h => h) rfl (by omega) (by show n - (j + 1) < n - j; omega)
                · have hfi' : isFirst vs j v = true := by simpa using hfi
                  have htv := totalR_ok (rider := v.rider) hc h40
                  have hsv := sumF_le_filter hfl (fun x => decide (x.rider = v.rider)) vs h40
                  refine H_skip ?_
                  refine thenJ_normal ?_
                  refine H_seq ?_
                  refine R1 rfl (by decide +kernel) ?_
                  refine xV (e_lds Try.isAgg26 Try.sizeOf26 (q0 rfl) (by first | exact bxs 0 rfl | exact bxs 1 rfl | exact bxs 2 rfl | exact bxs 3 rfl | exact bxs 4 rfl | exact bxs 5 rfl | exact bxs 6 rfl | exact bxs 7 rfl | exact bxs 8 rfl | exact bxs 9 rfl | exact rcs ‹_› ‹_›) rfl) rfl rfl ?_
                  refine xV (e_mv (v := .slice _ _ _) (q0 rfl)) rfl rfl ?_
                  refine xV (e_mv (v := .slice _ _ _) (q0 rfl)) rfl rfl ?_
                  refine xV (e_mv (v := .int _ _) (q0 rfl)) rfl rfl ?_
                  refine xV (e_idx _ Try.underlying27 Try.sizeOf37 (q0 rfl) (q0 rfl) (fun _ => ⟨rfl, by omega⟩)) rfl rfl ?_
                  refine xV (e_fld Try.underlying37 rfl Try.sizeOf3 rfl (q0 rfl)) rfl rfl ?_
                  refine xV (e_ld Try.isAgg3 (q0 rfl) (by first | exact bx 0 rfl rfl | exact bx 1 rfl rfl | exact bx 2 rfl rfl | exact bx 3 rfl rfl | exact bx 4 rfl rfl | exact bx 5 rfl rfl | exact bx 6 rfl rfl | exact bx 7 rfl rfl | exact bx 8 rfl rfl | exact bx 9 rfl rfl | exact rc ‹_› ‹_› rfl | exact rc0 ‹_› ‹_› rfl | exact xc ‹_› ‹_›)) rfl rfl ?_
                  refine xC (en Try.call20 (ha3 (q0 rfl) (q0 rfl) (q0 rfl))) (fun _ w hm => (by have := Total_w a0 a1 a2 a3 a4 fA fn fc fines days _ n c vs v.rider w (hf.mem hm) (hx.mem hm); rw [htv] at this; exact this)) rfl rfl ?_
                  refine xV (e_mv (q0 rfl)) rfl rfl ?_
                  refine xV (e_ext (q0 rfl) rfl) rfl rfl ?_
                  refine xV (e_ext (q0 rfl) rfl) rfl rfl ?_
                  refine xV (e_as (v := .int _ _) (q0 rfl)) rfl rfl ?_
                  refine xV (e_as (v := .int _ _) (q0 rfl)) rfl rfl ?_
                  refine XN ?_
                  refine thenJ_normal ?_
                  refine H_seq ?_
                  refine H_seq ?_
                  refine R0 ?_
                  refine xV (e_mv (v := .int _ _) (q0 rfl)) rfl rfl ?_
                  refine xV (e_ne (q0 rfl) (q0 rfl)) rfl rfl ?_
                  refine XN ?_
                  refine thenJ_normal ?_
                  refine H_cond rfl (fun hg => ?_) (fun hg => ?_)
                  · simp at hg
                  · refine H_skip ?_
                    refine thenJ_normal ?_
                    refine R0 ?_
                    refine xV (e_mv (v := .int _ _) (q0 rfl)) rfl rfl ?_
                    refine xV (e_mv (v := .int _ _) (q0 rfl)) rfl rfl ?_
                    refine xV (e_add (q0 rfl) (q0 rfl) (fun _ => ⟨rfl, by omega, by omega⟩)) rfl rfl ?_
                    refine xV (e_as (v := .int _ _) (q0 rfl)) rfl rfl ?_
                    refine XN ?_
                    refine blockJ_normal ?_
                    refine thenJ_normal ?_
                    refine R0 ?_
                    refine xV (e_mv (v := .int _ _) (q0 rfl)) rfl rfl ?_
                    refine xV (e_add (q0 rfl) (q0 rfl) (fun _ => ⟨rfl, by omega, by omega⟩)) rfl rfl ?_
                    refine xV (e_as (v := .int _ _) (q0 rfl)) rfl rfl ?_
                    refine XN ?_
                    exact loopJ_normal (j + 1) (by repeat (first | exact agree_self | exact agree_over | refine agree_upd rfl ?_ | refine agree_updL rfl ?_ | refine agree_over2 rfl ?_)) ⟨(congrArg (Value.int .i64) (sumF_yes hvk hr).symm : Value.int .i64 _ = _), (congrArg (Value.int .i64) hall.symm : Value.int .i64 _ = _), (congrArg (Value.int .i64) (totalsTo_first hvk hfi').symm : Value.int .i64 _ = _), rfl, trivial⟩ (fun _ h => h) rfl (by omega) (by show n - (j + 1) < n - j; omega)
            · refine H_skip ?_
              refine thenJ_normal ?_
              refine H_seq ?_
              refine R0 ?_
              refine xV (e_as (v := .bool _) (q0 rfl)) rfl rfl ?_
              refine XN ?_
              refine thenJ_normal ?_
              refine H_seq ?_
              refine H_seq ?_
              refine R0 ?_
              refine xV (e_as (v := .int _ _) (q0 rfl)) rfl rfl ?_
              refine XN ?_
              refine thenJ_normal ?_
              refine H_block ?_
              refine H_loop [15, 16, 87, 88, 89, 90, 91, 92, 93, 94, 95, 96, 97, 98, 99, 100, 101, 102, 103, 104, 105] (fun j : Nat => [(15, .bool (isFirst vs j v)), (16, .int .i64 j)]) (fun _ => _) (fun j => j ≤ k) (fun j => k - j) 0 ⟨(congrArg Value.bool (isFirst_zero).symm : Value.bool true = _), rfl, trivial⟩ (fun _ h => h) rfl (Nat.zero_le _) ?_
              rintro j g' hj
              refine H_seq ?_
              refine H_seq ?_
              refine R0 ?_
              refine xV (e_mv (v := .int _ _) (q0 rfl)) rfl rfl ?_
              refine xV (e_mv (v := .int _ _) (q0 rfl)) rfl rfl ?_
              refine xV (e_lt (q0 rfl) (q0 rfl)) rfl rfl ?_
              refine XN ?_
              refine thenJ_normal ?_
              refine H_cond rfl (fun hjk => ?_) (fun hjk => ?_)
              · simp at hjk
                obtain ⟨x, hxj, hrx⟩ := hx.row (i := j) (by omega)
                refine H_skip ?_
                refine thenJ_normal ?_
                refine H_seq ?_
                refine H_block ?_
                refine R1 rfl (by decide +kernel) ?_
                refine xV (e_mv (v := .bool _) (q0 rfl)) rfl rfl ?_
                refine xV (e_mv (v := .bool _) (q0 rfl)) rfl rfl ?_
                refine xVT (e_mv (v := .slice _ _ _) (q0 rfl)) rfl rfl rfl rfl ?_
                refine xVT (e_mv (v := .int _ _) (q0 rfl)) rfl rfl rfl rfl ?_
                refine xVT (e_idx _ Try.underlying27 Try.sizeOf37 (q1 rfl) (q1 rfl) (fun _ => ⟨rfl, by omega⟩)) rfl rfl rfl rfl ?_
                refine xVT (e_fld Try.underlying37 rfl Try.sizeOf3 rfl (q1 rfl)) rfl rfl rfl rfl ?_
                refine xVT (e_ld Try.isAgg3 (q1 rfl) (by first | exact bx 0 rfl rfl | exact bx 1 rfl rfl | exact bx 2 rfl rfl | exact bx 3 rfl rfl | exact bx 4 rfl rfl | exact bx 5 rfl rfl | exact bx 6 rfl rfl | exact bx 7 rfl rfl | exact bx 8 rfl rfl | exact bx 9 rfl rfl | exact rc ‹_› ‹_› rfl | exact rc0 ‹_› ‹_› rfl | exact xc ‹_› ‹_›)) rfl rfl rfl rfl ?_
                refine xVT (e_mv (v := .slice _ _ _) (q0 rfl)) rfl rfl rfl rfl ?_
                refine xVT (e_mv (v := .int _ _) (q0 rfl)) rfl rfl rfl rfl ?_
                refine xVT (e_idx _ Try.underlying27 Try.sizeOf37 (q1 rfl) (q1 rfl) (fun _ => ⟨rfl, by omega⟩)) rfl rfl rfl rfl ?_
                refine xVT (e_fld Try.underlying37 rfl Try.sizeOf3 rfl (q1 rfl)) rfl rfl rfl rfl ?_
                refine xVT (e_ld Try.isAgg3 (q1 rfl) (by first | exact bx 0 rfl rfl | exact bx 1 rfl rfl | exact bx 2 rfl rfl | exact bx 3 rfl rfl | exact bx 4 rfl rfl | exact bx 5 rfl rfl | exact bx 6 rfl rfl | exact bx 7 rfl rfl | exact bx 8 rfl rfl | exact bx 9 rfl rfl | exact rc ‹_› ‹_› rfl | exact rc0 ‹_› ‹_› rfl | exact xc ‹_› ‹_›)) rfl rfl rfl rfl ?_
                refine xVT (e_ne (q1 rfl) (q1 rfl)) rfl rfl rfl rfl ?_
                refine xV (e_and (q0 rfl) rfl (fun h => by first | rfl | (rw [h]; rfl))) rfl rfl ?_
                refine xV (e_as (v := .bool _) (q0 rfl)) rfl rfl ?_
                refine XN ?_
                refine blockJ_normal ?_
                refine thenJ_normal ?_
                refine R0 ?_
                refine xV (e_mv (v := .int _ _) (q0 rfl)) rfl rfl ?_
                refine xV (e_add (q0 rfl) (q0 rfl) (fun _ => ⟨rfl, by omega, by omega⟩)) rfl rfl ?_
                refine xV (e_as (v := .int _ _) (q0 rfl)) rfl rfl ?_
                refine XN ?_
                exact loopJ_normal (j + 1) (by repeat (first | exact agree_self | exact agree_over | refine agree_upd rfl ?_ | refine agree_updL rfl ?_ | refine agree_over2 rfl ?_)) ⟨(congrArg Value.bool (isFirst_succ hxj).symm : Value.bool _ = _), rfl, trivial⟩ (fun _ h => h) rfl (by omega) (by show k - (j + 1) < k - j; omega)
              · obtain rfl : j = k := by simp at hjk; omega
                refine H_exit ?_
                refine thenJ_exit ?_
                refine loopJ_exit ?_
                refine blockJ_hit ?_
                refine thenJ_normal ?_
                refine H_seq ?_
                refine H_seq ?_
                refine R0 ?_
                refine xV (e_mv (v := .bool _) (q0 rfl)) rfl rfl ?_
                refine xV (e_not (q0 rfl)) rfl rfl ?_
                refine XN ?_
                refine thenJ_normal ?_
                refine H_cond rfl (fun hfi => ?_) (fun hfi => ?_)
                · have hfi' : isFirst vs j v = false := by simpa using hfi
                  refine H_exit ?_
                  refine thenJ_exit ?_
                  refine blockJ_hit ?_
                  refine thenJ_normal ?_
                  refine R0 ?_
                  refine xV (e_mv (v := .int _ _) (q0 rfl)) rfl rfl ?_
                  refine xV (e_add (q0 rfl) (q0 rfl) (fun _ => ⟨rfl, by omega, by omega⟩)) rfl rfl ?_
                  refine xV (e_as (v := .int _ _) (q0 rfl)) rfl rfl ?_
                  refine XN ?_
                  exact loopJ_normal (j + 1) (by repeat (first | exact agree_self | exact agree_over | refine agree_upd rfl ?_ | refine agree_updL rfl ?_ | refine agree_over2 rfl ?_)) ⟨(congrArg (Value.int .i64) (sumF_no hvk hr).symm : Value.int .i64 _ = _), (congrArg (Value.int .i64) hall.symm : Value.int .i64 _ = _), (congrArg (Value.int .i64) (totalsTo_again hvk hfi').symm : Value.int .i64 _ = _), rfl, trivial⟩ (fun _ h => h) rfl (by omega) (by show n - (j + 1) < n - j; omega)
                · have hfi' : isFirst vs j v = true := by simpa using hfi
                  have htv := totalR_ok (rider := v.rider) hc h40
                  have hsv := sumF_le_filter hfl (fun x => decide (x.rider = v.rider)) vs h40
                  refine H_skip ?_
                  refine thenJ_normal ?_
                  refine H_seq ?_
                  refine R1 rfl (by decide +kernel) ?_
                  refine xV (e_lds Try.isAgg26 Try.sizeOf26 (q0 rfl) (by first | exact bxs 0 rfl | exact bxs 1 rfl | exact bxs 2 rfl | exact bxs 3 rfl | exact bxs 4 rfl | exact bxs 5 rfl | exact bxs 6 rfl | exact bxs 7 rfl | exact bxs 8 rfl | exact bxs 9 rfl | exact rcs ‹_› ‹_›) rfl) rfl rfl ?_
                  refine xV (e_mv (v := .slice _ _ _) (q0 rfl)) rfl rfl ?_
                  refine xV (e_mv (v := .slice _ _ _) (q0 rfl)) rfl rfl ?_
                  refine xV (e_mv (v := .int _ _) (q0 rfl)) rfl rfl ?_
                  refine xV (e_idx _ Try.underlying27 Try.sizeOf37 (q0 rfl) (q0 rfl) (fun _ => ⟨rfl, by omega⟩)) rfl rfl ?_
                  refine xV (e_fld Try.underlying37 rfl Try.sizeOf3 rfl (q0 rfl)) rfl rfl ?_
                  refine xV (e_ld Try.isAgg3 (q0 rfl) (by first | exact bx 0 rfl rfl | exact bx 1 rfl rfl | exact bx 2 rfl rfl | exact bx 3 rfl rfl | exact bx 4 rfl rfl | exact bx 5 rfl rfl | exact bx 6 rfl rfl | exact bx 7 rfl rfl | exact bx 8 rfl rfl | exact bx 9 rfl rfl | exact rc ‹_› ‹_› rfl | exact rc0 ‹_› ‹_› rfl | exact xc ‹_› ‹_›)) rfl rfl ?_
                  refine xC (en Try.call20 (ha3 (q0 rfl) (q0 rfl) (q0 rfl))) (fun _ w hm => (by have := Total_w a0 a1 a2 a3 a4 fA fn fc fines days _ n c vs v.rider w (hf.mem hm) (hx.mem hm); rw [htv] at this; exact this)) rfl rfl ?_
                  refine xV (e_mv (q0 rfl)) rfl rfl ?_
                  refine xV (e_ext (q0 rfl) rfl) rfl rfl ?_
                  refine xV (e_ext (q0 rfl) rfl) rfl rfl ?_
                  refine xV (e_as (v := .int _ _) (q0 rfl)) rfl rfl ?_
                  refine xV (e_as (v := .int _ _) (q0 rfl)) rfl rfl ?_
                  refine XN ?_
                  refine thenJ_normal ?_
                  refine H_seq ?_
                  refine H_seq ?_
                  refine R0 ?_
                  refine xV (e_mv (v := .int _ _) (q0 rfl)) rfl rfl ?_
                  refine xV (e_ne (q0 rfl) (q0 rfl)) rfl rfl ?_
                  refine XN ?_
                  refine thenJ_normal ?_
                  refine H_cond rfl (fun hg => ?_) (fun hg => ?_)
                  · simp at hg
                  · refine H_skip ?_
                    refine thenJ_normal ?_
                    refine R0 ?_
                    refine xV (e_mv (v := .int _ _) (q0 rfl)) rfl rfl ?_
                    refine xV (e_mv (v := .int _ _) (q0 rfl)) rfl rfl ?_
                    refine xV (e_add (q0 rfl) (q0 rfl) (fun _ => ⟨rfl, by omega, by omega⟩)) rfl rfl ?_
                    refine xV (e_as (v := .int _ _) (q0 rfl)) rfl rfl ?_
                    refine XN ?_
                    refine blockJ_normal ?_
                    refine thenJ_normal ?_
                    refine R0 ?_
                    refine xV (e_mv (v := .int _ _) (q0 rfl)) rfl rfl ?_
                    refine xV (e_add (q0 rfl) (q0 rfl) (fun _ => ⟨rfl, by omega, by omega⟩)) rfl rfl ?_
                    refine xV (e_as (v := .int _ _) (q0 rfl)) rfl rfl ?_
                    refine XN ?_
                    exact loopJ_normal (j + 1) (by repeat (first | exact agree_self | exact agree_over | refine agree_upd rfl ?_ | refine agree_updL rfl ?_ | refine agree_over2 rfl ?_)) ⟨(congrArg (Value.int .i64) (sumF_no hvk hr).symm : Value.int .i64 _ = _), (congrArg (Value.int .i64) hall.symm : Value.int .i64 _ = _), (congrArg (Value.int .i64) (totalsTo_first hvk hfi').symm : Value.int .i64 _ = _), rfl, trivial⟩ (fun _ h => h) rfl (by omega) (by show n - (j + 1) < n - j; omega)
        · obtain rfl : k = n := by simp at hlt; omega
          refine H_exit ?_
          refine thenJ_exit ?_
          refine loopJ_exit ?_
          refine blockJ_hit ?_
          refine thenJ_normal ?_
          refine H_seq ?_
          refine R0 ?_
          refine xV (e_mv (v := .int _ _) (q0 rfl)) rfl rfl ?_
          refine xV (e_mv (v := .int _ _) (q0 rfl)) rfl rfl ?_
          refine xV (e_eq (q0 rfl) (q0 rfl)) rfl rfl ?_
          refine xV (e_mv (v := .bool _) (q0 rfl)) rfl rfl ?_
          refine xVT (e_mv (v := .int _ _) (q0 rfl)) rfl rfl rfl rfl ?_
          refine xVT (e_mv (v := .int _ _) (q0 rfl)) rfl rfl rfl rfl ?_
          refine xVT (e_eq (q1 rfl) (q1 rfl)) rfl rfl rfl rfl ?_
          refine xV (e_and (q0 rfl) rfl (fun h => by first | rfl | (rw [h]; rfl))) rfl rfl ?_
          refine xV (e_mv (v := .bool _) (q0 rfl)) rfl rfl ?_
          refine xCT (en Try.call11 (ha0)) (fun _ w hm => awake_w w) rfl rfl rfl rfl ?_
          refine xV (e_and (q0 rfl) rfl (fun h => by first | rfl | (rw [h]; rfl))) rfl rfl ?_
          refine xV (e_as (v := .bool _) (q0 rfl)) rfl rfl ?_
          refine XN ?_
          refine thenJ_normal ?_
          refine H_ret ?_
          exact ret1 (v := .bool _) rfl rfl rfl fun w' hw => ⟨ret_bool (by rw [List.take_of_length_le (show vs.length ≤ k by omega), totalsTo_all (by omega)]; simp), hw.1⟩

end Go.Proofs.Pen
