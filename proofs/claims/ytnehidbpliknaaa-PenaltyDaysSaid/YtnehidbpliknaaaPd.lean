/-
  The walks of the reference: numbers, penalties, totals.
-/
import Derived.Test.YtnehidbpliknaaaPc
namespace Go.Proofs.Pen
open Go Go.RowKit Go.Proofs.E

def rhit (days : Int) (v x : V) : Bool := ((decide (x.kind = 2) && decide (x.rider = v.rider)) && before x v) && inDays days x v
theorem rhit_eq (days : Int) (v x : V) : rhit days v x = hit days v x := by
  unfold rhit hit
  rw [show (x.rider == v.rider) = decide (x.rider = v.rider) from rfl, show (x.kind == 2) = decide (x.kind = 2) from rfl]
  cases decide (x.kind = 2) <;> cases decide (x.rider = v.rider) <;> cases before x v <;> cases inDays days x v <;> rfl
theorem cnt_snoc_yes {days : Int} {v x : V} {l : List V} {k : Nat} (hx : l[k]? = some x) (h : rhit days v x = true) : cnt days (l.take (k + 1)) v = cnt days (l.take k) v + 1 := by
  rw [rhit_eq] at h
  unfold cnt; rw [take_snoc _ _ _ hx, List.filter_append]; simp [h]
theorem cnt_snoc_no {days : Int} {v x : V} {l : List V} {k : Nat} (hx : l[k]? = some x) (h : rhit days v x = false) : cnt days (l.take (k + 1)) v = cnt days (l.take k) v := by
  rw [rhit_eq] at h
  unfold cnt; rw [take_snoc _ _ _ hx, List.filter_append]; simp [h]
theorem cnt_le {days : Int} {v : V} {l : List V} {k : Nat} : cnt days (l.take k) v ≤ k := by
  unfold cnt
  have h1 := List.length_filter_le (hit days v) (l.take k)
  have h2 := List.length_take_le k l
  omega

theorem cErr_p {fines : List Int} {days : Int} {vs : List V} (h : ¬ pErr fines days = 0) : cErr fines days vs = pErr fines days := by unfold cErr; rw [if_pos h]
theorem cErr_v {fines : List Int} {days : Int} {vs : List V} (h : pErr fines days = 0) : cErr fines days vs = vErr vs := by unfold cErr; rw [if_neg (by simpa using h)]
theorem numR_err {fines : List Int} {days : Int} {vs : List V} {i e : Int} (h : cErr fines days vs = e) (he : ¬ e = 0) : numR fines days vs i = (0, e) := by unfold numR; rw [h, if_pos he]
theorem fineR_err {fines : List Int} {days : Int} {vs : List V} {i e : Int} (h : cErr fines days vs = e) (he : ¬ e = 0) : fineR fines days vs i = (0, e) := by unfold fineR; rw [h, if_pos he]
theorem totalR_err {fines : List Int} {days : Int} {vs : List V} {i e : Int} (h : cErr fines days vs = e) (he : ¬ e = 0) : totalR fines days vs i = (0, e) := by unfold totalR; rw [h, if_pos he]

theorem rNumber_w (a0 a1 a2 a3 a4 : Value) (fA : Option Addr) (fn fc : Nat) (fines : List Int) (days : Int) (A : Option Addr) (n c : Nat) (vs : List V) (i : Int) (w : World) (hf : IntsAt w fA fn fines) (hx : VsAt w A n vs) :
    Calls Try.prog 17 #[.agg #[a0, a1, a2, a3, a4, .slice fA fn fc, .int .i64 days], .slice A n c, .int .i64 i] w fun e w' => e = .returned (.tuple #[.int .i64 (numR fines days vs i).1, .int .i64 (numR fines days vs i).2]) ∧ Below w.heap.size w w' := by
  have hl := hx.1
  refine H_enter Try.func17 rfl Try.ntmps17 rfl ?_
  refine H_seq ?_
  refine R0 ?_
  refine X_box (v := .agg _) rfl rfl fun b3 => ?_
  refine xV (e_as (v := .int _ _) (q0 rfl)) rfl rfl ?_
  refine xV (e_as (v := .int _ _) (q0 rfl)) rfl rfl ?_
  refine XN ?_
  refine thenJ_normal ?_
  refine H_seq ?_
  refine H_seq ?_
  refine R0 ?_
  refine xV (e_lds Try.isAgg26 Try.sizeOf26 (q0 rfl) (by first | exact bxs 0 rfl | exact bxs 1 rfl | exact bxs 2 rfl | exact bxs 3 rfl | exact bxs 4 rfl | exact bxs 5 rfl | exact bxs 6 rfl | exact bxs 7 rfl | exact bxs 8 rfl | exact bxs 9 rfl | exact rcs ‹_› ‹_›) rfl) rfl rfl ?_
  refine xC (en Try.call13 (ha1 (q0 rfl))) (fun _ w hm => rcheck_w a0 a1 a2 a3 a4 fA fn fc fines days w (hf.mem hm)) rfl rfl ?_
  refine xV (e_as (v := .int _ _) (q0 rfl)) rfl rfl ?_
  refine XN ?_
  refine thenJ_normal ?_
  refine H_seq ?_
  refine R0 ?_
  refine xV (e_mv (v := .int _ _) (q0 rfl)) rfl rfl ?_
  refine xV (e_ne (q0 rfl) (q0 rfl)) rfl rfl ?_
  refine XN ?_
  refine thenJ_normal ?_
  refine H_cond rfl (fun hz => ?_) (fun hz => ?_)
  · refine H_seq ?_
    refine R0 ?_
    refine xV (e_mv (v := .int _ _) (q0 rfl)) rfl rfl ?_
    refine xV (e_as (v := .int _ _) (q0 rfl)) rfl rfl ?_
    refine xV (e_as (v := .int _ _) (q0 rfl)) rfl rfl ?_
    refine XN ?_
    refine thenJ_normal ?_
    refine H_ret ?_
    refine thenJ_ret ?_
    exact ret2 (v := .int _ _) (x := .int _ _) rfl rfl rfl rfl fun w' hw => ⟨by simp at hz; rw [numR_err (cErr_p hz) hz] <;> rfl, hw.1⟩
  · have hz' : pErr fines days = 0 := by simpa using hz
    obtain ⟨hp1, hp2, hp3⟩ := pErr_ok2 hz'
    refine H_skip ?_
    refine thenJ_normal ?_
    refine H_seq ?_
    refine H_seq ?_
    refine R0 ?_
    refine xV (e_mv (v := .slice _ _ _) (q0 rfl)) rfl rfl ?_
    refine xC (en Try.call15 (ha1 (q0 rfl))) (fun _ w hm => rverd_w A n c vs w (hx.mem hm)) rfl rfl ?_
    refine xV (e_as (v := .int _ _) (q0 rfl)) rfl rfl ?_
    refine XN ?_
    refine thenJ_normal ?_
    refine H_seq ?_
    refine R0 ?_
    refine xV (e_mv (v := .int _ _) (q0 rfl)) rfl rfl ?_
    refine xV (e_ne (q0 rfl) (q0 rfl)) rfl rfl ?_
    refine XN ?_
    refine thenJ_normal ?_
    refine H_cond rfl (fun hy => ?_) (fun hy => ?_)
    · refine H_seq ?_
      refine R0 ?_
      refine xV (e_mv (v := .int _ _) (q0 rfl)) rfl rfl ?_
      refine xV (e_as (v := .int _ _) (q0 rfl)) rfl rfl ?_
      refine xV (e_as (v := .int _ _) (q0 rfl)) rfl rfl ?_
      refine XN ?_
      refine thenJ_normal ?_
      refine H_ret ?_
      refine thenJ_ret ?_
      exact ret2 (v := .int _ _) (x := .int _ _) rfl rfl rfl rfl fun w' hw => ⟨by simp at hy; rw [numR_err (cErr_v hz') hy] <;> rfl, hw.1⟩
    · have hv : vErr vs = 0 := by simpa using hy
      have hc : cErr fines days vs = 0 := by rw [cErr_v hz']; exact hv
      have h256 := (vErr_ok hv).1
      refine H_skip ?_
      refine thenJ_normal ?_
      refine H_seq ?_
      refine H_seq ?_
      refine R0 ?_
      refine xV (e_mv (v := .int _ _) (q0 rfl)) rfl rfl ?_
      refine xV (e_lt (q0 rfl) (q0 rfl)) rfl rfl ?_
      refine xV (e_mv (v := .bool _) (q0 rfl)) rfl rfl ?_
      refine xVF (e_mv (v := .int _ _) (q0 rfl)) rfl rfl rfl rfl ?_
      refine xVF (e_mv (v := .slice _ _ _) (q0 rfl)) rfl rfl rfl rfl ?_
      refine xVF (e_len Try.underlying27 (q1 rfl)) rfl rfl rfl rfl ?_
      refine xVF (e_ge (q1 rfl) (q1 rfl)) rfl rfl rfl rfl ?_
      refine xV (e_or (q0 rfl) rfl (fun h => by first | rfl | (rw [h]; rfl))) rfl rfl ?_
      refine XN ?_
      refine thenJ_normal ?_
      refine H_cond rfl (fun hi => ?_) (fun hi => ?_)
      · refine H_seq ?_
        refine R0 ?_
        refine xV (e_as (v := .int _ _) (q0 rfl)) rfl rfl ?_
        refine xV (e_as (v := .int _ _) (q0 rfl)) rfl rfl ?_
        refine XN ?_
        refine thenJ_normal ?_
        refine H_ret ?_
        refine thenJ_ret ?_
        exact ret2 (v := .int _ _) (x := .int _ _) rfl rfl rfl rfl fun w' hw => ⟨by unfold numR; rw [if_neg (by simpa using hc), if_pos (by simp at hi; omega)] <;> rfl, hw.1⟩
      · simp at hi
        obtain ⟨k, rfl⟩ := Int.eq_ofNat_of_zero_le hi.1
        have hkn : k < n := by omega
        obtain ⟨b, off, v, rfl, hbl, hvk, hr⟩ := hx.at_ (i := k) (by omega)
        have hvt := timely_of hv v (List.mem_of_getElem? hvk)
        have hres : ∀ m, m = num days vs v → numR fines days vs (k : Int) = (m, 0) := fun m hm => by unfold numR; rw [if_neg (by simpa using hc), if_neg (by omega), List.getD_eq_getElem?_getD, Int.toNat_natCast, hvk, hm]; rfl
        refine H_skip ?_
        refine thenJ_normal ?_
        refine H_seq ?_
        refine H_seq ?_
        refine R0 ?_
        refine xV (e_mv (v := .slice _ _ _) (q0 rfl)) rfl rfl ?_
        refine xV (e_mv (v := .int _ _) (q0 rfl)) rfl rfl ?_
        refine xV (e_idx _ Try.underlying27 Try.sizeOf37 (q0 rfl) (q0 rfl) (fun _ => ⟨rfl, by omega⟩)) rfl rfl ?_
        refine xV (e_fld Try.underlying37 rfl Try.sizeOf3 rfl (q0 rfl)) rfl rfl ?_
        refine xV (e_ld Try.isAgg3 (q0 rfl) (by first | exact bx 0 rfl rfl | exact bx 1 rfl rfl | exact bx 2 rfl rfl | exact bx 3 rfl rfl | exact bx 4 rfl rfl | exact bx 5 rfl rfl | exact bx 6 rfl rfl | exact bx 7 rfl rfl | exact bx 8 rfl rfl | exact bx 9 rfl rfl | exact rc ‹_› ‹_› rfl | exact rc0 ‹_› ‹_› rfl | exact xc ‹_› ‹_›)) rfl rfl ?_
        refine xV (e_ne (q0 rfl) (q0 rfl)) rfl rfl ?_
        refine XN ?_
        refine thenJ_normal ?_
        refine H_cond rfl (fun hk => ?_) (fun hk => ?_)
        · refine H_seq ?_
          refine R0 ?_
          refine xV (e_as (v := .int _ _) (q0 rfl)) rfl rfl ?_
          refine xV (e_as (v := .int _ _) (q0 rfl)) rfl rfl ?_
          refine XN ?_
          refine thenJ_normal ?_
          refine H_ret ?_
          refine thenJ_ret ?_
          exact ret2 (v := .int _ _) (x := .int _ _) rfl rfl rfl rfl fun w' hw => ⟨by rw [hres 0 (by simp at hk; unfold num; rw [if_neg hk])] <;> rfl, hw.1⟩
        · have hk2 : v.kind = 2 := by simpa using hk
          refine H_skip ?_
          refine thenJ_normal ?_
          refine H_seq ?_
          refine R0 ?_
          refine xV (e_as (v := .int _ _) (q0 rfl)) rfl rfl ?_
          refine XN ?_
          refine thenJ_normal ?_
          refine H_seq ?_
          refine H_seq ?_
          refine R0 ?_
          refine xV (e_as (v := .int _ _) (q0 rfl)) rfl rfl ?_
          refine XN ?_
          refine thenJ_normal ?_
          refine H_block ?_
          refine H_loop [10, 11, 36, 37, 38, 39, 40, 41, 42, 43, 44, 45, 46, 47, 48, 49, 50, 51, 52, 53, 54, 55, 56, 57, 58, 59, 60, 61, 62, 63, 64, 65, 66, 67, 68, 69, 70, 71, 72, 73, 74, 75, 76, 77, 78, 79, 80, 81, 82, 83, 84, 85, 86, 87, 88, 89, 90, 91] (fun j : Nat => [(10, .int .i64 (1 + (cnt days (vs.take j) v : Int))), (11, .int .i64 j)]) (fun _ => _) (fun j => j ≤ n) (fun j => n - j) 0 ⟨rfl, rfl, trivial⟩ (fun _ h => h) rfl (Nat.zero_le _) ?_
          rintro j g hj
          have hcl := cnt_le (days := days) (v := v) (l := vs) (k := j)
          refine H_seq ?_
          refine H_seq ?_
          refine R0 ?_
          refine xV (e_mv (v := .int _ _) (q0 rfl)) rfl rfl ?_
          refine xV (e_mv (v := .slice _ _ _) (q0 rfl)) rfl rfl ?_
          refine xV (e_len Try.underlying27 (q0 rfl)) rfl rfl ?_
          refine xV (e_lt (q0 rfl) (q0 rfl)) rfl rfl ?_
          refine XN ?_
          refine thenJ_normal ?_
          refine H_cond rfl (fun hlt => ?_) (fun hlt => ?_)
          · simp at hlt
            obtain ⟨x, hxj, hrx⟩ := hx.row hlt
            have hxt := timely_of hv x (List.mem_of_getElem? hxj)
            refine H_skip ?_
            refine thenJ_normal ?_
            refine H_seq ?_
            refine H_block ?_
            refine H_seq ?_
            refine R1 rfl (by decide +kernel) ?_
            refine xV (e_mv (v := .slice _ _ _) (q0 rfl)) rfl rfl ?_
            refine xV (e_mv (v := .int _ _) (q0 rfl)) rfl rfl ?_
            refine xV (e_idx _ Try.underlying27 Try.sizeOf37 (q0 rfl) (q0 rfl) (fun _ => ⟨rfl, by omega⟩)) rfl rfl ?_
            refine xV (e_fld Try.underlying37 rfl Try.sizeOf3 rfl (q0 rfl)) rfl rfl ?_
            refine xV (e_ld Try.isAgg3 (q0 rfl) (by first | exact bx 0 rfl rfl | exact bx 1 rfl rfl | exact bx 2 rfl rfl | exact bx 3 rfl rfl | exact bx 4 rfl rfl | exact bx 5 rfl rfl | exact bx 6 rfl rfl | exact bx 7 rfl rfl | exact bx 8 rfl rfl | exact bx 9 rfl rfl | exact rc ‹_› ‹_› rfl | exact rc0 ‹_› ‹_› rfl | exact xc ‹_› ‹_›)) rfl rfl ?_
            refine xV (e_eq (q0 rfl) (q0 rfl)) rfl rfl ?_
            refine xV (e_mv (v := .bool _) (q0 rfl)) rfl rfl ?_
            refine xVT (e_mv (v := .slice _ _ _) (q0 rfl)) rfl rfl rfl rfl ?_
            refine xVT (e_mv (v := .int _ _) (q0 rfl)) rfl rfl rfl rfl ?_
            refine xVT (e_idx _ Try.underlying27 Try.sizeOf37 (q1 rfl) (q1 rfl) (fun _ => ⟨rfl, by omega⟩)) rfl rfl rfl rfl ?_
            refine xVT (e_fld Try.underlying37 rfl Try.sizeOf3 rfl (q1 rfl)) rfl rfl rfl rfl ?_
            refine xVT (e_ld Try.isAgg3 (q1 rfl) (by first | exact bx 0 rfl rfl | exact bx 1 rfl rfl | exact bx 2 rfl rfl | exact bx 3 rfl rfl | exact bx 4 rfl rfl | exact bx 5 rfl rfl | exact bx 6 rfl rfl | exact bx 7 rfl rfl | exact bx 8 rfl rfl | exact bx 9 rfl rfl | exact rc ‹_› ‹_› rfl | exact rc0 ‹_› ‹_› rfl | exact xc ‹_› ‹_›)) rfl rfl rfl rfl ?_
            refine xVT (e_mv (v := .slice _ _ _) (q0 rfl)) rfl rfl rfl rfl ?_
            refine xVT (e_mv (v := .int _ _) (q0 rfl)) rfl rfl rfl rfl ?_
            refine xVT (e_idx _ Try.underlying27 Try.sizeOf37 (q1 rfl) (q1 rfl) (fun _ => ⟨rfl, by omega⟩)) rfl rfl rfl rfl ?_
            refine xVT (e_fld Try.underlying37 rfl Try.sizeOf3 rfl (q1 rfl)) rfl rfl rfl rfl ?_
            refine xVT (e_ld Try.isAgg3 (q1 rfl) (by first | exact bx 0 rfl rfl | exact bx 1 rfl rfl | exact bx 2 rfl rfl | exact bx 3 rfl rfl | exact bx 4 rfl rfl | exact bx 5 rfl rfl | exact bx 6 rfl rfl | exact bx 7 rfl rfl | exact bx 8 rfl rfl | exact bx 9 rfl rfl | exact rc ‹_› ‹_› rfl | exact rc0 ‹_› ‹_› rfl | exact xc ‹_› ‹_›)) rfl rfl rfl rfl ?_
            refine xVT (e_eq (q1 rfl) (q1 rfl)) rfl rfl rfl rfl ?_
            refine xV (e_and (q0 rfl) rfl (fun h => by first | rfl | (rw [h]; rfl))) rfl rfl ?_
            refine xV (e_mv (v := .bool _) (q0 rfl)) rfl rfl ?_
            refine xVT (e_mv (v := .slice _ _ _) (q0 rfl)) rfl rfl rfl rfl ?_
            refine xVT (e_mv (v := .int _ _) (q0 rfl)) rfl rfl rfl rfl ?_
            refine xVT (e_idx _ Try.underlying27 Try.sizeOf37 (q1 rfl) (q1 rfl) (fun _ => ⟨rfl, by omega⟩)) rfl rfl rfl rfl ?_
            refine xVT (e_lds Try.isAgg37 Try.sizeOf37 (q1 rfl) (by first | exact bxs 0 rfl | exact bxs 1 rfl | exact bxs 2 rfl | exact bxs 3 rfl | exact bxs 4 rfl | exact bxs 5 rfl | exact bxs 6 rfl | exact bxs 7 rfl | exact bxs 8 rfl | exact bxs 9 rfl | exact rcs ‹_› ‹_›) rfl) rfl rfl rfl rfl ?_
            refine xVT (e_mv (v := .slice _ _ _) (q0 rfl)) rfl rfl rfl rfl ?_
            refine xVT (e_mv (v := .int _ _) (q0 rfl)) rfl rfl rfl rfl ?_
            refine xVT (e_idx _ Try.underlying27 Try.sizeOf37 (q1 rfl) (q1 rfl) (fun _ => ⟨rfl, by omega⟩)) rfl rfl rfl rfl ?_
            refine xVT (e_lds Try.isAgg37 Try.sizeOf37 (q1 rfl) (by first | exact bxs 0 rfl | exact bxs 1 rfl | exact bxs 2 rfl | exact bxs 3 rfl | exact bxs 4 rfl | exact bxs 5 rfl | exact bxs 6 rfl | exact bxs 7 rfl | exact bxs 8 rfl | exact bxs 9 rfl | exact rcs ‹_› ‹_›) rfl) rfl rfl rfl rfl ?_
            refine xCT (en Try.call22 (ha2 (q1 (v := .agg _) rfl) (q1 (v := .agg _) rfl))) (fun _ w _ => rbefore_w x v w) rfl rfl rfl rfl ?_
            refine xV (e_and (q0 rfl) rfl (fun h => by first | rfl | (rw [h]; rfl))) rfl rfl ?_
            refine xV (e_mv (v := .bool _) (q0 rfl)) rfl rfl ?_
            refine xVT (e_mv (v := .slice _ _ _) (q0 rfl)) rfl rfl rfl rfl ?_
            refine xVT (e_mv (v := .int _ _) (q0 rfl)) rfl rfl rfl rfl ?_
            refine xVT (e_idx _ Try.underlying27 Try.sizeOf37 (q1 rfl) (q1 rfl) (fun _ => ⟨rfl, by omega⟩)) rfl rfl rfl rfl ?_
            refine xVT (e_fld Try.underlying37 rfl Try.sizeOf3 rfl (q1 rfl)) rfl rfl rfl rfl ?_
            refine xVT (e_ld Try.isAgg3 (q1 rfl) (by first | exact bx 0 rfl rfl | exact bx 1 rfl rfl | exact bx 2 rfl rfl | exact bx 3 rfl rfl | exact bx 4 rfl rfl | exact bx 5 rfl rfl | exact bx 6 rfl rfl | exact bx 7 rfl rfl | exact bx 8 rfl rfl | exact bx 9 rfl rfl | exact rc ‹_› ‹_› rfl | exact rc0 ‹_› ‹_› rfl | exact xc ‹_› ‹_›)) rfl rfl rfl rfl ?_
            refine xVT (e_quo (q1 rfl) (q0 rfl) (fun _ => by omega)) rfl rfl rfl rfl ?_
            refine xVT (e_mv (v := .slice _ _ _) (q0 rfl)) rfl rfl rfl rfl ?_
            refine xVT (e_mv (v := .int _ _) (q0 rfl)) rfl rfl rfl rfl ?_
            refine xVT (e_idx _ Try.underlying27 Try.sizeOf37 (q1 rfl) (q1 rfl) (fun _ => ⟨rfl, by omega⟩)) rfl rfl rfl rfl ?_
            refine xVT (e_fld Try.underlying37 rfl Try.sizeOf3 rfl (q1 rfl)) rfl rfl rfl rfl ?_
            refine xVT (e_ld Try.isAgg3 (q1 rfl) (by first | exact bx 0 rfl rfl | exact bx 1 rfl rfl | exact bx 2 rfl rfl | exact bx 3 rfl rfl | exact bx 4 rfl rfl | exact bx 5 rfl rfl | exact bx 6 rfl rfl | exact bx 7 rfl rfl | exact bx 8 rfl rfl | exact bx 9 rfl rfl | exact rc ‹_› ‹_› rfl | exact rc0 ‹_› ‹_› rfl | exact xc ‹_› ‹_›)) rfl rfl rfl rfl ?_
            refine xVT (e_quo (q1 rfl) (q0 rfl) (fun _ => by omega)) rfl rfl rfl rfl ?_
            refine xVT (e_fld Try.underlying26 rfl Try.sizeOf3 rfl (q0 rfl)) rfl rfl rfl rfl ?_
            refine xVT (e_ld Try.isAgg3 (q1 rfl) (by first | exact bx 0 rfl rfl | exact bx 1 rfl rfl | exact bx 2 rfl rfl | exact bx 3 rfl rfl | exact bx 4 rfl rfl | exact bx 5 rfl rfl | exact bx 6 rfl rfl | exact bx 7 rfl rfl | exact bx 8 rfl rfl | exact bx 9 rfl rfl | exact rc ‹_› ‹_› rfl | exact rc0 ‹_› ‹_› rfl | exact xc ‹_› ‹_›)) rfl rfl rfl rfl ?_
            refine xVT (e_sub (q1 rfl) (q1 rfl) (fun _ => ⟨rfl, by omega, by omega⟩)) rfl rfl rfl rfl ?_
            refine xVT (e_ge (q1 rfl) (q1 rfl)) rfl rfl rfl rfl ?_
            refine xV (e_and (q0 rfl) rfl (fun h => by first | rfl | (rw [h]; rfl))) rfl rfl ?_
            refine XN ?_
            refine thenJ_normal ?_
            refine H_cond rfl (fun ha => ?_) (fun ha => ?_)
            · refine R0 ?_
              refine xV (e_mv (v := .int _ _) (q0 rfl)) rfl rfl ?_
              refine xV (e_add (q0 rfl) (q0 rfl) (fun _ => ⟨rfl, by omega, by omega⟩)) rfl rfl ?_
              refine xV (e_as (v := .int _ _) (q0 rfl)) rfl rfl ?_
              refine XN ?_
              refine blockJ_normal ?_
              refine thenJ_normal ?_
              refine R0 ?_
              refine xV (e_mv (v := .int _ _) (q0 rfl)) rfl rfl ?_
              refine xV (e_add (q0 rfl) (q0 rfl) (fun _ => ⟨rfl, by omega, by omega⟩)) rfl rfl ?_
              refine xV (e_as (v := .int _ _) (q0 rfl)) rfl rfl ?_
              refine XN ?_
              exact loopJ_normal (j + 1) (by repeat (first | exact agree_self | exact agree_over | refine agree_upd rfl ?_ | refine agree_updL rfl ?_ | refine agree_over2 rfl ?_)) ⟨by show _ = Value.int _ (1 + (cnt days (vs.take (j + 1)) v : Int)); rw [cnt_snoc_yes hxj ha]; rfl, rfl, trivial⟩ (fun _ h => h) rfl (by omega) (by show n - (j + 1) < n - j; omega)
            · refine H_skip ?_
              refine blockJ_normal ?_
              refine thenJ_normal ?_
              refine R0 ?_
              refine xV (e_mv (v := .int _ _) (q0 rfl)) rfl rfl ?_
              refine xV (e_add (q0 rfl) (q0 rfl) (fun _ => ⟨rfl, by omega, by omega⟩)) rfl rfl ?_
              refine xV (e_as (v := .int _ _) (q0 rfl)) rfl rfl ?_
              refine XN ?_
              exact loopJ_normal (j + 1) (by repeat (first | exact agree_self | exact agree_over | refine agree_upd rfl ?_ | refine agree_updL rfl ?_ | refine agree_over2 rfl ?_)) ⟨by show _ = Value.int _ (1 + (cnt days (vs.take (j + 1)) v : Int)); rw [cnt_snoc_no hxj ha]; rfl, rfl, trivial⟩ (fun _ h => h) rfl (by omega) (by show n - (j + 1) < n - j; omega)
          · obtain rfl : j = n := by simp at hlt; omega
            refine H_exit ?_
            refine thenJ_exit ?_
            refine loopJ_exit ?_
            refine blockJ_hit ?_
            refine thenJ_normal ?_
            refine H_seq ?_
            refine R0 ?_
            refine xV (e_mv (v := .int _ _) (q0 rfl)) rfl rfl ?_
            refine xV (e_as (v := .int _ _) (q0 rfl)) rfl rfl ?_
            refine xV (e_as (v := .int _ _) (q0 rfl)) rfl rfl ?_
            refine XN ?_
            refine thenJ_normal ?_
            refine H_ret ?_
            exact ret2 (v := .int _ _) (x := .int _ _) rfl rfl rfl rfl fun w' hw => ⟨by rw [hres (1 + (cnt days (vs.take j) v : Int)) (by rw [List.take_of_length_le (by omega)]; unfold num; rw [if_pos hk2])], hw.1⟩

theorem rFine_w (a0 a1 a2 a3 a4 : Value) (fA : Option Addr) (fn fc : Nat) (fines : List Int) (days : Int) (A : Option Addr) (n c : Nat) (vs : List V) (i : Int) (w : World) (hf : IntsAt w fA fn fines) (hx : VsAt w A n vs) :
    Calls Try.prog 19 #[.agg #[a0, a1, a2, a3, a4, .slice fA fn fc, .int .i64 days], .slice A n c, .int .i64 i] w fun e w' => e = .returned (.tuple #[.int .i64 (fineR fines days vs i).1, .int .i64 (fineR fines days vs i).2]) ∧ Below w.heap.size w w' := by
  have hl := hx.1
  have hfl := hf.1
  subst hfl
  refine H_enter Try.func19 rfl Try.ntmps19 rfl ?_
  refine H_seq ?_
  refine R0 ?_
  refine X_box (v := .agg _) rfl rfl fun b3 => ?_
  refine xV (e_as (v := .int _ _) (q0 rfl)) rfl rfl ?_
  refine xV (e_as (v := .int _ _) (q0 rfl)) rfl rfl ?_
  refine XN ?_
  refine thenJ_normal ?_
  refine H_seq ?_
  refine R0 ?_
  refine xV (e_lds Try.isAgg26 Try.sizeOf26 (q0 rfl) (by first | exact bxs 0 rfl | exact bxs 1 rfl | exact bxs 2 rfl | exact bxs 3 rfl | exact bxs 4 rfl | exact bxs 5 rfl | exact bxs 6 rfl | exact bxs 7 rfl | exact bxs 8 rfl | exact bxs 9 rfl | exact rcs ‹_› ‹_›) rfl) rfl rfl ?_
  refine xV (e_mv (v := .slice _ _ _) (q0 rfl)) rfl rfl ?_
  refine xV (e_mv (v := .int _ _) (q0 rfl)) rfl rfl ?_
  refine xC (en Try.call17 (ha3 (q0 rfl) (q0 rfl) (q0 rfl))) (fun _ w hm => rNumber_w a0 a1 a2 a3 a4 fA fines.length fc fines days A n c vs i w (hf.mem hm) (hx.mem hm)) rfl rfl ?_
  refine xV (e_mv (q0 rfl)) rfl rfl ?_
  refine xV (e_ext (q0 rfl) rfl) rfl rfl ?_
  refine xV (e_ext (q0 rfl) rfl) rfl rfl ?_
  refine xV (e_as (v := .int _ _) (q0 rfl)) rfl rfl ?_
  refine xV (e_as (v := .int _ _) (q0 rfl)) rfl rfl ?_
  refine XN ?_
  refine thenJ_normal ?_
  refine H_seq ?_
  refine H_seq ?_
  refine R0 ?_
  refine xV (e_mv (v := .int _ _) (q0 rfl)) rfl rfl ?_
  refine xV (e_ne (q0 rfl) (q0 rfl)) rfl rfl ?_
  refine XN ?_
  refine thenJ_normal ?_
  refine H_cond rfl (fun hz => ?_) (fun hz => ?_)
  · refine H_seq ?_
    refine R0 ?_
    refine xV (e_mv (v := .int _ _) (q0 rfl)) rfl rfl ?_
    refine xV (e_as (v := .int _ _) (q0 rfl)) rfl rfl ?_
    refine xV (e_as (v := .int _ _) (q0 rfl)) rfl rfl ?_
    refine XN ?_
    refine thenJ_normal ?_
    refine H_ret ?_
    refine thenJ_ret ?_
    exact ret2 (v := .int _ _) (x := .int _ _) rfl rfl rfl rfl fun w' hw => ⟨by
      simp at hz
      have h1 : fineR fines days vs i = (0, (numR fines days vs i).2) := by
        unfold fineR
        unfold numR at hz ⊢
        by_cases hc : cErr fines days vs ≠ 0
        · rw [if_pos hc, if_pos hc]
        · rw [if_neg hc] at hz ⊢
          rw [if_neg hc]
          by_cases hi : i < 0 ∨ (vs.length : Int) ≤ i
          · rw [if_pos hi, if_pos hi]
          · rw [if_neg hi] at hz; exact absurd rfl hz
      rw [h1] <;> rfl, hw.1⟩
  · have hz' : (numR fines days vs i).2 = 0 := by simpa using hz
    have hok : ¬ cErr fines days vs ≠ 0 ∧ ¬ (i < 0 ∨ (vs.length : Int) ≤ i) := by
      unfold numR at hz'
      by_cases hc : cErr fines days vs ≠ 0
      · rw [if_pos hc] at hz'; exact absurd hz' hc
      · rw [if_neg hc] at hz'
        refine ⟨hc, fun hi => ?_⟩
        rw [if_pos hi] at hz'; cases hz'
    have hN : (numR fines days vs i).1 = num days vs (vs.getD i.toNat V.zero) := by unfold numR; rw [if_neg hok.1, if_neg hok.2]
    have hF : fineR fines days vs i = (fine fines days vs (vs.getD i.toNat V.zero), 0) := by unfold fineR; rw [if_neg hok.1, if_neg hok.2]
    generalize vs.getD i.toNat V.zero = v at hN hF
    have hn := num_nonneg (days := days) (l := vs) (v := v)
    have h256 := (vErr_ok (cErr_ok (by simpa using hok.1)).2).1
    rw [hN]
    refine H_skip ?_
    refine thenJ_normal ?_
    refine H_seq ?_
    refine H_seq ?_
    refine R0 ?_
    refine xV (e_mv (v := .int _ _) (q0 rfl)) rfl rfl ?_
    refine xV (e_eq (q0 rfl) (q0 rfl)) rfl rfl ?_
    refine xV (e_mv (v := .bool _) (q0 rfl)) rfl rfl ?_
    refine xVF (e_fld Try.underlying26 rfl Try.sizeOf24 rfl (q0 rfl)) rfl rfl rfl rfl ?_
    refine xVF (e_ld Try.isAgg24 (q1 rfl) (by first | exact bx 0 rfl rfl | exact bx 1 rfl rfl | exact bx 2 rfl rfl | exact bx 3 rfl rfl | exact bx 4 rfl rfl | exact bx 5 rfl rfl | exact bx 6 rfl rfl | exact bx 7 rfl rfl | exact bx 8 rfl rfl | exact bx 9 rfl rfl | exact rc ‹_› ‹_› rfl | exact rc0 ‹_› ‹_› rfl | exact xc ‹_› ‹_›)) rfl rfl rfl rfl ?_
    refine xVF (e_len Try.underlying24 (q1 rfl)) rfl rfl rfl rfl ?_
    refine xVF (e_eq (q1 rfl) (q0 rfl)) rfl rfl rfl rfl ?_
    refine xV (e_or (q0 rfl) rfl (fun h => by first | rfl | (rw [h]; rfl))) rfl rfl ?_
    refine XN ?_
    refine thenJ_normal ?_
    refine H_cond rfl (fun hq => ?_) (fun hq => ?_)
    · refine H_seq ?_
      refine R0 ?_
      refine xV (e_as (v := .int _ _) (q0 rfl)) rfl rfl ?_
      refine xV (e_as (v := .int _ _) (q0 rfl)) rfl rfl ?_
      refine XN ?_
      refine thenJ_normal ?_
      refine H_ret ?_
      refine thenJ_ret ?_
      exact ret2 (v := .int _ _) (x := .int _ _) rfl rfl rfl rfl fun w' hw => ⟨by
        have h2 : fine fines days vs v = 0 := by unfold fine; rw [if_pos]; rcases Bool.or_eq_true_iff.1 hq with h6 | h6 <;> have h7 := of_decide_eq_true h6 <;> omega
        rw [hF, h2] <;> rfl, hw.1⟩
    · have hq' : ¬ (if (fines.length : Int) < num days vs v then (fines.length : Int) else num days vs v) = 0 := by
        have h6 := of_decide_eq_false (Bool.or_eq_false_iff.1 hq).1
        have h7 := of_decide_eq_false (Bool.or_eq_false_iff.1 hq).2
        split <;> omega
      obtain ⟨b, off, x, rfl, hbl, hxk, hr⟩ := hf.at_ (i := ((if (fines.length : Int) < num days vs v then (fines.length : Int) else num days vs v) - 1).toNat) (by split at hq' <;> split <;> omega)
      refine H_skip ?_
      refine thenJ_normal ?_
      refine H_seq ?_
      refine R0 ?_
      refine xV (e_fld Try.underlying26 rfl Try.sizeOf24 rfl (q0 rfl)) rfl rfl ?_
      refine xV (e_ld Try.isAgg24 (q0 rfl) (by first | exact bx 0 rfl rfl | exact bx 1 rfl rfl | exact bx 2 rfl rfl | exact bx 3 rfl rfl | exact bx 4 rfl rfl | exact bx 5 rfl rfl | exact bx 6 rfl rfl | exact bx 7 rfl rfl | exact bx 8 rfl rfl | exact bx 9 rfl rfl | exact rc ‹_› ‹_› rfl | exact rc0 ‹_› ‹_› rfl | exact xc ‹_› ‹_›)) rfl rfl ?_
      refine xV (e_mv (v := .int _ _) (q0 rfl)) rfl rfl ?_
      refine xV (e_fld Try.underlying26 rfl Try.sizeOf24 rfl (q0 rfl)) rfl rfl ?_
      refine xV (e_ld Try.isAgg24 (q0 rfl) (by first | exact bx 0 rfl rfl | exact bx 1 rfl rfl | exact bx 2 rfl rfl | exact bx 3 rfl rfl | exact bx 4 rfl rfl | exact bx 5 rfl rfl | exact bx 6 rfl rfl | exact bx 7 rfl rfl | exact bx 8 rfl rfl | exact bx 9 rfl rfl | exact rc ‹_› ‹_› rfl | exact rc0 ‹_› ‹_› rfl | exact xc ‹_› ‹_›)) rfl rfl ?_
      refine xV (e_len Try.underlying24 (q0 rfl)) rfl rfl ?_
      refine xV (e_min (q0 rfl) (q0 rfl)) rfl rfl ?_
      refine xV (e_sub (q0 rfl) (q0 rfl) (fun _ => ⟨rfl, by split <;> omega, by split <;> omega⟩)) rfl rfl ?_
      refine xV (e_idx _ Try.underlying24 Try.sizeOf3 (q0 rfl) (q0 rfl) (fun _ => ⟨(Int.toNat_of_nonneg (by split at hq' <;> split <;> omega)).symm, by split at hq' <;> split <;> omega⟩)) rfl rfl ?_
      refine xV (e_ld Try.isAgg3 (q0 rfl) (by first | exact bx 0 rfl rfl | exact bx 1 rfl rfl | exact bx 2 rfl rfl | exact bx 3 rfl rfl | exact bx 4 rfl rfl | exact bx 5 rfl rfl | exact bx 6 rfl rfl | exact bx 7 rfl rfl | exact bx 8 rfl rfl | exact bx 9 rfl rfl | exact rc ‹_› ‹_› rfl | exact rc0 ‹_› ‹_› rfl | exact xc ‹_› ‹_›)) rfl rfl ?_
      refine xV (e_as (v := .int _ _) (q0 rfl)) rfl rfl ?_
      refine xV (e_as (v := .int _ _) (q0 rfl)) rfl rfl ?_
      refine XN ?_
      refine thenJ_normal ?_
      refine H_ret ?_
      exact ret2 (v := .int _ _) (x := .int _ _) rfl rfl rfl rfl fun w' hw => ⟨by rw [hF, fine_some hq' hxk] <;> rfl, hw.1⟩

theorem sumF_viol {fines : List Int} {days : Int} {all : List V} {rider : Int} : ∀ l : List V, sumF (fine fines days all) (viol rider l) = sumF (fine fines days all) (l.filter fun x => decide (x.rider = rider))
  | [] => rfl
  | v :: l => by
    have ih := sumF_viol (fines := fines) (days := days) (all := all) (rider := rider) l
    simp only [viol, sumF] at ih ⊢
    by_cases h1 : v.rider = rider
    · by_cases h2 : v.kind = 2
      · simp [h1, h2, ih]
      · have h3 : fine fines days all v = 0 := by unfold fine num; rw [if_neg h2]; simp
        simp [h1, h2, ih, h3]
    · simp [h1, ih]

theorem rTotal_w (a0 a1 a2 a3 a4 : Value) (fA : Option Addr) (fn fc : Nat) (fines : List Int) (days : Int) (A : Option Addr) (n c : Nat) (vs : List V) (rider : Int) (w : World) (hf : IntsAt w fA fn fines) (hx : VsAt w A n vs) :
    Calls Try.prog 21 #[.agg #[a0, a1, a2, a3, a4, .slice fA fn fc, .int .i64 days], .slice A n c, .int .i64 rider] w fun e w' => e = .returned (.tuple #[.int .i64 (totalR fines days vs rider).1, .int .i64 (totalR fines days vs rider).2]) ∧ Below w.heap.size w w' := by
  have hl := hx.1
  refine H_enter Try.func21 rfl Try.ntmps21 rfl ?_
  refine H_seq ?_
  refine R0 ?_
  refine X_box (v := .agg _) rfl rfl fun b3 => ?_
  refine xV (e_as (v := .int _ _) (q0 rfl)) rfl rfl ?_
  refine xV (e_as (v := .int _ _) (q0 rfl)) rfl rfl ?_
  refine XN ?_
  refine thenJ_normal ?_
  refine H_seq ?_
  refine H_seq ?_
  refine R0 ?_
  refine xV (e_lds Try.isAgg26 Try.sizeOf26 (q0 rfl) (by first | exact bxs 0 rfl | exact bxs 1 rfl | exact bxs 2 rfl | exact bxs 3 rfl | exact bxs 4 rfl | exact bxs 5 rfl | exact bxs 6 rfl | exact bxs 7 rfl | exact bxs 8 rfl | exact bxs 9 rfl | exact rcs ‹_› ‹_›) rfl) rfl rfl ?_
  refine xC (en Try.call13 (ha1 (q0 rfl))) (fun _ w hm => rcheck_w a0 a1 a2 a3 a4 fA fn fc fines days w (hf.mem hm)) rfl rfl ?_
  refine xV (e_as (v := .int _ _) (q0 rfl)) rfl rfl ?_
  refine XN ?_
  refine thenJ_normal ?_
  refine H_seq ?_
  refine R0 ?_
  refine xV (e_mv (v := .int _ _) (q0 rfl)) rfl rfl ?_
  refine xV (e_ne (q0 rfl) (q0 rfl)) rfl rfl ?_
  refine XN ?_
  refine thenJ_normal ?_
  refine H_cond rfl (fun hz => ?_) (fun hz => ?_)
  · refine H_seq ?_
    refine R0 ?_
    refine xV (e_mv (v := .int _ _) (q0 rfl)) rfl rfl ?_
    refine xV (e_as (v := .int _ _) (q0 rfl)) rfl rfl ?_
    refine xV (e_as (v := .int _ _) (q0 rfl)) rfl rfl ?_
    refine XN ?_
    refine thenJ_normal ?_
    refine H_ret ?_
    refine thenJ_ret ?_
    exact ret2 (v := .int _ _) (x := .int _ _) rfl rfl rfl rfl fun w' hw => ⟨by simp at hz; rw [totalR_err (cErr_p hz) hz] <;> rfl, hw.1⟩
  · have hz' : pErr fines days = 0 := by simpa using hz
    obtain ⟨hp1, hp2, hp3⟩ := pErr_ok2 hz'
    refine H_skip ?_
    refine thenJ_normal ?_
    refine H_seq ?_
    refine H_seq ?_
    refine R0 ?_
    refine xV (e_mv (v := .slice _ _ _) (q0 rfl)) rfl rfl ?_
    refine xC (en Try.call15 (ha1 (q0 rfl))) (fun _ w hm => rverd_w A n c vs w (hx.mem hm)) rfl rfl ?_
    refine xV (e_as (v := .int _ _) (q0 rfl)) rfl rfl ?_
    refine XN ?_
    refine thenJ_normal ?_
    refine H_seq ?_
    refine R0 ?_
    refine xV (e_mv (v := .int _ _) (q0 rfl)) rfl rfl ?_
    refine xV (e_ne (q0 rfl) (q0 rfl)) rfl rfl ?_
    refine XN ?_
    refine thenJ_normal ?_
    refine H_cond rfl (fun hy => ?_) (fun hy => ?_)
    · refine H_seq ?_
      refine R0 ?_
      refine xV (e_mv (v := .int _ _) (q0 rfl)) rfl rfl ?_
      refine xV (e_as (v := .int _ _) (q0 rfl)) rfl rfl ?_
      refine xV (e_as (v := .int _ _) (q0 rfl)) rfl rfl ?_
      refine XN ?_
      refine thenJ_normal ?_
      refine H_ret ?_
      refine thenJ_ret ?_
      exact ret2 (v := .int _ _) (x := .int _ _) rfl rfl rfl rfl fun w' hw => ⟨by simp at hy; rw [totalR_err (cErr_v hz') hy] <;> rfl, hw.1⟩
    · have hv : vErr vs = 0 := by simpa using hy
      have hc : cErr fines days vs = 0 := by rw [cErr_v hz']; exact hv
      have h256 := (vErr_ok hv).1
      refine H_skip ?_
      refine thenJ_normal ?_
      refine H_seq ?_
      refine R0 ?_
      refine xV (e_as (v := .int _ _) (q0 rfl)) rfl rfl ?_
      refine XN ?_
      refine thenJ_normal ?_
      refine H_seq ?_
      refine H_seq ?_
      refine R0 ?_
      refine xV (e_as (v := .int _ _) (q0 rfl)) rfl rfl ?_
      refine XN ?_
      refine thenJ_normal ?_
      refine H_block ?_
      refine H_loop [10, 11, 12, 13, 24, 25, 26, 27, 28, 29, 30, 31, 32, 33, 34, 35, 36, 37, 38, 39, 40, 41, 42, 43, 44, 45, 46] (fun j : Nat => [(10, .int .i64 (sumF (fine fines days vs) ((vs.take j).filter fun x => decide (x.rider = rider)))), (11, .int .i64 j)]) (fun _ => _) (fun j => j ≤ n) (fun j => n - j) 0 ⟨rfl, rfl, trivial⟩ (fun _ h => h) rfl (Nat.zero_le _) ?_
      rintro j g hj
      have hsl := sumF_le (f := fine fines days vs) (fun v => fine_le hp2) ((vs.take j).filter fun x => decide (x.rider = rider))
      have hpl : ((vs.take j).filter fun x => decide (x.rider = rider)).length ≤ 256 := by
        have h1 := List.length_filter_le (fun x : V => decide (x.rider = rider)) (vs.take j)
        have h2 := List.length_take_le' j vs
        omega
      refine H_seq ?_
      refine H_seq ?_
      refine R0 ?_
      refine xV (e_mv (v := .int _ _) (q0 rfl)) rfl rfl ?_
      refine xV (e_mv (v := .slice _ _ _) (q0 rfl)) rfl rfl ?_
      refine xV (e_len Try.underlying27 (q0 rfl)) rfl rfl ?_
      refine xV (e_lt (q0 rfl) (q0 rfl)) rfl rfl ?_
      refine XN ?_
      refine thenJ_normal ?_
      refine H_cond rfl (fun hlt => ?_) (fun hlt => ?_)
      · simp at hlt
        obtain ⟨b, off, x, rfl, hbl, hxj, hrx⟩ := hx.at_ hlt
        have hfr : fineR fines days vs (j : Int) = (fine fines days vs x, 0) := by unfold fineR; rw [if_neg (by simpa using hc), if_neg (by omega), List.getD_eq_getElem?_getD, Int.toNat_natCast, hxj]; rfl
        have hfx := fine_le (days := days) (l := vs) (v := x) hp2
        refine H_skip ?_
        refine thenJ_normal ?_
        refine H_seq ?_
        refine H_block ?_
        refine H_seq ?_
        refine R0 ?_
        refine xV (e_mv (v := .slice _ _ _) (q0 rfl)) rfl rfl ?_
        refine xV (e_mv (v := .int _ _) (q0 rfl)) rfl rfl ?_
        refine xV (e_idx _ Try.underlying27 Try.sizeOf37 (q0 rfl) (q0 rfl) (fun _ => ⟨rfl, by omega⟩)) rfl rfl ?_
        refine xV (e_fld Try.underlying37 rfl Try.sizeOf3 rfl (q0 rfl)) rfl rfl ?_
        refine xV (e_ld Try.isAgg3 (q0 rfl) (by first | exact bx 0 rfl rfl | exact bx 1 rfl rfl | exact bx 2 rfl rfl | exact bx 3 rfl rfl | exact bx 4 rfl rfl | exact bx 5 rfl rfl | exact bx 6 rfl rfl | exact bx 7 rfl rfl | exact bx 8 rfl rfl | exact bx 9 rfl rfl | exact rc ‹_› ‹_› rfl | exact rc0 ‹_› ‹_› rfl | exact xc ‹_› ‹_›)) rfl rfl ?_
        refine xV (e_mv (v := .int _ _) (q0 rfl)) rfl rfl ?_
        refine xV (e_eq (q0 rfl) (q0 rfl)) rfl rfl ?_
        refine XN ?_
        refine thenJ_normal ?_
        refine H_cond rfl (fun he => ?_) (fun he => ?_)
        · refine H_seq ?_
          refine R0 ?_
          refine xV (e_lds Try.isAgg26 Try.sizeOf26 (q0 rfl) (by first | exact bxs 0 rfl | exact bxs 1 rfl | exact bxs 2 rfl | exact bxs 3 rfl | exact bxs 4 rfl | exact bxs 5 rfl | exact bxs 6 rfl | exact bxs 7 rfl | exact bxs 8 rfl | exact bxs 9 rfl | exact rcs ‹_› ‹_›) rfl) rfl rfl ?_
          refine xV (e_mv (v := .slice _ _ _) (q0 rfl)) rfl rfl ?_
          refine xV (e_mv (v := .int _ _) (q0 rfl)) rfl rfl ?_
          refine xC (en Try.call19 (ha3 (q0 rfl) (q0 rfl) (q0 rfl))) (fun _ w hm => (by have := rFine_w a0 a1 a2 a3 a4 fA fn fc fines days _ n c vs (j : Int) w (hf.mem hm) (hx.mem hm); rw [hfr] at this; exact this)) rfl rfl ?_
          refine xV (e_mv (q0 rfl)) rfl rfl ?_
          refine xV (e_ext (q0 rfl) rfl) rfl rfl ?_
          refine xV (e_ext (q0 rfl) rfl) rfl rfl ?_
          refine xV (e_as (v := .int _ _) (q0 rfl)) rfl rfl ?_
          refine xV (e_as (v := .int _ _) (q0 rfl)) rfl rfl ?_
          refine XN ?_
          refine thenJ_normal ?_
          refine R0 ?_
          refine xV (e_mv (v := .int _ _) (q0 rfl)) rfl rfl ?_
          refine xV (e_mv (v := .int _ _) (q0 rfl)) rfl rfl ?_
          refine xV (e_add (q0 rfl) (q0 rfl) (fun _ => ⟨rfl, by omega, by omega⟩)) rfl rfl ?_
          refine xV (e_as (v := .int _ _) (q0 rfl)) rfl rfl ?_
          refine XN ?_
          refine blockJ_normal ?_
          refine thenJ_normal ?_
          refine R0 ?_
          refine xV (e_mv (v := .int _ _) (q0 rfl)) rfl rfl ?_
          refine xV (e_add (q0 rfl) (q0 rfl) (fun _ => ⟨rfl, by omega, by omega⟩)) rfl rfl ?_
          refine xV (e_as (v := .int _ _) (q0 rfl)) rfl rfl ?_
          refine XN ?_
          exact loopJ_normal (j + 1) (by repeat (first | exact agree_self | exact agree_over | refine agree_upd rfl ?_ | refine agree_updL rfl ?_ | refine agree_over2 rfl ?_)) ⟨by show _ = Value.int _ (sumF _ _); rw [take_snoc _ _ _ hxj, List.filter_append, show [x].filter (fun x => decide (x.rider = rider)) = [x] by simp at he; simp [he], sumF_snoc]; rfl, rfl, trivial⟩ (fun _ h => h) rfl (by omega) (by show n - (j + 1) < n - j; omega)
        · refine H_skip ?_
          refine blockJ_normal ?_
          refine thenJ_normal ?_
          refine R0 ?_
          refine xV (e_mv (v := .int _ _) (q0 rfl)) rfl rfl ?_
          refine xV (e_add (q0 rfl) (q0 rfl) (fun _ => ⟨rfl, by omega, by omega⟩)) rfl rfl ?_
          refine xV (e_as (v := .int _ _) (q0 rfl)) rfl rfl ?_
          refine XN ?_
          exact loopJ_normal (j + 1) (by repeat (first | exact agree_self | exact agree_over | refine agree_upd rfl ?_ | refine agree_updL rfl ?_ | refine agree_over2 rfl ?_)) ⟨by show _ = Value.int _ (sumF _ _); rw [take_snoc _ _ _ hxj, List.filter_append, show [x].filter (fun x => decide (x.rider = rider)) = [] by simp at he; simp [he], List.append_nil]; rfl, rfl, trivial⟩ (fun _ h => h) rfl (by omega) (by show n - (j + 1) < n - j; omega)
      · obtain rfl : j = n := by simp at hlt; omega
        have hS : sumF (fine fines days vs) ((vs.take j).filter fun x => decide (x.rider = rider)) = total fines days vs rider := by rw [List.take_of_length_le (by omega)]; exact (sumF_viol vs).symm
        rw [hS]
        refine H_exit ?_
        refine thenJ_exit ?_
        refine loopJ_exit ?_
        refine blockJ_hit ?_
        refine thenJ_normal ?_
        refine H_seq ?_
        refine H_seq ?_
        refine R0 ?_
        refine xV (e_mv (v := .int _ _) (q0 rfl)) rfl rfl ?_
        refine xV (e_gt (q0 rfl) (q0 rfl)) rfl rfl ?_
        refine XN ?_
        refine thenJ_normal ?_
        refine H_cond rfl (fun ho => ?_) (fun ho => ?_)
        · refine H_seq ?_
          refine R0 ?_
          refine xV (e_as (v := .int _ _) (q0 rfl)) rfl rfl ?_
          refine xV (e_as (v := .int _ _) (q0 rfl)) rfl rfl ?_
          refine XN ?_
          refine thenJ_normal ?_
          refine H_ret ?_
          refine thenJ_ret ?_
          exact ret2 (v := .int _ _) (x := .int _ _) rfl rfl rfl rfl fun w' hw => ⟨by unfold totalR; rw [if_neg (by simpa using hc), if_pos (show 1000000000000 < total fines days vs rider from of_decide_eq_true ho)] <;> rfl, hw.1⟩
        · refine H_skip ?_
          refine thenJ_normal ?_
          refine H_seq ?_
          refine R0 ?_
          refine xV (e_mv (v := .int _ _) (q0 rfl)) rfl rfl ?_
          refine xV (e_as (v := .int _ _) (q0 rfl)) rfl rfl ?_
          refine xV (e_as (v := .int _ _) (q0 rfl)) rfl rfl ?_
          refine XN ?_
          refine thenJ_normal ?_
          refine H_ret ?_
          exact ret2 (v := .int _ _) (x := .int _ _) rfl rfl rfl rfl fun w' hw => ⟨by unfold totalR; rw [if_neg (by simpa using hc), if_neg (show ¬ 1000000000000 < total fines days vs rider from of_decide_eq_false ho)] <;> rfl, hw.1⟩

end Go.Proofs.Pen
