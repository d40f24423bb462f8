/-
  The walks: the number of a verdict, its penalty, a rider's total.
-/
import Derived.Test.YtnehidbpliknaaaPb
import Derived.Test.YtnehidbpliknaaaEt
namespace Go.Proofs.Pen
open Go Go.RowKit Go.Proofs.E

def late (days : Int) (v x : V) : Bool := before x v && inDays days x v
theorem cnt_eq (days : Int) (l : List V) (v : V) : cnt days l v = ((viol v.rider l).filter (late days v)).length := by
  unfold cnt viol
  rw [List.filter_filter]
  congr 1
  apply List.filter_congr
  intro x _
  simp only [hit, late]
  rw [Bool.and_comm]
def nth (days : Int) (v : V) (pre : List V) : Int := 1 + ((pre.filter (late days v)).length : Int)
theorem nth_yes {days : Int} {v x : V} {pre : List V} (h : late days v x = true) : nth days v (pre ++ [x]) = nth days v pre + 1 := by
  unfold nth; rw [List.filter_append]; simp [h]; omega
theorem nth_no {days : Int} {v x : V} {pre : List V} (h : late days v x = false) : nth days v (pre ++ [x]) = nth days v pre := by
  unfold nth; rw [List.filter_append]; simp [h]
theorem nth_le {days : Int} {v : V} {pre : List V} : 1 ≤ nth days v pre ∧ nth days v pre ≤ 1 + pre.length := by
  unfold nth; have := List.length_filter_le (late days v) pre; omega
theorem num_bad {days : Int} {l : List V} {v : V} (h : v.kind = 2) : num days l v = nth days v (viol v.rider l) := by
  unfold num nth; rw [if_pos h, cnt_eq]
theorem viol_mem {rider : Int} {l : List V} {x : V} (h : x ∈ viol rider l) : x ∈ l := (List.mem_filter.1 h).1
theorem viol_len {rider : Int} {l : List V} : (viol rider l).length ≤ l.length := List.length_filter_le _ _

/-- moments that are in range -/
def Timely (l : List V) : Prop := ∀ x ∈ l, 0 ≤ x.moment ∧ x.moment ≤ 4294943999

theorem number_w (a0 a1 a2 a3 a4 : Value) (fA : Option Addr) (fn fc : Nat) (days : Int) (A : Option Addr) (n c : Nat) (vs : List V) (v : V) (w : World) (hx : VsAt w A n vs) (h256 : vs.length ≤ 256) (ht : Timely vs) (hv : 0 ≤ v.moment ∧ v.moment ≤ 4294943999) (hd : 0 ≤ days ∧ days ≤ 49709) :
    Calls Try.prog 26 #[.agg #[a0, a1, a2, a3, a4, .slice fA fn fc, .int .i64 days], .slice A n c, .agg v.cells.toArray] w fun e w' => e = .returned (.int .i64 (num days vs v)) ∧ Below w.heap.size w w' := by
  have hl := hx.1
  refine H_enter Try.func26 rfl Try.ntmps26 rfl ?_
  refine H_seq ?_
  refine R0 ?_
  refine X_box (v := .agg _) rfl rfl fun b3 => ?_
  refine X_box (v := .agg _) rfl rfl fun b5 => ?_
  refine xV (e_as (v := .int _ _) (q0 rfl)) rfl rfl ?_
  refine XN ?_
  refine thenJ_normal ?_
  refine H_seq ?_
  refine H_seq ?_
  refine R0 ?_
  refine xV (e_fld Try.underlying37 rfl Try.sizeOf3 rfl (q0 rfl)) rfl rfl ?_
  refine xV (e_ld Try.isAgg3 (q0 rfl) (by first | exact bx 0 rfl rfl | exact bx 1 rfl rfl | exact bx 2 rfl rfl | exact bx 3 rfl rfl | exact bx 4 rfl rfl | exact bx 5 rfl rfl | exact bx 6 rfl rfl | exact bx 7 rfl rfl | exact bx 8 rfl rfl | exact bx 9 rfl rfl | exact rc ‹_› ‹_› rfl | exact rc0 ‹_› ‹_› rfl | exact xc ‹_› ‹_›)) rfl rfl ?_
  refine xV (e_ne (q0 rfl) (q0 rfl)) rfl rfl ?_
  refine XN ?_
  refine thenJ_normal ?_
  refine H_cond rfl (fun hk => ?_) (fun hk => ?_)
  · refine H_seq ?_
    refine R0 ?_
    refine xV (e_as (v := .int _ _) (q0 rfl)) rfl rfl ?_
    refine XN ?_
    refine thenJ_normal ?_
    refine H_ret ?_
    refine thenJ_ret ?_
    exact ret1 (v := .int _ _) rfl rfl rfl fun w' hw => ⟨ret_int (by simp at hk; unfold num; rw [if_neg hk]), hw.1⟩
  · have hk2 : v.kind = 2 := by simpa using hk
    refine H_skip ?_
    refine thenJ_normal ?_
    refine H_seq ?_
    refine R0 ?_
    refine X_alloc Try.zeroValue3 rfl fun b7 => ?_
    (first | refine X_store 0 (v := .int _ _) rfl rfl Try.sizeOf3 rfl rfl rfl rfl ?_ | refine X_store 1 (v := .int _ _) rfl rfl Try.sizeOf3 rfl rfl rfl rfl ?_ | refine X_store 2 (v := .int _ _) rfl rfl Try.sizeOf3 rfl rfl rfl rfl ?_ | refine X_store 3 (v := .int _ _) rfl rfl Try.sizeOf3 rfl rfl rfl rfl ?_ | refine X_store 4 (v := .int _ _) rfl rfl Try.sizeOf3 rfl rfl rfl rfl ?_ | refine X_store 5 (v := .int _ _) rfl rfl Try.sizeOf3 rfl rfl rfl rfl ?_ | refine X_store 6 (v := .int _ _) rfl rfl Try.sizeOf3 rfl rfl rfl rfl ?_ | refine X_store 7 (v := .int _ _) rfl rfl Try.sizeOf3 rfl rfl rfl rfl ?_ | refine X_store 8 (v := .int _ _) rfl rfl Try.sizeOf3 rfl rfl rfl rfl ?_)
    refine XN ?_
    refine thenJ_normal ?_
    refine H_seq ?_
    refine H_seq ?_
    refine R0 ?_
    refine xV (e_mv (v := .slice _ _ _) (q0 rfl)) rfl rfl ?_
    refine xV (e_fld Try.underlying37 rfl Try.sizeOf3 rfl (q0 rfl)) rfl rfl ?_
    refine xV (e_ld Try.isAgg3 (q0 rfl) (by first | exact bx 0 rfl rfl | exact bx 1 rfl rfl | exact bx 2 rfl rfl | exact bx 3 rfl rfl | exact bx 4 rfl rfl | exact bx 5 rfl rfl | exact bx 6 rfl rfl | exact bx 7 rfl rfl | exact bx 8 rfl rfl | exact bx 9 rfl rfl | exact rc ‹_› ‹_› rfl | exact rc0 ‹_› ‹_› rfl | exact xc ‹_› ‹_›)) rfl rfl ?_
    refine xCX (en Try.call28 (ha2 (q0 rfl) (q0 rfl))) (fun w _ => viol_make A n c v.rider w) rfl (fun _ => rfl) fun x => ?_
    refine XN ?_
    refine thenJ_normal ?_
    refine H_block ?_
    refine H_range (viol v.rider vs) (Reads x.1 x.2 A n c v.rider vs) (fun pre => [box x.2 3 [.int .i64 v.rider], box x.1 27 [.slice A n c], box b7 3 [.int .i64 (nth days v pre)], box b5 37 v.cells, box b3 26 [a0, a1, a2, a3, a4, .slice fA fn fc, .int .i64 days]]) (fun _ _ => False) rfl rfl Try.call30 (viol_iter x.1 x.2 A n c v.rider vs) (fun _ => rfl) rfl (fun _ h => h) (fun _ => rfl) (fun _ _ h => h.elim) (fun pre w hw => ⟨box_cell hw (k := 1) rfl rfl, box_cell hw (k := 0) rfl rfl, (hw.itemLt (k := 1) rfl rfl).2, (hw.itemLt (k := 0) rfl rfl).2, hx.mem hw⟩) ?_ ?_ (fun _ _ _ h => h.elim) rfl
    · rintro l D r pre y hpre -
      have hy : y ∈ viol v.rider vs := hpre.subset (by simp)
      have hym := ht y (viol_mem hy)
      have hnl := nth_le (days := days) (v := v) (pre := pre)
      have hpl : pre.length ≤ 256 := by have h1 := hpre.length_le; have h2 := viol_len (rider := v.rider) (l := vs); simp at h1; omega
      refine R0 ?_
      refine X_alloc Try.zeroValue37 rfl fun b8 => ?_
      (first | refine X_store 0 (v := .agg _) rfl rfl Try.sizeOf37 rfl rfl rfl rfl ?_ | refine X_store 1 (v := .agg _) rfl rfl Try.sizeOf37 rfl rfl rfl rfl ?_ | refine X_store 2 (v := .agg _) rfl rfl Try.sizeOf37 rfl rfl rfl rfl ?_ | refine X_store 3 (v := .agg _) rfl rfl Try.sizeOf37 rfl rfl rfl rfl ?_ | refine X_store 4 (v := .agg _) rfl rfl Try.sizeOf37 rfl rfl rfl rfl ?_ | refine X_store 5 (v := .agg _) rfl rfl Try.sizeOf37 rfl rfl rfl rfl ?_ | refine X_store 6 (v := .agg _) rfl rfl Try.sizeOf37 rfl rfl rfl rfl ?_ | refine X_store 7 (v := .agg _) rfl rfl Try.sizeOf37 rfl rfl rfl rfl ?_ | refine X_store 8 (v := .agg _) rfl rfl Try.sizeOf37 rfl rfl rfl rfl ?_)
      refine XN ?_
      refine asgJ_normal _ rfl rfl (fun w hw => hw.pick [1, 2, 0, 3, 4, 5, 6, 7] (by decide)) fun r' => ?_
      refine H_block ?_
      refine H_seq ?_
      refine R0 ?_
      refine xV (e_lds Try.isAgg37 Try.sizeOf37 (q0 rfl) (by first | exact bxs 0 rfl | exact bxs 1 rfl | exact bxs 2 rfl | exact bxs 3 rfl | exact bxs 4 rfl | exact bxs 5 rfl | exact bxs 6 rfl | exact bxs 7 rfl | exact bxs 8 rfl | exact bxs 9 rfl | exact rcs ‹_› ‹_›) rfl) rfl rfl ?_
      refine xV (e_lds Try.isAgg37 Try.sizeOf37 (q0 rfl) (by first | exact bxs 0 rfl | exact bxs 1 rfl | exact bxs 2 rfl | exact bxs 3 rfl | exact bxs 4 rfl | exact bxs 5 rfl | exact bxs 6 rfl | exact bxs 7 rfl | exact bxs 8 rfl | exact bxs 9 rfl | exact rcs ‹_› ‹_›) rfl) rfl rfl ?_
      refine xC (en Try.call29 (ha2 (q0 rfl) (q0 rfl))) (fun _ w _ => before_w y v w) rfl rfl ?_
      refine xV (e_mv (v := .bool _) (q0 rfl)) rfl rfl ?_
      refine xVT (e_fld Try.underlying37 rfl Try.sizeOf3 rfl (q0 rfl)) rfl rfl rfl rfl ?_
      refine xVT (e_ld Try.isAgg3 (q1 rfl) (by first | exact bx 0 rfl rfl | exact bx 1 rfl rfl | exact bx 2 rfl rfl | exact bx 3 rfl rfl | exact bx 4 rfl rfl | exact bx 5 rfl rfl | exact bx 6 rfl rfl | exact bx 7 rfl rfl | exact bx 8 rfl rfl | exact bx 9 rfl rfl | exact rc ‹_› ‹_› rfl | exact rc0 ‹_› ‹_› rfl | exact xc ‹_› ‹_›)) rfl rfl rfl rfl ?_
      refine xVT (e_quo (q1 rfl) (q0 rfl) (fun _ => by omega)) rfl rfl rfl rfl ?_
      refine xVT (e_fld Try.underlying37 rfl Try.sizeOf3 rfl (q0 rfl)) rfl rfl rfl rfl ?_
      refine xVT (e_ld Try.isAgg3 (q1 rfl) (by first | exact bx 0 rfl rfl | exact bx 1 rfl rfl | exact bx 2 rfl rfl | exact bx 3 rfl rfl | exact bx 4 rfl rfl | exact bx 5 rfl rfl | exact bx 6 rfl rfl | exact bx 7 rfl rfl | exact bx 8 rfl rfl | exact bx 9 rfl rfl | exact rc ‹_› ‹_› rfl | exact rc0 ‹_› ‹_› rfl | exact xc ‹_› ‹_›)) rfl rfl rfl rfl ?_
      refine xVT (e_quo (q1 rfl) (q0 rfl) (fun _ => by omega)) rfl rfl rfl rfl ?_
      refine xVT (e_fld Try.underlying26 rfl Try.sizeOf3 rfl (q0 rfl)) rfl rfl rfl rfl ?_
      refine xVT (e_ld Try.isAgg3 (q1 rfl) (by first | exact bx 0 rfl rfl | exact bx 1 rfl rfl | exact bx 2 rfl rfl | exact bx 3 rfl rfl | exact bx 4 rfl rfl | exact bx 5 rfl rfl | exact bx 6 rfl rfl | exact bx 7 rfl rfl | exact bx 8 rfl rfl | exact bx 9 rfl rfl | exact rc ‹_› ‹_› rfl | exact rc0 ‹_› ‹_› rfl | exact xc ‹_› ‹_›)) rfl rfl rfl rfl ?_
      refine xVT (e_sub (q1 rfl) (q1 rfl) (fun _ => ⟨rfl, by omega, by omega⟩)) rfl rfl rfl rfl ?_
      refine xVT (e_ge (q1 rfl) (q1 rfl)) rfl rfl rfl rfl ?_
      refine xV (e_and (q0 rfl) rfl (fun h => by first | rfl | (rw [h]; rfl))) rfl rfl ?_
      refine XN ?_
      refine thenJ_normal ?_
      refine H_cond rfl (fun hc => ?_) (fun hc => ?_)
      · refine R0 ?_
        refine xV (e_ld Try.isAgg3 (q0 rfl) (by first | exact bx 0 rfl rfl | exact bx 1 rfl rfl | exact bx 2 rfl rfl | exact bx 3 rfl rfl | exact bx 4 rfl rfl | exact bx 5 rfl rfl | exact bx 6 rfl rfl | exact bx 7 rfl rfl | exact bx 8 rfl rfl | exact bx 9 rfl rfl | exact rc ‹_› ‹_› rfl | exact rc0 ‹_› ‹_› rfl | exact xc ‹_› ‹_›)) rfl rfl ?_
        refine xV (e_add (q0 rfl) (q0 rfl) (fun _ => ⟨rfl, by omega, by omega⟩)) rfl rfl ?_
        (first | refine X_store 0 (v := .int _ _) rfl rfl Try.sizeOf3 rfl rfl rfl rfl ?_ | refine X_store 1 (v := .int _ _) rfl rfl Try.sizeOf3 rfl rfl rfl rfl ?_ | refine X_store 2 (v := .int _ _) rfl rfl Try.sizeOf3 rfl rfl rfl rfl ?_ | refine X_store 3 (v := .int _ _) rfl rfl Try.sizeOf3 rfl rfl rfl rfl ?_ | refine X_store 4 (v := .int _ _) rfl rfl Try.sizeOf3 rfl rfl rfl rfl ?_ | refine X_store 5 (v := .int _ _) rfl rfl Try.sizeOf3 rfl rfl rfl rfl ?_ | refine X_store 6 (v := .int _ _) rfl rfl Try.sizeOf3 rfl rfl rfl rfl ?_ | refine X_store 7 (v := .int _ _) rfl rfl Try.sizeOf3 rfl rfl rfl rfl ?_ | refine X_store 8 (v := .int _ _) rfl rfl Try.sizeOf3 rfl rfl rfl rfl ?_)
        refine XN ?_
        refine blockJ_normal ?_
        exact roundJ_normal fun w hw => by rw [nth_yes hc]; exact hw.pick [0, 1, 3, 4, 5, 6, 7] (by decide)
      · refine H_skip ?_
        refine blockJ_normal ?_
        exact roundJ_normal fun w hw => by rw [nth_no hc]; exact hw.pick [0, 1, 3, 4, 5, 6, 7] (by decide)
    · intro D
      refine blockJ_normal ?_
      refine thenJ_normal ?_
      refine H_seq ?_
      refine R0 ?_
      refine xV (e_ld Try.isAgg3 (q0 rfl) (by first | exact bx 0 rfl rfl | exact bx 1 rfl rfl | exact bx 2 rfl rfl | exact bx 3 rfl rfl | exact bx 4 rfl rfl | exact bx 5 rfl rfl | exact bx 6 rfl rfl | exact bx 7 rfl rfl | exact bx 8 rfl rfl | exact bx 9 rfl rfl | exact rc ‹_› ‹_› rfl | exact rc0 ‹_› ‹_› rfl | exact xc ‹_› ‹_›)) rfl rfl ?_
      refine xV (e_as (v := .int _ _) (q0 rfl)) rfl rfl ?_
      refine XN ?_
      refine thenJ_normal ?_
      refine H_ret ?_
      exact ret_of_m rfl (res1 (v := .int _ _) rfl rfl) fun w' hw => ⟨ret_int (num_bad hk2).symm, hw.1⟩

theorem num_nonneg {days : Int} {l : List V} {v : V} : 0 ≤ num days l v ∧ num days l v ≤ 1 + l.length := by
  unfold num cnt
  have := List.length_filter_le (hit days v) l
  split <;> omega
theorem fine_zero {fines : List Int} {days : Int} {l : List V} {v : V} (h : (if (fines.length : Int) < num days l v then (fines.length : Int) else num days l v) = 0) : fine fines days l v = 0 := by
  have := num_nonneg (days := days) (l := l) (v := v)
  unfold fine
  rw [if_pos]
  split at h <;> omega
theorem fine_some {fines : List Int} {days : Int} {l : List V} {v : V} {x : Int} (h : ¬ (if (fines.length : Int) < num days l v then (fines.length : Int) else num days l v) = 0)
    (hx : fines[((if (fines.length : Int) < num days l v then (fines.length : Int) else num days l v) - 1).toNat]? = some x) : fine fines days l v = x := by
  have hn := num_nonneg (days := days) (l := l) (v := v)
  unfold fine
  rw [if_neg (by split at h <;> omega), List.getD_eq_getElem?_getD]
  have : min (num days l v).toNat fines.length - 1 = ((if (fines.length : Int) < num days l v then (fines.length : Int) else num days l v) - 1).toNat := by split <;> omega
  rw [this, hx]; rfl

theorem fine_w (a0 a1 a2 a3 a4 : Value) (fA : Option Addr) (fn fc : Nat) (fines : List Int) (days : Int) (A : Option Addr) (n c : Nat) (vs : List V) (v : V) (w : World) (hf : IntsAt w fA fn fines) (hx : VsAt w A n vs) (h256 : vs.length ≤ 256) (ht : Timely vs) (hv : 0 ≤ v.moment ∧ v.moment ≤ 4294943999) (hd : 0 ≤ days ∧ days ≤ 49709) :
    Calls Try.prog 27 #[.agg #[a0, a1, a2, a3, a4, .slice fA fn fc, .int .i64 days], .slice A n c, .agg v.cells.toArray] w fun e w' => e = .returned (.int .i64 (fine fines days vs v)) ∧ Below w.heap.size w w' := by
  have hl := hf.1
  have hn := num_nonneg (days := days) (l := vs) (v := v)
  subst hl
  refine H_enter Try.func27 rfl Try.ntmps27 rfl ?_
  refine H_seq ?_
  refine R0 ?_
  refine X_box (v := .agg _) rfl rfl fun b3 => ?_
  refine X_box (v := .agg _) rfl rfl fun b5 => ?_
  refine xV (e_as (v := .int _ _) (q0 rfl)) rfl rfl ?_
  refine XN ?_
  refine thenJ_normal ?_
  refine H_seq ?_
  refine R1 rfl (by decide +kernel) ?_
  refine xV (e_lds Try.isAgg26 Try.sizeOf26 (q0 rfl) (by first | exact bxs 0 rfl | exact bxs 1 rfl | exact bxs 2 rfl | exact bxs 3 rfl | exact bxs 4 rfl | exact bxs 5 rfl | exact bxs 6 rfl | exact bxs 7 rfl | exact bxs 8 rfl | exact bxs 9 rfl | exact rcs ‹_› ‹_›) rfl) rfl rfl ?_
  refine xV (e_mv (v := .slice _ _ _) (q0 rfl)) rfl rfl ?_
  refine xV (e_lds Try.isAgg37 Try.sizeOf37 (q0 rfl) (by first | exact bxs 0 rfl | exact bxs 1 rfl | exact bxs 2 rfl | exact bxs 3 rfl | exact bxs 4 rfl | exact bxs 5 rfl | exact bxs 6 rfl | exact bxs 7 rfl | exact bxs 8 rfl | exact bxs 9 rfl | exact rcs ‹_› ‹_›) rfl) rfl rfl ?_
  refine xC (en Try.call26 (ha3 (q0 rfl) (q0 rfl) (q0 rfl))) (fun _ w hm => number_w a0 a1 a2 a3 a4 fA fines.length fc days A n c vs v w (hx.mem hm) h256 ht hv hd) rfl rfl ?_
  refine xV (e_fld Try.underlying26 rfl Try.sizeOf24 rfl (q0 rfl)) rfl rfl ?_
  refine xV (e_ld Try.isAgg24 (q0 rfl) (by first | exact bx 0 rfl rfl | exact bx 1 rfl rfl | exact bx 2 rfl rfl | exact bx 3 rfl rfl | exact bx 4 rfl rfl | exact bx 5 rfl rfl | exact bx 6 rfl rfl | exact bx 7 rfl rfl | exact bx 8 rfl rfl | exact bx 9 rfl rfl | exact rc ‹_› ‹_› rfl | exact rc0 ‹_› ‹_› rfl | exact xc ‹_› ‹_›)) rfl rfl ?_
  refine xV (e_len Try.underlying24 (q0 rfl)) rfl rfl ?_
  refine xV (e_min (q0 rfl) (q0 rfl)) rfl rfl ?_
  refine xV (e_as (v := .int _ _) (q0 rfl)) rfl rfl ?_
  refine XN ?_
  refine thenJ_normal ?_
  refine H_seq ?_
  refine H_seq ?_
  refine R0 ?_
  refine xV (e_mv (v := .int _ _) (q0 rfl)) rfl rfl ?_
  refine xV (e_eq (q0 rfl) (q0 rfl)) rfl rfl ?_
  refine XN ?_
  refine thenJ_normal ?_
  refine H_cond rfl (fun hz => ?_) (fun hz => ?_)
  · refine H_seq ?_
    refine R0 ?_
    refine xV (e_as (v := .int _ _) (q0 rfl)) rfl rfl ?_
    refine XN ?_
    refine thenJ_normal ?_
    refine H_ret ?_
    refine thenJ_ret ?_
    exact ret1 (v := .int _ _) rfl rfl rfl fun w' hw => ⟨ret_int (fine_zero (by simpa using hz)).symm, hw.1⟩
  · have hz' := of_decide_eq_false hz
    obtain ⟨b, off, x, rfl, hbl, hxk, hr⟩ := hf.at_ (i := ((if (fines.length : Int) < num days vs v then (fines.length : Int) else num days vs v) - 1).toNat) (by split at hz' <;> split <;> omega)
    refine H_skip ?_
    refine thenJ_normal ?_
    refine H_seq ?_
    refine R0 ?_
    refine xV (e_fld Try.underlying26 rfl Try.sizeOf24 rfl (q0 rfl)) rfl rfl ?_
    refine xV (e_ld Try.isAgg24 (q0 rfl) (by first | exact bx 0 rfl rfl | exact bx 1 rfl rfl | exact bx 2 rfl rfl | exact bx 3 rfl rfl | exact bx 4 rfl rfl | exact bx 5 rfl rfl | exact bx 6 rfl rfl | exact bx 7 rfl rfl | exact bx 8 rfl rfl | exact bx 9 rfl rfl | exact rc ‹_› ‹_› rfl | exact rc0 ‹_› ‹_› rfl | exact xc ‹_› ‹_›)) rfl rfl ?_
    refine xV (e_mv (v := .int _ _) (q0 rfl)) rfl rfl ?_
    refine xV (e_sub (q0 rfl) (q0 rfl) (fun _ => ⟨rfl, by split <;> omega, by split <;> omega⟩)) rfl rfl ?_
    refine xV (e_idx _ Try.underlying24 Try.sizeOf3 (q0 rfl) (q0 rfl) (fun _ => ⟨(Int.toNat_of_nonneg (by split at hz' <;> split <;> omega)).symm, by split at hz' <;> split <;> omega⟩)) rfl rfl ?_
    refine xV (e_ld Try.isAgg3 (q0 rfl) (by first | exact bx 0 rfl rfl | exact bx 1 rfl rfl | exact bx 2 rfl rfl | exact bx 3 rfl rfl | exact bx 4 rfl rfl | exact bx 5 rfl rfl | exact bx 6 rfl rfl | exact bx 7 rfl rfl | exact bx 8 rfl rfl | exact bx 9 rfl rfl | exact rc ‹_› ‹_› rfl | exact rc0 ‹_› ‹_› rfl | exact xc ‹_› ‹_›)) rfl rfl ?_
    refine xV (e_as (v := .int _ _) (q0 rfl)) rfl rfl ?_
    refine XN ?_
    refine thenJ_normal ?_
    refine H_ret ?_
    exact ret1 (v := .int _ _) rfl rfl rfl fun w' hw => ⟨ret_int (fine_some hz' hxk).symm, hw.1⟩

theorem check2_w (a0 a1 a2 a3 a4 : Value) (fA : Option Addr) (fn fc : Nat) (fines : List Int) (days : Int) (A : Option Addr) (n c : Nat) (vs : List V) (w : World) (hf : IntsAt w fA fn fines) (hx : VsAt w A n vs) :
    Calls Try.prog 25 #[.agg #[a0, a1, a2, a3, a4, .slice fA fn fc, .int .i64 days], .slice A n c] w fun e w' => e = .returned (.int .i64 (cErr fines days vs)) ∧ Below w.heap.size w w' := by
  refine H_enter Try.func25 rfl Try.ntmps25 rfl ?_
  refine H_seq ?_
  refine R0 ?_
  refine X_box (v := .agg _) rfl rfl fun b2 => ?_
  refine xV (e_as (v := .int _ _) (q0 rfl)) rfl rfl ?_
  refine XN ?_
  refine thenJ_normal ?_
  refine H_seq ?_
  refine H_seq ?_
  refine R0 ?_
  refine xV (e_lds Try.isAgg26 Try.sizeOf26 (q0 rfl) (by first | exact bxs 0 rfl | exact bxs 1 rfl | exact bxs 2 rfl | exact bxs 3 rfl | exact bxs 4 rfl | exact bxs 5 rfl | exact bxs 6 rfl | exact bxs 7 rfl | exact bxs 8 rfl | exact bxs 9 rfl | exact rcs ‹_› ‹_›) rfl) rfl rfl ?_
  refine xC (en Try.call12 (ha1 (q0 rfl))) (fun _ w hm => check_w a0 a1 a2 a3 a4 fA fn fc fines days w (hf.mem hm)) rfl rfl ?_
  refine xV (e_as (v := .int _ _) (q0 rfl)) rfl rfl ?_
  refine XN ?_
  refine thenJ_normal ?_
  refine H_seq ?_
  refine R0 ?_
  refine xV (e_mv (v := .int _ _) (q0 rfl)) rfl rfl ?_
  refine xV (e_ne (q0 rfl) (q0 rfl)) rfl rfl ?_
  refine XN ?_
  refine thenJ_normal ?_
  refine H_cond rfl (fun hz => ?_) (fun hz => ?_)
  · refine H_seq ?_
    refine R0 ?_
    refine xV (e_mv (v := .int _ _) (q0 rfl)) rfl rfl ?_
    refine xV (e_as (v := .int _ _) (q0 rfl)) rfl rfl ?_
    refine XN ?_
    refine thenJ_normal ?_
    refine H_ret ?_
    refine thenJ_ret ?_
    exact ret1 (v := .int _ _) rfl rfl rfl fun w' hw => ⟨ret_int (by simp at hz; unfold cErr; rw [if_pos hz]), hw.1⟩
  · refine H_skip ?_
    refine thenJ_normal ?_
    refine H_seq ?_
    refine R0 ?_
    refine xV (e_mv (v := .slice _ _ _) (q0 rfl)) rfl rfl ?_
    refine xC (en Try.call14 (ha1 (q0 rfl))) (fun _ w hm => verd_w A n c vs w (hx.mem hm)) rfl rfl ?_
    refine xV (e_as (v := .int _ _) (q0 rfl)) rfl rfl ?_
    refine XN ?_
    refine thenJ_normal ?_
    refine H_ret ?_
    exact ret1 (v := .int _ _) rfl rfl rfl fun w' hw => ⟨ret_int (by simp at hz; unfold cErr; rw [if_neg (by simpa using hz)]), hw.1⟩

/-! what no error means -/
theorem vErrL_ok {seen l : List V} (h : vErrL seen l = 0) : ∀ x ∈ l, vBad x = 0 := by
  induction l generalizing seen with
  | nil => simp
  | cons v l ih =>
    unfold vErrL at h
    by_cases h1 : vOne seen v ≠ 0
    · rw [if_pos h1] at h; exact absurd h h1
    · rw [if_neg h1] at h
      intro x hx
      rcases List.mem_cons.1 hx with rfl | hx
      · simp only [ne_eq, Decidable.not_not] at h1
        unfold vOne at h1
        split at h1
        · exact h1
        · rename_i hb; simpa using hb
      · exact ih h x hx
theorem vErr_ok {l : List V} (h : vErr l = 0) : l.length ≤ 256 ∧ ∀ x ∈ l, vBad x = 0 := by
  unfold vErr at h
  split at h
  · cases h
  · exact ⟨by omega, vErrL_ok h⟩
theorem vBad_ok {v : V} (h : vBad v = 0) : 1 ≤ v.ride ∧ v.ride ≤ 1000000 ∧ 0 ≤ v.rider ∧ v.rider < 128 ∧ 0 ≤ v.moment ∧ v.moment ≤ 4294943999 ∧ 1 ≤ v.kind ∧ v.kind ≤ 3 := by
  unfold vBad at h
  split at h
  · cases h
  · split at h
    · cases h
    · omega
theorem timely_of {l : List V} (h : vErr l = 0) : Timely l := fun x hx => by
  have := vBad_ok ((vErr_ok h).2 x hx); omega
theorem pErr_ok2 {xs : List Int} {d : Int} (h : pErr xs d = 0) : xs.length ≤ 512 ∧ (∀ x ∈ xs, 0 ≤ x ∧ x ≤ 1000000) ∧ 0 ≤ d ∧ d ≤ 49709 := by
  unfold pErr at h
  split at h
  · cases h
  · split at h
    · cases h
    · split at h
      · cases h
      · rename_i h1 h2 h3
        refine ⟨by omega, fun x hx => ?_, by omega⟩
        simp only [List.any_eq_true, not_exists, not_and, Bool.not_eq_true] at h2
        have := h2 x hx
        simp [fineBad] at this; omega
theorem cErr_ok {fines : List Int} {d : Int} {l : List V} (h : cErr fines d l = 0) : pErr fines d = 0 ∧ vErr l = 0 := by
  unfold cErr at h
  split at h
  · rename_i h1; exact absurd h h1
  · rename_i h1; exact ⟨by simpa using h1, h⟩

theorem Number_w (a0 a1 a2 a3 a4 : Value) (fA : Option Addr) (fn fc : Nat) (fines : List Int) (days : Int) (A : Option Addr) (n c : Nat) (vs : List V) (i : Int) (w : World) (hf : IntsAt w fA fn fines) (hx : VsAt w A n vs) :
    Calls Try.prog 16 #[.agg #[a0, a1, a2, a3, a4, .slice fA fn fc, .int .i64 days], .slice A n c, .int .i64 i] w fun e w' => e = .returned (.tuple #[.int .i64 (numR fines days vs i).1, .int .i64 (numR fines days vs i).2]) ∧ Below w.heap.size w w' := by
  have hl := hx.1
  refine H_enter Try.func16 rfl Try.ntmps16 rfl ?_
  refine H_seq ?_
  refine R0 ?_
  refine X_box (v := .agg _) rfl rfl fun b3 => ?_
  refine xV (e_as (v := .int _ _) (q0 rfl)) rfl rfl ?_
  refine xV (e_as (v := .int _ _) (q0 rfl)) rfl rfl ?_
  refine XN ?_
  refine thenJ_normal ?_
  refine H_seq ?_
  refine H_seq ?_
  refine R0 ?_
  refine xV (e_lds Try.isAgg26 Try.sizeOf26 (q0 rfl) (by first | exact bxs 0 rfl | exact bxs 1 rfl | exact bxs 2 rfl | exact bxs 3 rfl | exact bxs 4 rfl | exact bxs 5 rfl | exact bxs 6 rfl | exact bxs 7 rfl | exact bxs 8 rfl | exact bxs 9 rfl | exact rcs ‹_› ‹_›) rfl) rfl rfl ?_
  refine xV (e_mv (v := .slice _ _ _) (q0 rfl)) rfl rfl ?_
  refine xC (en Try.call25 (ha2 (q0 rfl) (q0 rfl))) (fun _ w hm => check2_w a0 a1 a2 a3 a4 fA fn fc fines days A n c vs w (hf.mem hm) (hx.mem hm)) rfl rfl ?_
  refine xV (e_as (v := .int _ _) (q0 rfl)) rfl rfl ?_
  refine XN ?_
  refine thenJ_normal ?_
  refine H_seq ?_
  refine R0 ?_
  refine xV (e_mv (v := .int _ _) (q0 rfl)) rfl rfl ?_
  refine xV (e_ne (q0 rfl) (q0 rfl)) rfl rfl ?_
  refine XN ?_
  refine thenJ_normal ?_
  refine H_cond rfl (fun hz => ?_) (fun hz => ?_)
  · refine H_seq ?_
    refine R0 ?_
    refine xV (e_mv (v := .int _ _) (q0 rfl)) rfl rfl ?_
    refine xV (e_as (v := .int _ _) (q0 rfl)) rfl rfl ?_
    refine xV (e_as (v := .int _ _) (q0 rfl)) rfl rfl ?_
    refine XN ?_
    refine thenJ_normal ?_
    refine H_ret ?_
    refine thenJ_ret ?_
    exact ret2 (v := .int _ _) (x := .int _ _) rfl rfl rfl rfl fun w' hw => ⟨by simp at hz; unfold numR; rw [if_pos hz] <;> rfl, hw.1⟩
  · have hz' : cErr fines days vs = 0 := by simpa using hz
    obtain ⟨hp, hv⟩ := cErr_ok hz'
    refine H_skip ?_
    refine thenJ_normal ?_
    refine H_seq ?_
    refine H_seq ?_
    refine R0 ?_
    refine xV (e_mv (v := .int _ _) (q0 rfl)) rfl rfl ?_
    refine xV (e_lt (q0 rfl) (q0 rfl)) rfl rfl ?_
    refine xV (e_mv (v := .bool _) (q0 rfl)) rfl rfl ?_
    refine xVF (e_mv (v := .int _ _) (q0 rfl)) rfl rfl rfl rfl ?_
    refine xVF (e_mv (v := .slice _ _ _) (q0 rfl)) rfl rfl rfl rfl ?_
    refine xVF (e_len Try.underlying27 (q1 rfl)) rfl rfl rfl rfl ?_
    refine xVF (e_ge (q1 rfl) (q1 rfl)) rfl rfl rfl rfl ?_
    refine xV (e_or (q0 rfl) rfl (fun h => by first | rfl | (rw [h]; rfl))) rfl rfl ?_
    refine XN ?_
    refine thenJ_normal ?_
    refine H_cond rfl (fun hi => ?_) (fun hi => ?_)
    · refine H_seq ?_
      refine R0 ?_
      refine xV (e_as (v := .int _ _) (q0 rfl)) rfl rfl ?_
      refine xV (e_as (v := .int _ _) (q0 rfl)) rfl rfl ?_
      refine XN ?_
      refine thenJ_normal ?_
      refine H_ret ?_
      refine thenJ_ret ?_
      exact ret2 (v := .int _ _) (x := .int _ _) rfl rfl rfl rfl fun w' hw => ⟨by unfold numR; rw [if_neg (by simpa using hz'), if_pos (by simp at hi; omega)] <;> rfl, hw.1⟩
    · simp at hi
      obtain ⟨k, rfl⟩ := Int.eq_ofNat_of_zero_le hi.1
      obtain ⟨b, off, v, rfl, hbl, hvk, hr⟩ := hx.at_ (i := k) (by omega)
      refine H_skip ?_
      refine thenJ_normal ?_
      refine H_seq ?_
      refine R1 rfl (by decide +kernel) ?_
      refine xV (e_lds Try.isAgg26 Try.sizeOf26 (q0 rfl) (by first | exact bxs 0 rfl | exact bxs 1 rfl | exact bxs 2 rfl | exact bxs 3 rfl | exact bxs 4 rfl | exact bxs 5 rfl | exact bxs 6 rfl | exact bxs 7 rfl | exact bxs 8 rfl | exact bxs 9 rfl | exact rcs ‹_› ‹_›) rfl) rfl rfl ?_
      refine xV (e_mv (v := .slice _ _ _) (q0 rfl)) rfl rfl ?_
      refine xV (e_mv (v := .slice _ _ _) (q0 rfl)) rfl rfl ?_
      refine xV (e_mv (v := .int _ _) (q0 rfl)) rfl rfl ?_
      refine xV (e_idx _ Try.underlying27 Try.sizeOf37 (q0 rfl) (q0 rfl) (fun _ => ⟨rfl, by omega⟩)) rfl rfl ?_
      refine xV (e_lds Try.isAgg37 Try.sizeOf37 (q0 rfl) (by first | exact bxs 0 rfl | exact bxs 1 rfl | exact bxs 2 rfl | exact bxs 3 rfl | exact bxs 4 rfl | exact bxs 5 rfl | exact bxs 6 rfl | exact bxs 7 rfl | exact bxs 8 rfl | exact bxs 9 rfl | exact rcs ‹_› ‹_›) rfl) rfl rfl ?_
      refine xC (en Try.call26 (ha3 (q0 rfl) (q0 rfl) (q0 rfl))) (fun _ w hm => number_w a0 a1 a2 a3 a4 fA fn fc days _ n c vs v w (hx.mem hm) (vErr_ok hv).1 (timely_of hv) (timely_of hv v (List.mem_of_getElem? hvk)) (pErr_ok2 hp).2.2) rfl rfl ?_
      refine xV (e_as (v := .int _ _) (q0 rfl)) rfl rfl ?_
      refine xV (e_as (v := .int _ _) (q0 rfl)) rfl rfl ?_
      refine XN ?_
      refine thenJ_normal ?_
      refine H_ret ?_
      exact ret2 (v := .int _ _) (x := .int _ _) rfl rfl rfl rfl fun w' hw => ⟨by unfold numR; rw [if_neg (by simpa using hz'), if_neg (by omega), List.getD_eq_getElem?_getD, Int.toNat_natCast, hvk] <;> rfl, hw.1⟩

theorem Fine_w (a0 a1 a2 a3 a4 : Value) (fA : Option Addr) (fn fc : Nat) (fines : List Int) (days : Int) (A : Option Addr) (n c : Nat) (vs : List V) (i : Int) (w : World) (hf : IntsAt w fA fn fines) (hx : VsAt w A n vs) :
    Calls Try.prog 18 #[.agg #[a0, a1, a2, a3, a4, .slice fA fn fc, .int .i64 days], .slice A n c, .int .i64 i] w fun e w' => e = .returned (.tuple #[.int .i64 (fineR fines days vs i).1, .int .i64 (fineR fines days vs i).2]) ∧ Below w.heap.size w w' := by
  have hl := hx.1
  refine H_enter Try.func18 rfl Try.ntmps18 rfl ?_
  refine H_seq ?_
  refine R0 ?_
  refine X_box (v := .agg _) rfl rfl fun b3 => ?_
  refine xV (e_as (v := .int _ _) (q0 rfl)) rfl rfl ?_
  refine xV (e_as (v := .int _ _) (q0 rfl)) rfl rfl ?_
  refine XN ?_
  refine thenJ_normal ?_
  refine H_seq ?_
  refine H_seq ?_
  refine R0 ?_
  refine xV (e_lds Try.isAgg26 Try.sizeOf26 (q0 rfl) (by first | exact bxs 0 rfl | exact bxs 1 rfl | exact bxs 2 rfl | exact bxs 3 rfl | exact bxs 4 rfl | exact bxs 5 rfl | exact bxs 6 rfl | exact bxs 7 rfl | exact bxs 8 rfl | exact bxs 9 rfl | exact rcs ‹_› ‹_›) rfl) rfl rfl ?_
  refine xV (e_mv (v := .slice _ _ _) (q0 rfl)) rfl rfl ?_
  refine xC (en Try.call25 (ha2 (q0 rfl) (q0 rfl))) (fun _ w hm => check2_w a0 a1 a2 a3 a4 fA fn fc fines days A n c vs w (hf.mem hm) (hx.mem hm)) rfl rfl ?_
  refine xV (e_as (v := .int _ _) (q0 rfl)) rfl rfl ?_
  refine XN ?_
  refine thenJ_normal ?_
  refine H_seq ?_
  refine R0 ?_
  refine xV (e_mv (v := .int _ _) (q0 rfl)) rfl rfl ?_
  refine xV (e_ne (q0 rfl) (q0 rfl)) rfl rfl ?_
  refine XN ?_
  refine thenJ_normal ?_
  refine H_cond rfl (fun hz => ?_) (fun hz => ?_)
  · refine H_seq ?_
    refine R0 ?_
    refine xV (e_mv (v := .int _ _) (q0 rfl)) rfl rfl ?_
    refine xV (e_as (v := .int _ _) (q0 rfl)) rfl rfl ?_
    refine xV (e_as (v := .int _ _) (q0 rfl)) rfl rfl ?_
    refine XN ?_
    refine thenJ_normal ?_
    refine H_ret ?_
    refine thenJ_ret ?_
    exact ret2 (v := .int _ _) (x := .int _ _) rfl rfl rfl rfl fun w' hw => ⟨by simp at hz; unfold fineR; rw [if_pos hz] <;> rfl, hw.1⟩
  · have hz' : cErr fines days vs = 0 := by simpa using hz
    obtain ⟨hp, hv⟩ := cErr_ok hz'
    refine H_skip ?_
    refine thenJ_normal ?_
    refine H_seq ?_
    refine H_seq ?_
    refine R0 ?_
    refine xV (e_mv (v := .int _ _) (q0 rfl)) rfl rfl ?_
    refine xV (e_lt (q0 rfl) (q0 rfl)) rfl rfl ?_
    refine xV (e_mv (v := .bool _) (q0 rfl)) rfl rfl ?_
    refine xVF (e_mv (v := .int _ _) (q0 rfl)) rfl rfl rfl rfl ?_
    refine xVF (e_mv (v := .slice _ _ _) (q0 rfl)) rfl rfl rfl rfl ?_
    refine xVF (e_len Try.underlying27 (q1 rfl)) rfl rfl rfl rfl ?_
    refine xVF (e_ge (q1 rfl) (q1 rfl)) rfl rfl rfl rfl ?_
    refine xV (e_or (q0 rfl) rfl (fun h => by first | rfl | (rw [h]; rfl))) rfl rfl ?_
    refine XN ?_
    refine thenJ_normal ?_
    refine H_cond rfl (fun hi => ?_) (fun hi => ?_)
    · refine H_seq ?_
      refine R0 ?_
      refine xV (e_as (v := .int _ _) (q0 rfl)) rfl rfl ?_
      refine xV (e_as (v := .int _ _) (q0 rfl)) rfl rfl ?_
      refine XN ?_
      refine thenJ_normal ?_
      refine H_ret ?_
      refine thenJ_ret ?_
      exact ret2 (v := .int _ _) (x := .int _ _) rfl rfl rfl rfl fun w' hw => ⟨by unfold fineR; rw [if_neg (by simpa using hz'), if_pos (by simp at hi; omega)] <;> rfl, hw.1⟩
    · simp at hi
      obtain ⟨k, rfl⟩ := Int.eq_ofNat_of_zero_le hi.1
      obtain ⟨b, off, v, rfl, hbl, hvk, hr⟩ := hx.at_ (i := k) (by omega)
      refine H_skip ?_
      refine thenJ_normal ?_
      refine H_seq ?_
      refine R1 rfl (by decide +kernel) ?_
      refine xV (e_lds Try.isAgg26 Try.sizeOf26 (q0 rfl) (by first | exact bxs 0 rfl | exact bxs 1 rfl | exact bxs 2 rfl | exact bxs 3 rfl | exact bxs 4 rfl | exact bxs 5 rfl | exact bxs 6 rfl | exact bxs 7 rfl | exact bxs 8 rfl | exact bxs 9 rfl | exact rcs ‹_› ‹_›) rfl) rfl rfl ?_
      refine xV (e_mv (v := .slice _ _ _) (q0 rfl)) rfl rfl ?_
      refine xV (e_mv (v := .slice _ _ _) (q0 rfl)) rfl rfl ?_
      refine xV (e_mv (v := .int _ _) (q0 rfl)) rfl rfl ?_
      refine xV (e_idx _ Try.underlying27 Try.sizeOf37 (q0 rfl) (q0 rfl) (fun _ => ⟨rfl, by omega⟩)) rfl rfl ?_
      refine xV (e_lds Try.isAgg37 Try.sizeOf37 (q0 rfl) (by first | exact bxs 0 rfl | exact bxs 1 rfl | exact bxs 2 rfl | exact bxs 3 rfl | exact bxs 4 rfl | exact bxs 5 rfl | exact bxs 6 rfl | exact bxs 7 rfl | exact bxs 8 rfl | exact bxs 9 rfl | exact rcs ‹_› ‹_›) rfl) rfl rfl ?_
      refine xC (en Try.call27 (ha3 (q0 rfl) (q0 rfl) (q0 rfl))) (fun _ w hm => fine_w a0 a1 a2 a3 a4 fA fn fc fines days _ n c vs v w (hf.mem hm) (hx.mem hm) (vErr_ok hv).1 (timely_of hv) (timely_of hv v (List.mem_of_getElem? hvk)) (pErr_ok2 hp).2.2) rfl rfl ?_
      refine xV (e_as (v := .int _ _) (q0 rfl)) rfl rfl ?_
      refine xV (e_as (v := .int _ _) (q0 rfl)) rfl rfl ?_
      refine XN ?_
      refine thenJ_normal ?_
      refine H_ret ?_
      exact ret2 (v := .int _ _) (x := .int _ _) rfl rfl rfl rfl fun w' hw => ⟨by unfold fineR; rw [if_neg (by simpa using hz'), if_neg (by omega), List.getD_eq_getElem?_getD, Int.toNat_natCast, hvk] <;> rfl, hw.1⟩

theorem fine_le {fines : List Int} {days : Int} {l : List V} {v : V} (h : ∀ x ∈ fines, 0 ≤ x ∧ x ≤ 1000000) : 0 ≤ fine fines days l v ∧ fine fines days l v ≤ 1000000 := by
  unfold fine
  split
  · omega
  · rw [List.getD_eq_getElem?_getD]
    cases hx : fines[min (num days l v).toNat fines.length - 1]? with
    | none => simp
    | some x => exact h x (List.mem_of_getElem? hx)
theorem sumF_le {f : V → Int} (hf : ∀ v, 0 ≤ f v ∧ f v ≤ 1000000) : ∀ l : List V, 0 ≤ sumF f l ∧ sumF f l ≤ 1000000 * l.length
  | [] => by simp [sumF]
  | v :: l => by
    have h1 := hf v
    have h2 := sumF_le hf l
    simp only [sumF, List.map_cons, List.sum_cons, List.length_cons] at h2 ⊢
    omega
theorem sumF_snoc {f : V → Int} {l : List V} {v : V} : sumF f (l ++ [v]) = sumF f l + f v := by simp [sumF]

theorem Total_w (a0 a1 a2 a3 a4 : Value) (fA : Option Addr) (fn fc : Nat) (fines : List Int) (days : Int) (A : Option Addr) (n c : Nat) (vs : List V) (rider : Int) (w : World) (hf : IntsAt w fA fn fines) (hx : VsAt w A n vs) :
    Calls Try.prog 20 #[.agg #[a0, a1, a2, a3, a4, .slice fA fn fc, .int .i64 days], .slice A n c, .int .i64 rider] w fun e w' => e = .returned (.tuple #[.int .i64 (totalR fines days vs rider).1, .int .i64 (totalR fines days vs rider).2]) ∧ Below w.heap.size w w' := by
  refine H_enter Try.func20 rfl Try.ntmps20 rfl ?_
  refine H_seq ?_
  refine R0 ?_
  refine X_box (v := .agg _) rfl rfl fun b3 => ?_
  refine X_box (v := .slice _ _ _) rfl rfl fun b4 => ?_
  refine xV (e_as (v := .int _ _) (q0 rfl)) rfl rfl ?_
  refine xV (e_as (v := .int _ _) (q0 rfl)) rfl rfl ?_
  refine XN ?_
  refine thenJ_normal ?_
  refine H_seq ?_
  refine H_seq ?_
  refine R0 ?_
  refine xV (e_lds Try.isAgg26 Try.sizeOf26 (q0 rfl) (by first | exact bxs 0 rfl | exact bxs 1 rfl | exact bxs 2 rfl | exact bxs 3 rfl | exact bxs 4 rfl | exact bxs 5 rfl | exact bxs 6 rfl | exact bxs 7 rfl | exact bxs 8 rfl | exact bxs 9 rfl | exact rcs ‹_› ‹_›) rfl) rfl rfl ?_
  refine xV (e_ld Try.isAgg27 (q0 rfl) (by first | exact bx 0 rfl rfl | exact bx 1 rfl rfl | exact bx 2 rfl rfl | exact bx 3 rfl rfl | exact bx 4 rfl rfl | exact bx 5 rfl rfl | exact bx 6 rfl rfl | exact bx 7 rfl rfl | exact bx 8 rfl rfl | exact bx 9 rfl rfl | exact rc ‹_› ‹_› rfl | exact rc0 ‹_› ‹_› rfl | exact xc ‹_› ‹_›)) rfl rfl ?_
  refine xC (en Try.call25 (ha2 (q0 rfl) (q0 rfl))) (fun _ w hm => check2_w a0 a1 a2 a3 a4 fA fn fc fines days A n c vs w (hf.mem hm) (hx.mem hm)) rfl rfl ?_
  refine xV (e_as (v := .int _ _) (q0 rfl)) rfl rfl ?_
  refine XN ?_
  refine thenJ_normal ?_
  refine H_seq ?_
  refine R0 ?_
  refine xV (e_mv (v := .int _ _) (q0 rfl)) rfl rfl ?_
  refine xV (e_ne (q0 rfl) (q0 rfl)) rfl rfl ?_
  refine XN ?_
  refine thenJ_normal ?_
  refine H_cond rfl (fun hz => ?_) (fun hz => ?_)
  · refine H_seq ?_
    refine R0 ?_
    refine xV (e_mv (v := .int _ _) (q0 rfl)) rfl rfl ?_
    refine xV (e_as (v := .int _ _) (q0 rfl)) rfl rfl ?_
    refine xV (e_as (v := .int _ _) (q0 rfl)) rfl rfl ?_
    refine XN ?_
    refine thenJ_normal ?_
    refine H_ret ?_
    refine thenJ_ret ?_
    exact ret2 (v := .int _ _) (x := .int _ _) rfl rfl rfl rfl fun w' hw => ⟨by simp at hz; unfold totalR; rw [if_pos hz] <;> rfl, hw.1⟩
  · have hz' : cErr fines days vs = 0 := by simpa using hz
    obtain ⟨hp, hv⟩ := cErr_ok hz'
    have h256 := (vErr_ok hv).1
    refine H_skip ?_
    refine thenJ_normal ?_
    refine H_seq ?_
    refine R0 ?_
    refine X_alloc Try.zeroValue3 rfl fun b9 => ?_
    (first | refine X_store 0 (v := .int _ _) rfl rfl Try.sizeOf3 rfl rfl rfl rfl ?_ | refine X_store 1 (v := .int _ _) rfl rfl Try.sizeOf3 rfl rfl rfl rfl ?_ | refine X_store 2 (v := .int _ _) rfl rfl Try.sizeOf3 rfl rfl rfl rfl ?_ | refine X_store 3 (v := .int _ _) rfl rfl Try.sizeOf3 rfl rfl rfl rfl ?_ | refine X_store 4 (v := .int _ _) rfl rfl Try.sizeOf3 rfl rfl rfl rfl ?_ | refine X_store 5 (v := .int _ _) rfl rfl Try.sizeOf3 rfl rfl rfl rfl ?_ | refine X_store 6 (v := .int _ _) rfl rfl Try.sizeOf3 rfl rfl rfl rfl ?_ | refine X_store 7 (v := .int _ _) rfl rfl Try.sizeOf3 rfl rfl rfl rfl ?_ | refine X_store 8 (v := .int _ _) rfl rfl Try.sizeOf3 rfl rfl rfl rfl ?_)
    refine XN ?_
    refine thenJ_normal ?_
    refine H_seq ?_
    refine H_seq ?_
    refine R0 ?_
    refine xV (e_ld Try.isAgg27 (q0 rfl) (by first | exact bx 0 rfl rfl | exact bx 1 rfl rfl | exact bx 2 rfl rfl | exact bx 3 rfl rfl | exact bx 4 rfl rfl | exact bx 5 rfl rfl | exact bx 6 rfl rfl | exact bx 7 rfl rfl | exact bx 8 rfl rfl | exact bx 9 rfl rfl | exact rc ‹_› ‹_› rfl | exact rc0 ‹_› ‹_› rfl | exact xc ‹_› ‹_›)) rfl rfl ?_
    refine xV (e_mv (v := .int _ _) (q0 rfl)) rfl rfl ?_
    refine xCX (en Try.call28 (ha2 (q0 rfl) (q0 rfl))) (fun w _ => viol_make A n c rider w) rfl (fun _ => rfl) fun x => ?_
    refine XN ?_
    refine thenJ_normal ?_
    refine H_block ?_
    refine H_range (viol rider vs) (Reads x.1 x.2 A n c rider vs) (fun pre => [box x.2 3 [.int .i64 rider], box x.1 27 [.slice A n c], box b9 3 [.int .i64 (sumF (fine fines days vs) pre)], box b4 27 [.slice A n c], box b3 26 [a0, a1, a2, a3, a4, .slice fA fn fc, .int .i64 days]]) (fun _ _ => False) rfl rfl Try.call30 (viol_iter x.1 x.2 A n c rider vs) (fun _ => rfl) rfl (fun _ h => h) (fun _ => rfl) (fun _ _ h => h.elim) (fun pre w hw => ⟨box_cell hw (k := 1) rfl rfl, box_cell hw (k := 0) rfl rfl, (hw.itemLt (k := 1) rfl rfl).2, (hw.itemLt (k := 0) rfl rfl).2, hx.mem hw⟩) ?_ ?_ (fun _ _ _ h => h.elim) rfl
    · rintro l D r pre y hpre -
      have hy : y ∈ viol rider vs := hpre.subset (by simp)
      have hsl := sumF_le (f := fine fines days vs) (fun v => fine_le (pErr_ok2 hp).2.1) pre
      have hfl := fine_le (days := days) (l := vs) (v := y) (pErr_ok2 hp).2.1
      have hpl : pre.length ≤ 256 := by have h1 := hpre.length_le; have h2 := viol_len (rider := rider) (l := vs); simp at h1; omega
      refine R0 ?_
      refine X_alloc Try.zeroValue37 rfl fun b10 => ?_
      (first | refine X_store 0 (v := .agg _) rfl rfl Try.sizeOf37 rfl rfl rfl rfl ?_ | refine X_store 1 (v := .agg _) rfl rfl Try.sizeOf37 rfl rfl rfl rfl ?_ | refine X_store 2 (v := .agg _) rfl rfl Try.sizeOf37 rfl rfl rfl rfl ?_ | refine X_store 3 (v := .agg _) rfl rfl Try.sizeOf37 rfl rfl rfl rfl ?_ | refine X_store 4 (v := .agg _) rfl rfl Try.sizeOf37 rfl rfl rfl rfl ?_ | refine X_store 5 (v := .agg _) rfl rfl Try.sizeOf37 rfl rfl rfl rfl ?_ | refine X_store 6 (v := .agg _) rfl rfl Try.sizeOf37 rfl rfl rfl rfl ?_ | refine X_store 7 (v := .agg _) rfl rfl Try.sizeOf37 rfl rfl rfl rfl ?_ | refine X_store 8 (v := .agg _) rfl rfl Try.sizeOf37 rfl rfl rfl rfl ?_)
      refine XN ?_
      refine asgJ_normal _ rfl rfl (fun w hw => hw.pick [1, 2, 0, 3, 4, 5, 6, 7] (by decide)) fun r' => ?_
      refine H_block ?_
      refine RT rfl rfl (by decide +kernel) ?_
      refine xV (e_ld Try.isAgg3 (q0 rfl) (by first | exact bx 0 rfl rfl | exact bx 1 rfl rfl | exact bx 2 rfl rfl | exact bx 3 rfl rfl | exact bx 4 rfl rfl | exact bx 5 rfl rfl | exact bx 6 rfl rfl | exact bx 7 rfl rfl | exact bx 8 rfl rfl | exact bx 9 rfl rfl | exact rc ‹_› ‹_› rfl | exact rc0 ‹_› ‹_› rfl | exact xc ‹_› ‹_›)) rfl rfl ?_
      refine xV (e_lds Try.isAgg26 Try.sizeOf26 (q0 rfl) (by first | exact bxs 0 rfl | exact bxs 1 rfl | exact bxs 2 rfl | exact bxs 3 rfl | exact bxs 4 rfl | exact bxs 5 rfl | exact bxs 6 rfl | exact bxs 7 rfl | exact bxs 8 rfl | exact bxs 9 rfl | exact rcs ‹_› ‹_›) rfl) rfl rfl ?_
      refine xV (e_ld Try.isAgg27 (q0 rfl) (by first | exact bx 0 rfl rfl | exact bx 1 rfl rfl | exact bx 2 rfl rfl | exact bx 3 rfl rfl | exact bx 4 rfl rfl | exact bx 5 rfl rfl | exact bx 6 rfl rfl | exact bx 7 rfl rfl | exact bx 8 rfl rfl | exact bx 9 rfl rfl | exact rc ‹_› ‹_› rfl | exact rc0 ‹_› ‹_› rfl | exact xc ‹_› ‹_›)) rfl rfl ?_
      refine xV (e_lds Try.isAgg37 Try.sizeOf37 (q0 rfl) (by first | exact bxs 0 rfl | exact bxs 1 rfl | exact bxs 2 rfl | exact bxs 3 rfl | exact bxs 4 rfl | exact bxs 5 rfl | exact bxs 6 rfl | exact bxs 7 rfl | exact bxs 8 rfl | exact bxs 9 rfl | exact rcs ‹_› ‹_›) rfl) rfl rfl ?_
      refine xC (en Try.call27 (ha3 (q0 rfl) (q0 rfl) (q0 rfl))) (fun _ w hm => fine_w a0 a1 a2 a3 a4 fA fn fc fines days A n c vs y w (hf.mem hm) (hx.mem hm) h256 (timely_of hv) (timely_of hv y (viol_mem hy)) (pErr_ok2 hp).2.2) rfl rfl ?_
      refine xV (e_add (q0 rfl) (q0 rfl) (fun _ => ⟨rfl, by omega, by omega⟩)) rfl rfl ?_
      refine XN ?_
      refine thenJ_normal ?_
      (first | refine X_store 0 (v := .int _ _) rfl rfl Try.sizeOf3 rfl rfl rfl rfl ?_ | refine X_store 1 (v := .int _ _) rfl rfl Try.sizeOf3 rfl rfl rfl rfl ?_ | refine X_store 2 (v := .int _ _) rfl rfl Try.sizeOf3 rfl rfl rfl rfl ?_ | refine X_store 3 (v := .int _ _) rfl rfl Try.sizeOf3 rfl rfl rfl rfl ?_ | refine X_store 4 (v := .int _ _) rfl rfl Try.sizeOf3 rfl rfl rfl rfl ?_ | refine X_store 5 (v := .int _ _) rfl rfl Try.sizeOf3 rfl rfl rfl rfl ?_ | refine X_store 6 (v := .int _ _) rfl rfl Try.sizeOf3 rfl rfl rfl rfl ?_ | refine X_store 7 (v := .int _ _) rfl rfl Try.sizeOf3 rfl rfl rfl rfl ?_ | refine X_store 8 (v := .int _ _) rfl rfl Try.sizeOf3 rfl rfl rfl rfl ?_)
      refine XN ?_
      refine blockJ_normal ?_
      exact roundJ_normal fun w hw => by rw [sumF_snoc]; exact hw.pick [0, 1, 3, 4, 5, 6, 7] (by decide)
    · intro D
      refine blockJ_normal ?_
      refine thenJ_normal ?_
      refine H_seq ?_
      refine H_seq ?_
      refine R0 ?_
      refine xV (e_ld Try.isAgg3 (q0 rfl) (by first | exact bx 0 rfl rfl | exact bx 1 rfl rfl | exact bx 2 rfl rfl | exact bx 3 rfl rfl | exact bx 4 rfl rfl | exact bx 5 rfl rfl | exact bx 6 rfl rfl | exact bx 7 rfl rfl | exact bx 8 rfl rfl | exact bx 9 rfl rfl | exact rc ‹_› ‹_› rfl | exact rc0 ‹_› ‹_› rfl | exact xc ‹_› ‹_›)) rfl rfl ?_
      refine xV (e_gt (q0 rfl) (q0 rfl)) rfl rfl ?_
      refine XN ?_
      refine thenJ_normal ?_
      refine H_cond rfl (fun ho => ?_) (fun ho => ?_)
      · refine H_seq ?_
        refine R0 ?_
        refine xV (e_as (v := .int _ _) (q0 rfl)) rfl rfl ?_
        refine xV (e_as (v := .int _ _) (q0 rfl)) rfl rfl ?_
        refine XN ?_
        refine thenJ_normal ?_
        refine H_ret ?_
        refine thenJ_ret ?_
        exact ret_of_m rfl (res2 (v := .int _ _) (x := .int _ _) rfl rfl rfl) fun w' hw => ⟨by unfold totalR; rw [if_neg (by simpa using hz'), if_pos (show 1000000000000 < total fines days vs rider from of_decide_eq_true ho)] <;> rfl, hw.1⟩
      · refine H_skip ?_
        refine thenJ_normal ?_
        refine H_seq ?_
        refine R0 ?_
        refine xV (e_ld Try.isAgg3 (q0 rfl) (by first | exact bx 0 rfl rfl | exact bx 1 rfl rfl | exact bx 2 rfl rfl | exact bx 3 rfl rfl | exact bx 4 rfl rfl | exact bx 5 rfl rfl | exact bx 6 rfl rfl | exact bx 7 rfl rfl | exact bx 8 rfl rfl | exact bx 9 rfl rfl | exact rc ‹_› ‹_› rfl | exact rc0 ‹_› ‹_› rfl | exact xc ‹_› ‹_›)) rfl rfl ?_
        refine xV (e_as (v := .int _ _) (q0 rfl)) rfl rfl ?_
        refine xV (e_as (v := .int _ _) (q0 rfl)) rfl rfl ?_
        refine XN ?_
        refine thenJ_normal ?_
        refine H_ret ?_
        exact ret_of_m rfl (res2 (v := .int _ _) (x := .int _ _) rfl rfl rfl) fun w' hw => ⟨by unfold totalR; rw [if_neg (by simpa using hz'), if_neg (show ¬ 1000000000000 < total fines days vs rider from of_decide_eq_false ho)] <;> rfl, hw.1⟩

end Go.Proofs.Pen
