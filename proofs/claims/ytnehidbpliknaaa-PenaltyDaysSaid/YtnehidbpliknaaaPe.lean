/-
  The walks: the examples of the laws; how long the lists may be.
-/
import Derived.Test.YtnehidbpliknaaaPd
import Derived.Test.YtnehidbpliknaaaEe
import Derived.KernelRfl
namespace Go.Proofs.Pen
open Go Go.RowKit Go.Proofs.E

theorem fl37 {fs : Array Field} (h : Try.prog.underlying 37 = some (.struct fs) := by exact Try.underlying37) : FieldsLie Try.prog fs [(0, 1), (1, 1), (2, 1), (3, 1)] := by
  rw [Try.underlying37] at h
  cases h
  intro w
  kernel_rfl
theorem fl26 {fs : Array Field} (h : Try.prog.underlying 26 = some (.struct fs) := by exact Try.underlying26) : FieldsLie Try.prog fs [(0, 1), (1, 1), (2, 1), (3, 1), (4, 1), (5, 1), (6, 1)] := by
  rw [Try.underlying26] at h
  cases h
  intro w
  kernel_rfl

def badV (ride day : Int) : V := ⟨ride, 3, day * 86400 + 50, 2⟩
theorem bad_w (ride day : Int) (w : World) (h : 0 ≤ day ∧ day ≤ 100) : Calls Try.prog 23 #[.int .i64 ride, .int .i64 day] w fun e w' => e = .returned (.agg (badV ride day).cells.toArray) ∧ Below w.heap.size w w' := by
  refine H_enter Try.func23 rfl Try.ntmps23 rfl ?_
  refine H_seq ?_
  refine R0 ?_
  refine X_alloc Try.zeroValue37 rfl fun b4 => ?_
  refine XN ?_
  refine thenJ_normal ?_
  refine H_seq ?_
  refine R0 ?_
  refine xV (e_mv (v := .int _ _) (q0 rfl)) rfl rfl ?_
  refine xV (e_mv (v := .int _ _) (q0 rfl)) rfl rfl ?_
  refine xV (e_mul (q0 rfl) (q0 rfl) (fun _ => ⟨rfl, by omega, by omega⟩)) rfl rfl ?_
  refine xV (e_add (q0 rfl) (q0 rfl) (fun _ => ⟨rfl, by omega, by omega⟩)) rfl rfl ?_
  refine xV (e_build Try.underlying37 fl37 Try.zeroValue37 (pt (v := .int _ _) rfl (pt (v := .int _ _) rfl (pt (v := .int _ _) rfl (pt (v := .int _ _) rfl E.p0)))) rfl) rfl rfl ?_
  (first | refine X_store 0 (v := .agg _) rfl rfl Try.sizeOf37 rfl rfl rfl rfl ?_ | refine X_store 1 (v := .agg _) rfl rfl Try.sizeOf37 rfl rfl rfl rfl ?_ | refine X_store 2 (v := .agg _) rfl rfl Try.sizeOf37 rfl rfl rfl rfl ?_ | refine X_store 3 (v := .agg _) rfl rfl Try.sizeOf37 rfl rfl rfl rfl ?_ | refine X_store 4 (v := .agg _) rfl rfl Try.sizeOf37 rfl rfl rfl rfl ?_ | refine X_store 5 (v := .agg _) rfl rfl Try.sizeOf37 rfl rfl rfl rfl ?_ | refine X_store 6 (v := .agg _) rfl rfl Try.sizeOf37 rfl rfl rfl rfl ?_ | refine X_store 7 (v := .agg _) rfl rfl Try.sizeOf37 rfl rfl rfl rfl ?_ | refine X_store 8 (v := .agg _) rfl rfl Try.sizeOf37 rfl rfl rfl rfl ?_)
  refine XN ?_
  refine thenJ_normal ?_
  refine H_ret ?_
  exact ret_of rfl (resc1 0 rfl rfl Try.isAgg37 Try.sizeOf37 rfl rfl) fun w' hw => ⟨rfl, hw.1⟩
theorem usual_w (w : World) : Calls Try.prog 24 #[] w fun e w' => ∃ b : Nat, e = .returned (.agg #[.slice none 0 0, .slice none 0 0, .slice none 0 0, .slice none 0 0, .int .i64 0, .slice (some ⟨b, 0, none⟩) 3 3, .int .i64 2]) ∧ Mem w [box b 3 [.int .i64 0, .int .i64 1000, .int .i64 2500]] w' := by
  refine H_enter Try.func24 rfl Try.ntmps24 rfl ?_
  refine H_seq ?_
  refine R0 ?_
  refine X_alloc Try.zeroValue26 rfl fun b0 => ?_
  refine XN ?_
  refine thenJ_normal ?_
  refine H_seq ?_
  refine R0 ?_
  refine X_slit [(.int .i64 0), (.int .i64 0), (.int .i64 0)] Try.underlying24 Try.sizeOf3 Try.zeroValue3 rfl (by kernel_rfl) (pt (v := .int _ _) rfl (pt (v := .int _ _) rfl (pt (v := .int _ _) rfl E.p0))) rfl rfl fun b1 => ?_
  refine xV (e_build Try.underlying26 fl26 Try.zeroValue26 (pt (v := .slice _ _ _) rfl (pt (v := .int _ _) rfl E.p0)) rfl) rfl rfl ?_
  (first | refine X_store 0 (v := .agg _) rfl rfl Try.sizeOf26 rfl rfl rfl rfl ?_ | refine X_store 1 (v := .agg _) rfl rfl Try.sizeOf26 rfl rfl rfl rfl ?_ | refine X_store 2 (v := .agg _) rfl rfl Try.sizeOf26 rfl rfl rfl rfl ?_ | refine X_store 3 (v := .agg _) rfl rfl Try.sizeOf26 rfl rfl rfl rfl ?_ | refine X_store 4 (v := .agg _) rfl rfl Try.sizeOf26 rfl rfl rfl rfl ?_ | refine X_store 5 (v := .agg _) rfl rfl Try.sizeOf26 rfl rfl rfl rfl ?_ | refine X_store 6 (v := .agg _) rfl rfl Try.sizeOf26 rfl rfl rfl rfl ?_ | refine X_store 7 (v := .agg _) rfl rfl Try.sizeOf26 rfl rfl rfl rfl ?_ | refine X_store 8 (v := .agg _) rfl rfl Try.sizeOf26 rfl rfl rfl rfl ?_)
  refine XN ?_
  refine thenJ_normal ?_
  refine H_ret ?_
  exact ret_of rfl (resc1 1 rfl rfl Try.isAgg26 Try.sizeOf26 rfl rfl) fun w' hw => ⟨b1, rfl, hw.pick [0] (by decide)⟩

theorem few_w (a0 a1 a2 a3 a4 : Value) (fA : Option Addr) (fn fc : Nat) (days : Int) (A : Option Addr) (n c : Nat) (w : World) :
    Calls Try.prog 10 #[.agg #[a0, a1, a2, a3, a4, .slice fA fn fc, .int .i64 days], .slice A n c] w fun e w' => e = .returned (.bool ((decide ((n : Int) ≤ 40) || decide (256 < (n : Int)) && decide ((n : Int) ≤ 260)) && (decide ((fn : Int) ≤ 20) || decide (512 < (fn : Int)) && decide ((fn : Int) ≤ 520)))) ∧ Below w.heap.size w w' := by
  refine H_enter Try.func10 rfl Try.ntmps10 rfl ?_
  refine H_seq ?_
  refine R0 ?_
  refine X_box (v := .agg _) rfl rfl fun b2 => ?_
  refine xV (e_as (v := .bool _) (q0 rfl)) rfl rfl ?_
  refine XN ?_
  refine thenJ_normal ?_
  refine H_seq ?_
  refine R0 ?_
  refine xV (e_mv (v := .slice _ _ _) (q0 rfl)) rfl rfl ?_
  refine xV (e_len Try.underlying27 (q0 rfl)) rfl rfl ?_
  refine xV (e_le (q0 rfl) (q0 rfl)) rfl rfl ?_
  refine xV (e_mv (v := .bool _) (q0 rfl)) rfl rfl ?_
  refine xVF (e_mv (v := .slice _ _ _) (q0 rfl)) rfl rfl rfl rfl ?_
  refine xVF (e_len Try.underlying27 (q1 rfl)) rfl rfl rfl rfl ?_
  refine xVF (e_gt (q1 rfl) (q0 rfl)) rfl rfl rfl rfl ?_
  refine xVF (e_mv (v := .bool _) (q1 rfl)) rfl rfl rfl rfl ?_
  refine xVT2 (e_mv (v := .slice _ _ _) (q0 rfl)) rfl rfl rfl rfl ?_
  refine xVT2 (e_len Try.underlying27 (q1 rfl)) rfl rfl rfl rfl ?_
  refine xVT2 (e_le (q1 rfl) (q0 rfl)) rfl rfl rfl rfl ?_
  refine xVF (e_and (q1 rfl) rfl (fun h => by first | rfl | (rw [h]; rfl))) rfl rfl rfl rfl ?_
  refine xV (e_or (q0 rfl) rfl (fun h => by first | rfl | (rw [h]; rfl))) rfl rfl ?_
  refine xV (e_mv (v := .bool _) (q0 rfl)) rfl rfl ?_
  refine xVT (e_fld Try.underlying26 rfl Try.sizeOf24 rfl (q0 rfl)) rfl rfl rfl rfl ?_
  refine xVT (e_ld Try.isAgg24 (q1 rfl) (by first | exact bx 0 rfl rfl | exact bx 1 rfl rfl | exact bx 2 rfl rfl | exact bx 3 rfl rfl | exact bx 4 rfl rfl | exact bx 5 rfl rfl | exact bx 6 rfl rfl | exact bx 7 rfl rfl | exact bx 8 rfl rfl | exact bx 9 rfl rfl | exact rc ‹_› ‹_› rfl | exact rc0 ‹_› ‹_› rfl | exact xc ‹_› ‹_›)) rfl rfl rfl rfl ?_
  refine xVT (e_len Try.underlying24 (q1 rfl)) rfl rfl rfl rfl ?_
  refine xVT (e_le (q1 rfl) (q0 rfl)) rfl rfl rfl rfl ?_
  refine xVT (e_mv (v := .bool _) (q1 rfl)) rfl rfl rfl rfl ?_
  refine xVF2 (e_fld Try.underlying26 rfl Try.sizeOf24 rfl (q0 rfl)) rfl rfl rfl rfl ?_
  refine xVF2 (e_ld Try.isAgg24 (q1 rfl) (by first | exact bx 0 rfl rfl | exact bx 1 rfl rfl | exact bx 2 rfl rfl | exact bx 3 rfl rfl | exact bx 4 rfl rfl | exact bx 5 rfl rfl | exact bx 6 rfl rfl | exact bx 7 rfl rfl | exact bx 8 rfl rfl | exact bx 9 rfl rfl | exact rc ‹_› ‹_› rfl | exact rc0 ‹_› ‹_› rfl | exact xc ‹_› ‹_›)) rfl rfl rfl rfl ?_
  refine xVF2 (e_len Try.underlying24 (q1 rfl)) rfl rfl rfl rfl ?_
  refine xVF2 (e_gt (q1 rfl) (q0 rfl)) rfl rfl rfl rfl ?_
  refine xVF2 (e_mv (v := .bool _) (q1 rfl)) rfl rfl rfl rfl ?_
  refine xVT2 (e_fld Try.underlying26 rfl Try.sizeOf24 rfl (q0 rfl)) rfl rfl rfl rfl ?_
  refine xVT2 (e_ld Try.isAgg24 (q1 rfl) (by first | exact bx 0 rfl rfl | exact bx 1 rfl rfl | exact bx 2 rfl rfl | exact bx 3 rfl rfl | exact bx 4 rfl rfl | exact bx 5 rfl rfl | exact bx 6 rfl rfl | exact bx 7 rfl rfl | exact bx 8 rfl rfl | exact bx 9 rfl rfl | exact rc ‹_› ‹_› rfl | exact rc0 ‹_› ‹_› rfl | exact xc ‹_› ‹_›)) rfl rfl rfl rfl ?_
  refine xVT2 (e_len Try.underlying24 (q1 rfl)) rfl rfl rfl rfl ?_
  refine xVT2 (e_le (q1 rfl) (q0 rfl)) rfl rfl rfl rfl ?_
  refine xVF2 (e_and (q1 rfl) rfl (fun h => by first | rfl | (rw [h]; rfl))) rfl rfl rfl rfl ?_
  refine xVT (e_or (q1 rfl) rfl (fun h => by first | rfl | (rw [h]; rfl))) rfl rfl rfl rfl ?_
  refine xV (e_and (q0 rfl) rfl (fun h => by first | rfl | (rw [h]; rfl))) rfl rfl ?_
  refine xV (e_as (v := .bool _) (q0 rfl)) rfl rfl ?_
  refine XN ?_
  refine thenJ_normal ?_
  refine H_ret ?_
  exact ret1 (v := .bool _) rfl rfl rfl fun w' hw => ⟨rfl, hw.1⟩

end Go.Proofs.Pen
