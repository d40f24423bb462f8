/-
  The walks: the violations of a rider, and the number of a verdict among them.
-/
import Derived.Test.YtnehidbpliknaaaPa
namespace Go.Proofs.Pen
open Go Go.RowKit Go.Proofs.E

theorem viol_make (A : Option Addr) (n c : Nat) (rider : Int) (w : World) :
    Calls Try.prog 28 #[.slice A n c, .int .i64 rider] w fun e w' => ∃ x : Nat × Nat, e = .returned (.func (.func 30) #[] #[.pointer (some ⟨x.1, 0, none⟩), .pointer (some ⟨x.2, 0, none⟩)]) ∧
      Mem w [box x.2 3 [.int .i64 rider], box x.1 27 [.slice A n c]] w' := by
  refine H_enter Try.func28 rfl Try.ntmps28 rfl ?_
  refine H_seq ?_
  refine R0 ?_
  refine X_box (v := .slice _ _ _) rfl rfl fun b2 => ?_
  refine X_box (v := .int _ _) rfl rfl fun b3 => ?_
  refine xV (e_as (q0 rfl)) rfl rfl ?_
  refine XN ?_
  refine thenJ_normal ?_
  refine H_seq ?_
  refine R0 ?_
  refine xV e_fn rfl rfl ?_
  refine xV (e_as (q0 rfl)) rfl rfl ?_
  refine XN ?_
  refine thenJ_normal ?_
  refine H_ret ?_
  exact ret1 rfl rfl rfl fun w' hw => ⟨(b2, b3), rfl, hw⟩

/-- what the iterator reads -/
def Reads (bl br : Nat) (A : Option Addr) (n c : Nat) (rider : Int) (vs : List V) (W : World) : Prop :=
  W.cell? ⟨bl, 0, none⟩ = some (.slice A n c) ∧ W.cell? ⟨br, 0, none⟩ = some (.int .i64 rider) ∧ bl < W.heap.size ∧ br < W.heap.size ∧ VsAt W A n vs
theorem Reads.below {bl br : Nat} {A : Option Addr} {n c : Nat} {rider : Int} {vs : List V} {W W' : World} (h : Reads bl br A n c rider vs W) (hb : Below W.heap.size W W') : Reads bl br A n c rider vs W' :=
  ⟨(hb.cell (p := ⟨bl, 0, none⟩) h.2.2.1).trans h.1, (hb.cell (p := ⟨br, 0, none⟩) h.2.2.2.1).trans h.2.1, Nat.lt_of_lt_of_le h.2.2.1 hb.size, Nat.lt_of_lt_of_le h.2.2.2.1 hb.size, h.2.2.2.2.below hb⟩

theorem viol_snoc {rider : Int} {l : List V} {k : Nat} {v : V} (hv : l[k]? = some v) (h : (decide (v.rider = rider) && decide (v.kind = 2)) = true) : viol rider (l.take (k + 1)) = viol rider (l.take k) ++ [v] := by
  rw [take_snoc _ _ _ hv]; simp only [viol, List.filter_append]
  simp at h; simp [h]
theorem viol_skip {rider : Int} {l : List V} {k : Nat} {v : V} (hv : l[k]? = some v) (h : (decide (v.rider = rider) && decide (v.kind = 2)) = false) : viol rider (l.take (k + 1)) = viol rider (l.take k) := by
  rw [take_snoc _ _ _ hv]; simp only [viol, List.filter_append]
  simp at h; simp; exact h
theorem viol_pre {rider : Int} {l : List V} {k : Nat} : viol rider (l.take k) <+: viol rider l := by
  unfold viol; exact (List.take_prefix k l).filter _

theorem viol_iter (bl br : Nat) (A : Option Addr) (n c : Nat) (rider : Int) (vs : List V) :
    IterOK Try.prog 30 #[.pointer (some ⟨bl, 0, none⟩), .pointer (some ⟨br, 0, none⟩)] (fun v : V => #[.agg v.cells.toArray]) (viol rider vs) (Reads bl br A n c rider vs) := by
  intro l J Jx W hR hJ sJ sJx hY
  refine H_enter Try.func30 rfl Try.ntmps30 rfl ?_
  obtain ⟨hcl, hcr, hbl, hbr, hv⟩ := id hR
  have hn := hv.2.1
  have hl := hv.1
  refine H_seq ?_
  refine R0 ?_
  refine xV (e_ld Try.isAgg27 (q0 rfl) (by first | exact bx 0 rfl rfl | exact bx 1 rfl rfl | exact bx 2 rfl rfl | exact bx 3 rfl rfl | exact bx 4 rfl rfl | exact bx 5 rfl rfl | exact bx 6 rfl rfl | exact bx 7 rfl rfl | exact bx 8 rfl rfl | exact bx 9 rfl rfl | exact rc ‹_› ‹_› rfl | exact rc0 ‹_› ‹_› rfl | exact xc ‹_› ‹_›)) rfl rfl ?_
  refine xV (e_len Try.underlying27 (q0 rfl)) rfl rfl ?_
  refine xV (e_mv (v := .int _ _) (q0 rfl)) rfl rfl ?_
  refine XN ?_
  refine thenJ_normal ?_
  refine H_block ?_
  clear hcl hcr hbl hbr hv
  refine H_loopW [5, 8, 9, 10, 11, 12, 13, 14, 15, 16, 17, 18, 19, 20, 21, 22, 23, 24, 25, 26, 27] (fun s : World × Nat => [(8, .int .i64 s.2)]) (fun s => s.1) (fun _ => []) (fun s => s.2 ≤ n ∧ Reads bl br A n c rider vs s.1 ∧ J (viol rider (vs.take s.2)) s.1) (fun s => n - s.2) (W, 0) ⟨rfl, trivial⟩ (fun _ h => h) rfl ⟨Nat.zero_le _, hR, hJ⟩ ?_
  rintro ⟨W1, k⟩ g ⟨hk, hR1, hJ1⟩
  dsimp only at hk hR1 hJ1 ⊢
  refine H_seq ?_
  refine R0 ?_
  refine xV (e_lt (q0 rfl) (q0 rfl)) rfl rfl ?_
  refine XN ?_
  refine thenJ_normal ?_
  refine H_seq ?_
  refine H_cond rfl (fun hlt => ?_) (fun hlt => ?_)
  · simp at hlt
    obtain ⟨hcl, hcr, hbl, hbr, hv⟩ := id hR1
    obtain ⟨b, off, v, rfl, hvb, hvk, hrow⟩ := hv.at_ hlt
    refine H_skip ?_
    refine thenJ_normal ?_
    refine H_seq ?_
    refine H_block ?_
    refine H_seq ?_
    refine R0 ?_
    refine xV (e_idx _ Try.underlying27 Try.sizeOf37 (q0 rfl) (q0 rfl) (fun _ => ⟨rfl, by omega⟩)) rfl rfl ?_
    refine xV (e_lds Try.isAgg37 Try.sizeOf37 (q0 rfl) (by first | exact bxs 0 rfl | exact bxs 1 rfl | exact bxs 2 rfl | exact bxs 3 rfl | exact bxs 4 rfl | exact bxs 5 rfl | exact bxs 6 rfl | exact bxs 7 rfl | exact bxs 8 rfl | exact bxs 9 rfl | exact rcs ‹_› ‹_›) rfl) rfl rfl ?_
    refine X_alloc Try.zeroValue37 rfl fun b5 => ?_
    (first | refine X_store 0 (v := .agg _) rfl rfl Try.sizeOf37 rfl rfl rfl rfl ?_ | refine X_store 1 (v := .agg _) rfl rfl Try.sizeOf37 rfl rfl rfl rfl ?_ | refine X_store 2 (v := .agg _) rfl rfl Try.sizeOf37 rfl rfl rfl rfl ?_ | refine X_store 3 (v := .agg _) rfl rfl Try.sizeOf37 rfl rfl rfl rfl ?_ | refine X_store 4 (v := .agg _) rfl rfl Try.sizeOf37 rfl rfl rfl rfl ?_ | refine X_store 5 (v := .agg _) rfl rfl Try.sizeOf37 rfl rfl rfl rfl ?_ | refine X_store 6 (v := .agg _) rfl rfl Try.sizeOf37 rfl rfl rfl rfl ?_ | refine X_store 7 (v := .agg _) rfl rfl Try.sizeOf37 rfl rfl rfl rfl ?_ | refine X_store 8 (v := .agg _) rfl rfl Try.sizeOf37 rfl rfl rfl rfl ?_)
    refine XN ?_
    refine thenJ_normal ?_
    refine H_seq ?_
    refine R0 ?_
    refine xV (e_fld Try.underlying37 rfl Try.sizeOf3 rfl (q0 rfl)) rfl rfl ?_
    refine xV (e_ld Try.isAgg3 (q0 rfl) (by first | exact bx 0 rfl rfl | exact bx 1 rfl rfl | exact bx 2 rfl rfl | exact bx 3 rfl rfl | exact bx 4 rfl rfl | exact bx 5 rfl rfl | exact bx 6 rfl rfl | exact bx 7 rfl rfl | exact bx 8 rfl rfl | exact bx 9 rfl rfl | exact rc ‹_› ‹_› rfl | exact rc0 ‹_› ‹_› rfl | exact xc ‹_› ‹_›)) rfl rfl ?_
    refine xV (e_ld Try.isAgg3 (q0 rfl) (by first | exact bx 0 rfl rfl | exact bx 1 rfl rfl | exact bx 2 rfl rfl | exact bx 3 rfl rfl | exact bx 4 rfl rfl | exact bx 5 rfl rfl | exact bx 6 rfl rfl | exact bx 7 rfl rfl | exact bx 8 rfl rfl | exact bx 9 rfl rfl | exact rc ‹_› ‹_› rfl | exact rc0 ‹_› ‹_› rfl | exact xc ‹_› ‹_›)) rfl rfl ?_
    refine xV (e_eq (q0 rfl) (q0 rfl)) rfl rfl ?_
    refine xV (e_mv (v := .bool _) (q0 rfl)) rfl rfl ?_
    refine xVT (e_fld Try.underlying37 rfl Try.sizeOf3 rfl (q0 rfl)) rfl rfl rfl rfl ?_
    refine xVT (e_ld Try.isAgg3 (q1 rfl) (by first | exact bx 0 rfl rfl | exact bx 1 rfl rfl | exact bx 2 rfl rfl | exact bx 3 rfl rfl | exact bx 4 rfl rfl | exact bx 5 rfl rfl | exact bx 6 rfl rfl | exact bx 7 rfl rfl | exact bx 8 rfl rfl | exact bx 9 rfl rfl | exact rc ‹_› ‹_› rfl | exact rc0 ‹_› ‹_› rfl | exact xc ‹_› ‹_›)) rfl rfl rfl rfl ?_
    refine xVT (e_eq (q1 rfl) (q0 rfl)) rfl rfl rfl rfl ?_
    refine xV (e_and (q0 rfl) rfl (fun h => by first | rfl | (rw [h]; rfl))) rfl rfl ?_
    refine xV (e_mv (v := .bool _) (q0 rfl)) rfl rfl ?_
    refine xVT (e_mv (q0 rfl)) rfl rfl rfl rfl ?_
    refine xVT (e_lds Try.isAgg37 Try.sizeOf37 (q0 rfl) (by first | exact bxs 0 rfl | exact bxs 1 rfl | exact bxs 2 rfl | exact bxs 3 rfl | exact bxs 4 rfl | exact bxs 5 rfl | exact bxs 6 rfl | exact bxs 7 rfl | exact bxs 8 rfl | exact bxs 9 rfl | exact rcs ‹_› ‹_›) rfl) rfl rfl rfl rfl ?_
    refine X_yield (A := fun W' => J (viol rider (vs.take (k + 1))) W' ∧ Reads bl br (some ⟨b, off, none⟩) n c rider vs W') (B := Jx) (Gd_true rfl rfl) (q1 rfl) (ha1 (q1 rfl)) rfl rfl (fun h w hw => ?_) (fun h => ?_) (fun h W2 hW2 => ?_) (fun h W2 hW2 => ?_)
    · have := hY (viol rider (vs.take k)) v w (by rw [← viol_snoc hvk h]; exact viol_pre) (hR1.below hw.1) (sJ _ _ _ hJ1 hw.1)
      rw [viol_snoc hvk h]
      exact this
    · refine xVT (e_not (q1 rfl)) rfl rfl rfl rfl ?_
      refine xV (e_and (q0 rfl) rfl (fun h => by first | rfl | (rw [h]; rfl))) rfl rfl ?_
      refine XN ?_
      refine thenJ_normal ?_
      refine H_cond rfl (fun hc => ?_) (fun hc => ?_)
      · rw [h] at hc; simp at hc
      · refine H_skip ?_
        refine blockJ_normal ?_
        refine thenJ_normal ?_
        refine R0 ?_
        refine xV (e_add (q0 rfl) (q0 rfl) (fun _ => ⟨rfl, by omega, by omega⟩)) rfl rfl ?_
        refine xV (e_mv (v := .int _ _) (q0 rfl)) rfl rfl ?_
        refine XN ?_
        exact loopJ_normal (W1, k + 1) (by repeat (first | exact agree_self | exact agree_over | refine agree_upd rfl ?_ | refine agree_updL rfl ?_ | refine agree_over2 rfl ?_)) ⟨rfl, trivial⟩ (fun _ h => h.tail) rfl ⟨by dsimp only; omega, hR1, by rw [viol_skip hvk h]; exact hJ1⟩ (by show n - (k + 1) < n - k; omega)
    · refine xVT (e_not (q1 rfl)) rfl rfl rfl rfl ?_
      refine xV (e_and (q0 rfl) rfl (fun h => by first | rfl | (rw [h]; rfl))) rfl rfl ?_
      refine XN ?_
      refine thenJ_normal ?_
      refine H_cond rfl (fun hc => ?_) (fun hc => ?_)
      · simp at hc
      · refine H_skip ?_
        refine blockJ_normal ?_
        refine thenJ_normal ?_
        refine R0 ?_
        refine xV (e_add (q0 rfl) (q0 rfl) (fun _ => ⟨rfl, by omega, by omega⟩)) rfl rfl ?_
        refine xV (e_mv (v := .int _ _) (q0 rfl)) rfl rfl ?_
        refine XN ?_
        exact loopJ_normal (W2, k + 1) (by repeat (first | exact agree_self | exact agree_over | refine agree_upd rfl ?_ | refine agree_updL rfl ?_ | refine agree_over2 rfl ?_)) ⟨rfl, trivial⟩ (fun _ h => h) rfl ⟨by dsimp only; omega, hW2.2, hW2.1⟩ (by show n - (k + 1) < n - k; omega)
    · refine xVT (e_not (q1 rfl)) rfl rfl rfl rfl ?_
      refine xV (e_and (q0 rfl) rfl (fun h => by first | rfl | (rw [h]; rfl))) rfl rfl ?_
      refine XN ?_
      refine thenJ_normal ?_
      refine H_cond rfl (fun hc => ?_) (fun hc => ?_)
      · refine H_ret ?_
        refine blockJ_ret ?_
        refine thenJ_ret ?_
        refine loopJ_ret ?_
        refine blockJ_ret ?_
        exact ret0 rfl rfl fun w' hw => ⟨rfl, .inr (sJx _ _ hW2 hw.1)⟩
      · rw [h] at hc; simp at hc
  · simp at hlt
    refine H_exit ?_
    refine thenJ_exit ?_
    refine loopJ_exit ?_
    refine blockJ_hit ?_
    refine end0 rfl rfl fun w' hw => ⟨rfl, .inl (sJ _ _ _ ?_ hw.1)⟩
    rw [List.take_of_length_le (by omega)] at hJ1
    exact hJ1

end Go.Proofs.Pen
