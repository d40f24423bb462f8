/-
  The walks: the set.
-/
import Derived.Test.YtnikolfakmgbbaaCf
namespace Go.Proofs.Cus
open Go Go.RowKit Go.Proofs.E

theorem compactAt_w {w0 w : World} {L : List E.Item} {j c : Nat} {A : Option Addr} {xs : List Ev} (hw : Mem w0 L w) (hk : L[j]? = some (evRow A c xs)) (hmk : marks L = []) (hn : xs.length ≤ 1000000) :
    Calls Try.prog 62 #[.slice A xs.length c, .func (.func 63) #[] #[]] w fun e w' => ∃ _ : Unit, e = .returned (.slice A (compactF sameNum xs).length c) ∧ Mem w0 (L.set j (evRow A c (compactF sameNum xs))) w' :=
  (compactEv_w sameNum 63 Try.call63 set2_w (hw.front hk) (marks_erase L j hmk) hn).mono fun _ _ ⟨_, he, hm⟩ => ⟨(), he, hm.back hk⟩

theorem compact_len {α : Type} (eq : α → α → Bool) : ∀ (xs : List α), (compactF eq xs).length ≤ xs.length
  | [] => Nat.le_refl _
  | x :: xs => by
    have : ∀ (xs : List α) (p : α), (compactGo eq p xs).length ≤ xs.length := by
      intro xs
      induction xs with
      | nil => intro p; exact Nat.le_refl _
      | cons y ys ih =>
        intro p
        simp only [compactGo]
        split
        · have := ih y; simp; omega
        · have := ih y; simp; omega
    have := this xs x
    simp [compactF]; omega
theorem setOf_len (l : List Ev) : (setOf l).length ≤ l.length := by
  have := compact_len sameNum (l.mergeSort le1)
  simpa [setOf] using this
attribute [local irreducible] compactF
theorem set_w (A : Option Addr) (n c : Nat) (xs : List Ev) (w : World) (hx : EvsAt w A n xs) (hn : n ≤ 10000) :
    Calls Try.prog 33 #[.slice A n c] w fun e w' => ∃ x : Option Addr × Nat, e = .returned (.slice x.1 (setOf xs).length x.2) ∧ Mem w [evRow x.1 x.2 (setOf xs)] w' := by
  have hl := hx.1
  subst hl
  refine H_enter Try.func33 rfl Try.ntmps33 rfl ?_
  refine H_seq ?_
  refine R0 ?_
  refine xV (e_as (v := .slice _ _ _) (q0 rfl)) rfl rfl ?_
  refine XN ?_
  refine thenJ_normal ?_
  refine H_seq ?_
  refine R0 ?_
  refine xV (e_mv (v := .slice _ _ _) (q0 rfl)) rfl rfl ?_
  refine xCX (en Try.call56 (ha1 (q0 rfl))) (fun w hw => clone_w A xs.length c xs w (hx.mem hw) hn) rfl (fun _ => rfl) fun x => ?_
  refine xV (e_as (v := .slice _ _ _) (q0 rfl)) rfl rfl ?_
  refine XN ?_
  refine thenJ_normal ?_
  refine H_seq ?_
  refine R0 ?_
  refine xV (e_mv (v := .slice _ _ _) (q0 rfl)) rfl rfl ?_
  refine X_eff (f_callM (en Try.call57 (ha2 (q0 rfl) (q0 rfl))) (fun w hw => sort1_w (j := 0) hw rfl (by omega)) rfl (fun _ => rfl) fun u => ?_)
  refine XN ?_
  refine thenJ_normal ?_
  refine H_seq ?_
  refine R0 ?_
  refine xV (e_mv (v := .slice _ _ _) (q0 rfl)) rfl rfl ?_
  have e1 : xs.length = (xs.mergeSort le1).length := by simp
  rw [e1]
  refine X_eff (f_callM (en Try.call62 (ha2 (q0 rfl) (q0 rfl))) (fun w hw => compactAt_w (j := 0) hw rfl rfl (by simp; omega)) rfl (fun _ => rfl) fun u => ?_)
  refine xV (e_as (v := .slice _ _ _) (q0 rfl)) rfl rfl ?_
  refine XN ?_
  refine thenJ_normal ?_
  refine H_seq ?_
  refine R0 ?_
  refine xV (e_mv (v := .slice _ _ _) (q0 rfl)) rfl rfl ?_
  refine X_eff (f_callM (en Try.call57 (ha2 (q0 rfl) (q0 rfl))) (fun w hw => sort2_w (j := 0) hw rfl (by have := compact_len sameNum (xs.mergeSort le1); simp at this; omega)) rfl (fun _ => rfl) fun u => ?_)
  refine XN ?_
  refine thenJ_normal ?_
  refine H_seq ?_
  refine R0 ?_
  refine xV (e_mv (v := .slice _ _ _) (q0 rfl)) rfl rfl ?_
  refine xV (e_as (v := .slice _ _ _) (q0 rfl)) rfl rfl ?_
  refine XN ?_
  refine thenJ_normal ?_
  refine H_ret ?_
  have e2 : (compactF sameNum (xs.mergeSort le1)).length = (setOf xs).length := by simp [setOf]
  exact ret1 (v := .slice _ _ _) rfl rfl rfl fun w' hw => ⟨x, by rw [← e2], hw⟩

end Go.Proofs.Cus
