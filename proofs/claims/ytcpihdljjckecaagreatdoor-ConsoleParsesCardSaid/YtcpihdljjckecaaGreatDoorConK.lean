import Derived.Test.YtcpihdljjckecaaGreatDoorConOc
import Derived.Test.YtcpihdljjckecaaGreatDoorConOd
import Derived.Test.YtcpihdljjckecaaGreatDoorProg
import Derived.Test.YtcpihdljjckecaaGreatDoorConA
import Derived.Test.YtcpihdljjckecaaGreatDoorConEc
set_option linter.unusedVariables false
set_option linter.unusedSimpArgs false
/-
  The chapter's examples, by the evaluator.
-/
set_option linter.unusedVariables false
set_option maxRecDepth 100000
namespace Go.Proofs.O
open Go Go.Proofs.E

noncomputable def isTrue : Out → Bool := Out.rec (motive := fun _ => Bool) (fun _ _ v _ => OB.rec (motive := fun _ => Bool) false (fun b => b) (asB v)) (fun _ => false)
theorem isTrue_ok {o : Out} (h : isTrue o = true) : ∃ e f s, o = .ok e f (.b true) s := by
  cases o with
  | er n => cases h
  | ok e f v s =>
    cases v <;> try (cases h; done)
    rename_i b
    have h2 : b = true := h
    subst h2
    exact ⟨e, f, s, rfl⟩
noncomputable def tab : Tab := ⟨Tryz.prog, [(24, [0, 0, 0, 0, 0, 0, 0, 0, 0]), (165, [0, 0, 0]), (427, [0, 0]), (306, [0, 0]), (230, [0, 0, 0, 1]), (420, [0, 0]), (381, [0, 0]), (278, [0, 0]), (224, [0, 0, 0, 0, 0, 0]), (210, [0, 0, 0]), (365, [0, 0, 0]), (369, [0, 0, 0, 0, 0]), (372, [0, 0, 0, 0]), (30, [0, 0, 0, 0, 0, 0, 0, 0, 0, 0, 0, 0, 0, 0, 0, 0, 0, 0, 0, 0])], fun w => Con.Lw w ∧ w.drawn = 0⟩
theorem tab_ok : TabOk tab := tabB_ok (by kernel_rfl)
theorem name_ok : NameOk tab := by
  have h : Tryz.prog.funcs.toList.all (fun fn => !(fn.name == "runtime.NumGoroutine")) = true := by kernel_rfl
  intro k fn hk
  have hk : Tryz.prog.funcs[k]? = some fn := hk
  rw [List.all_eq_true] at h
  have := h fn (List.mem_of_getElem? (i := k) (by rw [Array.getElem?_toList]; exact hk))
  simpa using this
theorem mix_ok : tab.P.follows .mixedOrders = true := by kernel_rfl
end Go.Proofs.O

/-
  The evaluator: functions told at the places that are met, one by one.
-/
set_option linter.unusedVariables false
namespace Go.Proofs.O
open Go Go.Proofs.E
noncomputable def tabF (T : List (V × V)) (x : V) (s : St) : Out := List.rec (motive := fun _ => Out) (.er 230) (fun p _ ih => Bool.rec (motive := fun _ => Out) ih (.ok .n fm0 p.2 s) (eqV x p.1)) T
noncomputable def tabX (T : List (V × V)) (l : List V) (s : St) : Out := tabF T (.a l) s
noncomputable def extT (k : FuncId) (T : List (V × V)) (e : Ext) (j : FuncId) : Xt := Bool.rec (motive := fun _ => Xt) (e j) ⟨some (tabX T)⟩ (Nat.beq j k)
theorem tabF_ok : ∀ {T : List (V × V)} {x : V} {s : St} {e : Ex} {f' : Fm} {v : V} {s' : St}, tabF T x s = .ok e f' v s' → (x, v) ∈ T ∧ s' = s
  | [], x, s, e, f', v, s', h => by cases h
  | p :: T, x, s, e, f', v, s', h => by
    have h2 : (Bool.rec (motive := fun _ => Out) (tabF T x s) (.ok .n fm0 p.2 s) (eqV x p.1)) = .ok e f' v s' := h
    rw [brec] at h2
    split at h2
    · rename_i he
      have := eqV_ok _ _ he
      injection h2 with h3 h4 h5 h6
      subst h5; subst this
      exact ⟨List.mem_cons_self .., h6.symm⟩
    · obtain ⟨h3, h4⟩ := tabF_ok h2
      exact ⟨List.mem_cons_of_mem _ h3, h4⟩
/-- what the table says is what the function returns -/
def Told (c : Tab) (k : FuncId) (T : List (V × V)) : Prop := ∀ p ∈ T, ∃ l r, p.1 = .a l ∧ (∀ ρ, cv ρ p.2 = r) ∧ (∀ ρ n, Gd ρ n p.2) ∧ ∀ ρ (w0 : World), c.wd w0 → w0.drawn = 0 ∧ ∀ w, Blw w0 w → Calls c.P k (cvL ρ l).toArray w fun e w' => e = .returned r ∧ Blw w w'
theorem extT_ok {c : Tab} {k : FuncId} {T : List (V × V)} (hT : Told c k T) {e : Ext} (he : ExtOk c e) : ExtOk c (extT k T e) := by
  intro j g args s x f' v s' hk h
  have h2 : (Bool.rec (motive := fun _ => Xt) (e j) ⟨some (tabX T)⟩ (Nat.beq j k) : Xt).x = some g := hk
  rw [brec] at h2
  split at h2
  · rename_i e1
    have := beq_t.1 e1
    subst this
    injection h2 with h2
    subst h2
    obtain ⟨hm, rfl⟩ := tabF_ok (T := T) (x := .a args) h
    obtain ⟨l, r, hl, hr, hg, hc⟩ := hT _ hm
    injection hl with hl
    subst hl
    intro ρ F w0 w hF hs _ hw
    obtain ⟨h0, hc⟩ := hc ρ w0 hF.2
    refine (hc w ⟨hw.1.os, hw.1.tape, hw.1.output, hw.1.size, hw.1.block⟩).mono ?_
    rintro r2 w' ⟨rfl, hb⟩
    exact ⟨ρ, by rw [hr], Exn.refl, hs, Mono.refl, hg _ _, hw.call0 h0 hb⟩
  · exact he j g args s x f' v s' h2 h
/-- a closed call, from a base that may have drawn less -/
theorem closed0_w {c : Tab} {x : Ext} (hT : TabOk c) (hNm : NameOk c) (hm : c.P.follows .mixedOrders = true) (hX : ExtOk c x) {n : Nat} {k : FuncId} {e : Ex} {f' : Fm} {b : Bool} {s' : St} (h : run c x n (.call k []) ⟨.e, 1, 1⟩ = .ok e f' (.b b) s') (w : World) (hwd : c.wd (und0 w)) :
    Calls c.P k #[] w fun e w' => e = .returned (.bool b) ∧ Blw w w' := by
  have h1 := (run_ok hT hNm hm hX n).call k [] _ e f' _ s' h ⟨id, id, id, id, fun _ => False⟩ [] (und0 w) w ⟨rfl, hwd⟩ ⟨by decide, fun id st q hq => (by rw [hget_e] at hq; cases hq), fun id h => h.elim⟩ trivial (m_nil (Mem.start0 w))
  refine h1.mono ?_
  rintro e2 w2 ⟨ρ', rfl, _, _, _, _, h2⟩
  exact ⟨by simp [cv], blw_of h2⟩
end Go.Proofs.O
