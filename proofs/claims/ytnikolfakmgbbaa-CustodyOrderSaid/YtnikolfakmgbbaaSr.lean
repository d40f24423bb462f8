/-
  Plain functions: the run over a list of events, with what is told of each.
-/
import Derived.Test.YtnikolfakmgbbaaSv
namespace Go.Proofs.Cus

theorem evErr_ok {f : Fl} {e : Ev} (h : evErr f e = 0) : flErr f = 0 ∧ (0 ≤ e.bike ∧ e.bike < f.bikes) ∧ (e.kind = 7 → 0 ≤ e.place ∧ e.place < f.trucks.length) ∧ (1 ≤ e.kind ∧ e.kind ≤ 10) ∧ 0 ≤ e.at_ ∧ e.at_ ≤ 4294943999 := by
  unfold evErr at h
  split at h
  · rename_i h0; exact absurd h h0
  · rename_i h0
    split at h
    · cases h
    · rename_i h1
      split at h
      · cases h
      · rename_i h2
        split at h
        · cases h
        · rename_i h3
          split at h
          · cases h
          · rename_i h4
            refine ⟨Decidable.of_not_not h0, ?_, fun h7 => ?_, ?_, ?_⟩
            · simp [within] at h3; omega
            · unfold placed at h4
              rw [if_neg (by omega), if_neg (by omega), if_pos h7] at h4
              simp [within] at h4
              omega
            · simp [within] at h2; omega
            · simp [within] at h1; omega

/-- what is told of an event: nothing of a beat that is right, else its error -/
def stepR (f : Fl) (s : PS) (e : Ev) : PS × Option Int :=
  if evErr f e = 0 ∧ e.kind = 10 then (s, none)
  else
    let er := if evErr f e = 0 then checkP f.trucks s e else evErr f e
    (if er = 0 then doP s e else s, some er)
def tellR {σ : Type} (cb : σ → PS → Ev → Int → σ) (z : σ) (e : Ev) (r : PS × Option Int) : PS × σ :=
  match r.2 with
  | none => (r.1, z)
  | some er => (r.1, cb z r.1 e er)
def runR {σ : Type} (f : Fl) (cb : σ → PS → Ev → Int → σ) (l : List Ev) (x : PS × σ) : PS × σ := l.foldl (fun x e => tellR cb x.2 e (stepR f x.1 e)) x

theorem stepR_inv {n : Nat} {f : Fl} {s : PS} {e : Ev} (hn : f.bikes = n) (h : PInv n s) : PInv n (stepR f s e).1 := by
  unfold stepR
  split
  · exact h
  · simp only
    by_cases h1 : evErr f e = 0
    · rw [if_pos h1]
      by_cases h0 : checkP f.trucks s e = 0
      · rw [if_pos h0]
        have := (evErr_ok h1).2.1
        exact h.step (by omega) h0
      · rw [if_neg h0]; exact h
    · rw [if_neg h1, if_neg h1]; exact h
theorem tellR_fst {σ : Type} (cb : σ → PS → Ev → Int → σ) (z : σ) (e : Ev) (r : PS × Option Int) : (tellR cb z e r).1 = r.1 := by
  unfold tellR; split <;> rfl
theorem runR_inv {σ : Type} {n : Nat} {f : Fl} {cb : σ → PS → Ev → Int → σ} (hn : f.bikes = n) : ∀ (l : List Ev) (x : PS × σ), PInv n x.1 → PInv n (runR f cb l x).1
  | [], _, h => h
  | e :: l, x, h => by
    show PInv n (runR f cb l _).1
    refine runR_inv hn l _ ?_
    show PInv n (tellR cb x.2 e (stepR f x.1 e)).1
    rw [tellR_fst]
    exact stepR_inv hn h
theorem runR_snoc {σ : Type} {f : Fl} {cb : σ → PS → Ev → Int → σ} (l : List Ev) (x : PS × σ) (k : Nat) (e : Ev) (h : l[k]? = some e) : runR f cb (l.take (k + 1)) x = tellR cb (runR f cb (l.take k) x).2 e (stepR f (runR f cb (l.take k) x).1 e) := by
  unfold runR
  rw [List.take_add_one, h, List.foldl_append]
  rfl

end Go.Proofs.Cus
