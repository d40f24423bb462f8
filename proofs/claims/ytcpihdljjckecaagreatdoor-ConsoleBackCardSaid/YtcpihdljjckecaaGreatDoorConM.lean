import Derived.Test.YtcpihdljjckecaaGreatDoorConL
import Derived.Test.YtcpihdljjckecaaGreatDoorConOd
import Derived.Test.YtcpihdljjckecaaGreatDoorConB
set_option linter.unusedVariables false
set_option linter.unusedSimpArgs false
/-
  The chapter's examples hold.
-/
set_option maxRecDepth 100000
set_option linter.unusedVariables false
namespace Go.Proofs.O
open Go Go.Proofs.E
theorem pL_ok : pL.all (fun p => decide (Con.parseL ((Con.spl p.1.data.toList).map Con.toB) = p.2) && decide (p.1.size ≤ 1000)) = true := by decide +kernel
theorem qL_ok : qL.all (fun p => decide (Con.printL p.1 = (p.2, 0)) && decide (p.1.length = 20)) = true := by decide +kernel
theorem wL_ok : wL.all (fun p => decide (Con.txt p.1 = p.2) && Con.okN p.1) = true := by decide +kernel
theorem cvI (ρ : Env) (l : List Int) : cvL ρ (l.map fun n => .i .i64 n) = l.map Con.I64 := by
  induction l with
  | nil => rfl
  | cons x l ih => simp only [List.map_cons, cvL, cv, ih]
theorem gdI (ρ : Env) (n : Nat) (l : List Int) : GdL ρ n (l.map fun n => .i .i64 n) := GdL_iff.2 fun v hv => by
  obtain ⟨m, _, rfl⟩ := List.mem_map.1 hv
  trivial
theorem told_p : Told tab 7 parT := by
  intro p hp
  obtain ⟨q, hq, rfl⟩ := List.mem_map.1 hp
  have h := List.all_eq_true.1 pL_ok q hq
  rw [Bool.and_eq_true] at h
  have h1 := of_decide_eq_true h.1
  have h2 := of_decide_eq_true h.2
  refine ⟨_, .tuple #[.agg (q.2.1.map Con.I64).toArray, .int .i64 q.2.2], rfl, fun ρ => ?_, fun ρ n => by simp only [Gd, GdL]; exact ⟨gdI ρ n _, trivial, trivial⟩, fun ρ w0 hw0 => ⟨hw0.2, fun w hb => ?_⟩⟩
  · simp only [cv, cvL, cvI]
  · refine (Con.parseS_w q.1 w (hw0.1.blw hb) h2).mono ?_
    rintro e w' ⟨rfl, hb2⟩
    have : Con.parseS q.1 = q.2 := by unfold Con.parseS; rw [Con.words_spl]; exact h1
    rw [this]
    exact ⟨rfl, hb2⟩
theorem told_q : Told tab 9 priT := by
  intro p hp
  obtain ⟨q, hq, rfl⟩ := List.mem_map.1 hp
  have h := List.all_eq_true.1 qL_ok q hq
  rw [Bool.and_eq_true] at h
  have h1 := of_decide_eq_true h.1
  have h2 := of_decide_eq_true h.2
  refine ⟨_, .tuple #[.string q.2, .int .i64 0], rfl, fun ρ => ?_, fun _ _ => by simp only [Gd, GdL]; trivial, fun ρ w0 hw0 => ⟨hw0.2, fun w hb => ?_⟩⟩
  · simp only [cv, cvL]
  · obtain ⟨a, s⟩ := q
    match a, h2 with
    | a0 :: ar, h2 =>
      simp only [cvL, cv, cvI]
      refine (Con.print_w a0 ar (by simpa using h2) w (hw0.1.blw hb)).mono ?_
      rintro e w' ⟨rfl, hb2⟩
      rw [h1]
      exact ⟨rfl, hb2⟩
theorem told_w : Told tab 24 wriT := by
  intro p hp
  obtain ⟨q, hq, rfl⟩ := List.mem_map.1 hp
  have h := List.all_eq_true.1 wL_ok q hq
  rw [Bool.and_eq_true] at h
  have h1 := of_decide_eq_true h.1
  have h2 := of_decide_eq_true h.2
  refine ⟨_, .string q.2, rfl, fun ρ => ?_, fun _ _ => trivial, fun ρ w0 hw0 => ⟨hw0.2, fun w hb => ?_⟩⟩
  · simp only [cv]
  · refine (Con.writOk_w q.1 w (hw0.1.blw hb) h2.1 h2.2).mono ?_
    rintro e w' ⟨rfl, hb2⟩
    rw [h1]
    exact ⟨rfl, hb2⟩
theorem awake_w (w : World) (hl : Con.Lw w) : Calls Tryz.prog 6 #[] w fun e w' => e = .returned (.bool true) ∧ Blw w w' := by
  obtain ⟨e, f, s, h⟩ := isTrue_ok awake_run
  exact closed0_w tab_ok name_ok mix_ok (extT_ok told_p (extT_ok told_q (extT_ok told_w (extN_ok rfl (ext_ok rfl))))) h w ⟨hl.und, rfl⟩
end Go.Proofs.O

/-
  What the laws of chapter 62 share.
-/
namespace Go.Proofs.Con
open Go Go.RowKit Go.Proofs.E

theorem H_all {c : Cx} {k : Code} {PQ : PJ} {w0 : World} {L : List E.Item} {f : Fr} (i : Nat) {b : Nat} {t : TypeId} {cs vs : List Value} (hk : L[i]? = some (box b t (setAt cs 0 vs))) (h : cs.length = vs.length) (next : H c k PQ w0 (L.set i (box b t vs)) f) : H c k PQ w0 L f := by
  rw [setAt_all h] at hk
  have hlt : i < L.length := (List.getElem?_eq_some_iff.1 hk).1
  have : L.set i (box b t vs) = L := by
    rw [← (List.getElem?_eq_some_iff.1 hk).2]; exact List.set_getElem_self hlt
  rwa [this] at next
theorem printS_w (a : List Int) (ha : a.length = 20) (w : World) (hl : Lw w) : Calls Tryz.prog 9 #[.agg (a.map I64).toArray] w fun e w' => e = .returned (.tuple #[.string (printL a).1, .int .i64 (printL a).2]) ∧ Blw w w' := by
  match a, ha with
  | a0 :: ar, ha => exact print_w a0 ar (by simpa using ha) w hl
theorem parse_len (s : ByteArray) : (parseS s).1.length = 20 := by
  unfold parseS parseL
  split
  · rfl
  · split
    · rfl
    · split
      · rw [puts_len]; rfl
      · rfl
theorem flat_size : ∀ vs : List Int, (∀ v ∈ vs, okN v = true) → (flat vs).length ≤ 18 * vs.length
  | [], _ => Nat.le_refl _
  | v :: vs, h => by
    have h1 := flat_size vs fun x hx => h x (List.mem_cons_of_mem _ hx)
    obtain ⟨h2, h3⟩ := of_decide_eq_true (h v (List.mem_cons_self ..))
    have h4 := (txt_size h2 h3).2
    have h5 : (txt v).size = (Go.Lib.itoa v).length := by unfold txt; simp [ByteArray.size]
    simp only [flat, List.length_cons, List.length_append]
    omega
theorem print_size {a : List Int} (ha : a.length = 20) {s : ByteArray} (h : printL a = (s, 0)) : s.size ≤ 1000 := by
  obtain ⟨c, hc, vs, h1, h2, rfl, h4⟩ := print_ok ha h
  obtain ⟨i, hi, rfl⟩ := List.mem_iff_getElem.1 hc
  have hw := word_small (k := i) (List.getElem?_eq_getElem hi)
  have ho := (offs_ok (k := i) (List.getElem?_eq_getElem hi)).1
  have hf := flat_size vs h2
  have hz : s.size = s.data.toList.length := by rw [Array.length_toList]; rfl
  have hz2 : (wd cos[i]).size = cos[i].word.length := by show (cos[i].word.toArray).size = _; simp
  rw [hz, h4, List.length_append]
  omega
theorem len0 (a : List Int) (ha : a.length = 20) : zAct.length = (a.map I64).length := by rw [List.length_map, ha]; rfl
end Go.Proofs.Con
