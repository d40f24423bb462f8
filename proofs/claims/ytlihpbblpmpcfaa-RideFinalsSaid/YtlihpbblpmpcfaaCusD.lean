import Derived.Test.YtlihpbblpmpcfaaCusS
import Derived.Test.YtlihpbblpmpcfaaCusR
import Derived.Test.YtlihpbblpmpcfaaCusB
import Derived.Test.YtlihpbblpmpcfaaEng1
import Derived.OpenShut
set_option linter.unusedVariables false
set_option linter.unusedSimpArgs false
/-
  Plain facts: what holds from moment to moment, told as a list of spans (no program in sight).
-/
namespace Go.Proofs.Cus

abbrev Tri (β : Type) := Int × Int × β
section
variable {β : Type} {v : Int → β}
/-- spans one behind the other, neighbours differ -/
def Chain (v : Int → β) : Int → List (Tri β) → Int → Prop
  | lo, [], hi => lo = hi
  | lo, x :: l, hi => x.1 = lo ∧ x.1 < x.2.1 ∧ (∀ t, x.1 ≤ t → t < x.2.1 → v t = x.2.2) ∧ (∀ y, l.head? = some y → y.2.2 ≠ x.2.2) ∧ Chain v x.2.1 l hi
theorem Chain.le : ∀ {l : List (Tri β)} {lo hi : Int}, Chain v lo l hi → lo ≤ hi
  | [], _, _, h => by rw [show _ = _ from h]; exact Int.le_refl _
  | x :: l, _, _, ⟨h1, h2, _, _, h5⟩ => by have := Chain.le h5; omega
theorem Chain.unique : ∀ {l l' : List (Tri β)} {lo hi : Int}, Chain v lo l hi → Chain v lo l' hi → l = l'
  | [], [], _, _, _, _ => rfl
  | [], y :: l', lo, hi, h, ⟨h1, h2, _, _, h5⟩ => by
    have : lo = hi := h
    have := h5.le
    omega
  | x :: l, [], lo, hi, ⟨h1, h2, _, _, h5⟩, h => by
    have : lo = hi := h
    have := h5.le
    omega
  | x :: l, y :: l', lo, hi, ⟨a1, a2, a3, a4, a5⟩, ⟨b1, b2, b3, b4, b5⟩ => by
    have hv : x.2.2 = y.2.2 := by rw [← a3 lo (by omega) (by omega), ← b3 lo (by omega) (by omega)]
    have key : ∀ {x y : Tri β} {l l' : List (Tri β)}, x.1 = lo → y.1 = lo → x.1 < x.2.1 → (∀ t, y.1 ≤ t → t < y.2.1 → v t = y.2.2) → (∀ y, l.head? = some y → y.2.2 ≠ x.2.2) → Chain v x.2.1 l hi → Chain v y.2.1 l' hi → x.2.2 = y.2.2 → ¬ x.2.1 < y.2.1 := by
      intro x y l l' a1 b1 a2 b3 a4 a5 b5 hv hlt
      have hle := b5.le
      cases l with
      | nil => have : x.2.1 = hi := a5; omega
      | cons z l =>
        obtain ⟨c1, c2, c3, _, _⟩ := a5
        have h1 := a4 z rfl
        rw [← c3 x.2.1 (by omega) (by omega), b3 x.2.1 (by omega) hlt] at h1
        exact h1 hv.symm
    have ht : x.2.1 = y.2.1 := by
      have h1 := key a1 b1 a2 b3 a4 a5 b5 hv
      have h2 := key b1 a1 b2 a3 b4 b5 a5 hv.symm
      omega
    have hxy : x = y := by
      obtain ⟨x1, x2, x3⟩ := x
      obtain ⟨y1, y2, y3⟩ := y
      simp only at a1 b1 hv ht
      rw [a1, b1, hv, ht]
    rw [ht] at a5
    rw [hxy, Chain.unique a5 b5]
theorem Chain.snoc : ∀ {l : List (Tri β)} {lo mid to : Int} {p : β}, Chain v lo l mid → mid < to → (∀ t, mid ≤ t → t < to → v t = p) → (∀ y, l.getLast? = some y → y.2.2 ≠ p) → Chain v lo (l ++ [(mid, to, p)]) to
  | [], lo, mid, to, p, h, h1, h2, _ => by
    have h : lo = mid := h
    subst h
    exact ⟨rfl, h1, h2, fun y hy => by simp at hy, rfl⟩
  | x :: l, lo, mid, to, p, ⟨a1, a2, a3, a4, a5⟩, h1, h2, h3 => by
    refine ⟨a1, a2, a3, fun y hy => ?_, Chain.snoc a5 h1 h2 fun y hy => ?_⟩
    · cases l with
      | nil =>
        simp at hy
        subst hy
        exact fun e => h3 x rfl e.symm
      | cons z l => exact a4 y (by simpa using hy)
    · cases l with
      | nil => simp at hy
      | cons z l => exact h3 y (by rw [List.getLast?_cons_cons]; exact hy)
theorem Chain.unsnoc : ∀ {l : List (Tri β)} {lo hi : Int} {x : Tri β}, Chain v lo (l ++ [x]) hi → Chain v lo l x.1 ∧ x.1 < x.2.1 ∧ (∀ t, x.1 ≤ t → t < x.2.1 → v t = x.2.2) ∧ (∀ y, l.getLast? = some y → y.2.2 ≠ x.2.2) ∧ x.2.1 = hi
  | [], lo, hi, x, ⟨a1, a2, a3, _, a5⟩ => ⟨a1.symm, a2, a3, fun y hy => by simp at hy, a5⟩
  | z :: l, lo, hi, x, ⟨a1, a2, a3, a4, a5⟩ => by
    obtain ⟨b1, b2, b3, b4, b5⟩ := Chain.unsnoc a5
    refine ⟨⟨a1, a2, a3, fun y hy => ?_, b1⟩, b2, b3, fun y hy => ?_, b5⟩
    · cases l with
      | nil => simp at hy
      | cons u l => exact a4 y (by simpa using hy)
    · cases l with
      | nil =>
        simp at hy
        subst hy
        exact fun e => a4 x rfl e.symm
      | cons u l => exact b4 y (by rw [List.getLast?_cons_cons] at hy; exact hy)

/-! what a list of changes tells -/
def vOf (p0 : β) (T : List (Int × β)) (t : Int) : β := ((T.filter fun q => decide (q.1 ≤ t)).getLast?.map (·.2)).getD p0
def endP (p0 : β) (A : List (Int × β)) : β := (A.getLast?.map (·.2)).getD p0
def nt (M : Int) (B : List (Int × β)) : Int := (B.head?.map (·.1)).getD (M + 1)
def Mono (T : List (Int × β)) : Prop := T.Pairwise fun a b => a.1 ≤ b.1
/-- between what was and what comes -/
theorem vOf_mid {p0 : β} {A B : List (Int × β)} {t : Int} (hA : ∀ q ∈ A, q.1 ≤ t) (hB : ∀ q ∈ B, t < q.1) : vOf p0 (A ++ B) t = endP p0 A := by
  unfold vOf endP
  rw [List.filter_append, List.filter_eq_self.2 (fun q hq => by simpa using hA q hq), List.filter_eq_nil_iff.2 (fun q hq => by have := hB q hq; simp; omega), List.append_nil]
theorem Mono.lt {M t : Int} {B : List (Int × β)} (h : Mono B) (ht : t < nt M B) (hM : t ≤ M) : ∀ q ∈ B, t < q.1 := by
  cases B with
  | nil => intro q hq; simp at hq
  | cons b B =>
    intro q hq
    have hb : nt M (b :: B) = b.1 := rfl
    rw [hb] at ht
    rcases List.mem_cons.1 hq with rfl | hq
    · exact ht
    · have := (List.pairwise_cons.1 h).1 q hq
      omega
theorem Mono.parts {A B : List (Int × β)} (h : Mono (A ++ B)) : Mono A ∧ Mono B ∧ ∀ a ∈ A, ∀ b ∈ B, a.1 ≤ b.1 := by
  have := List.pairwise_append.1 h
  exact this
end

section
variable {β : Type} [DecidableEq β]
/-! the program's way -/
def pend (t : Int) (z : (Int × β) × List (Tri β)) : List (Tri β) :=
  if z.1.1 = t then z.2
  else
    match z.2.getLast? with
    | some y => if y.2.2 = z.1.2 then z.2.dropLast ++ [(y.1, t, y.2.2)] else z.2 ++ [(z.1.1, t, z.1.2)]
    | none => z.2 ++ [(z.1.1, t, z.1.2)]
def pstep (z : (Int × β) × List (Tri β)) (q : Int × β) : (Int × β) × List (Tri β) := if q.2 ≠ z.1.2 then (q, pend q.1 z) else z
structure PI (v : Int → β) (M : Int) (B : List (Int × β)) (z : (Int × β) × List (Tri β)) : Prop where
  chain : Chain v 0 z.2 z.1.1
  le : z.1.1 ≤ nt M B
  val : ∀ t, z.1.1 ≤ t → t < nt M B → v t = z.1.2
theorem PI.pend {v : Int → β} {M : Int} {B : List (Int × β)} {z : (Int × β) × List (Tri β)} (h : PI v M B z) : Chain v 0 (pend (nt M B) z) (nt M B) := by
  unfold Cus.pend
  by_cases h0 : z.1.1 = nt M B
  · rw [if_pos h0, ← h0]; exact h.chain
  · rw [if_neg h0]
    have hle := h.le
    cases hl : z.2.getLast? with
    | none => exact h.chain.snoc (by omega) h.val (fun y hy => by rw [hl] at hy; cases hy)
    | some y =>
      simp only
      by_cases hy : y.2.2 = z.1.2
      · rw [if_pos hy]
        have hne : z.2 ≠ [] := fun e => by rw [e] at hl; cases hl
        have hz : z.2 = z.2.dropLast ++ [y] := by
          have := List.dropLast_concat_getLast hne
          rw [List.getLast?_eq_some_getLast hne] at hl
          rw [← this, Option.some.inj hl]
          simp
        have hc := h.chain
        rw [hz] at hc
        obtain ⟨c1, c2, c3, c4, c5⟩ := hc.unsnoc
        refine c1.snoc (by omega) (fun t h1 h2 => ?_) c4
        rcases Int.lt_or_le t y.2.1 with h3 | h3
        · exact c3 t h1 h3
        · rw [hy]; exact h.val t (by omega) h2
      · rw [if_neg hy]
        exact h.chain.snoc (by omega) h.val (fun u hu => by rw [hl] at hu; cases hu; exact hy)
theorem prog_chain {p0 : β} {M : Int} (T : List (Int × β)) (hT : Mono T) (hb : ∀ q ∈ T, 0 ≤ q.1 ∧ q.1 ≤ M) (hM : 0 ≤ M) : Chain (vOf p0 T) 0 (pend (M + 1) (T.foldl pstep ((0, p0), []))) (M + 1) := by
  have key : ∀ (B A : List (Int × β)) (z : (Int × β) × List (Tri β)), T = A ++ B → PI (vOf p0 T) M B z → z.1.2 = endP p0 A → Chain (vOf p0 T) 0 (pend (M + 1) (B.foldl pstep z)) (M + 1) := by
    intro B
    induction B with
    | nil =>
      intro A z _ hz _
      exact hz.pend
    | cons q B ih =>
      intro A z hAB hz hze
      have hT2 : T = (A ++ [q]) ++ B := by rw [hAB]; simp
      have hm := hT
      rw [hT2] at hm
      obtain ⟨m1, m2, m3⟩ := hm.parts
      have hqb := hb q (by rw [hAB]; simp)
      have hnt : nt M (q :: B) = q.1 := rfl
      have hq : q.1 ≤ nt M B := by
        cases B with
        | nil => show q.1 ≤ M + 1; omega
        | cons b B => exact m3 q (by simp) b (by simp)
      have hMb : nt M B ≤ M + 1 := by
        cases B with
        | nil => exact Int.le_refl _
        | cons b B => have := hb b (by rw [hAB]; simp); show b.1 ≤ M + 1; omega
      have hend : endP p0 (A ++ [q]) = q.2 := by unfold endP; simp
      have hval : ∀ t, q.1 ≤ t → t < nt M B → vOf p0 T t = q.2 := fun t h1 h2 => by
        rw [hT2, vOf_mid (fun a ha => ?_) (m2.lt h2 (by omega)), hend]
        rcases List.mem_append.1 ha with ha | ha
        · have := (List.pairwise_append.1 m1).2.2 a ha q (by simp); omega
        · rw [List.mem_singleton.1 ha]; exact h1
      rw [List.foldl_cons]
      refine ih (A ++ [q]) _ hT2 ?_ ?_
      · unfold pstep
        by_cases hne : q.2 ≠ z.1.2
        · rw [if_pos hne]
          have hc := hz.pend
          rw [hnt] at hc
          exact ⟨hc, hq, hval⟩
        · rw [if_neg hne]
          have he : q.2 = z.1.2 := Decidable.of_not_not hne
          have h1 := hz.le
          rw [hnt] at h1
          refine ⟨hz.chain, by omega, fun t h2 h3 => ?_⟩
          rcases Int.lt_or_le t q.1 with h4 | h4
          · exact hz.val t h2 (by rw [hnt]; exact h4)
          · rw [hval t h4 h3, he]
      · unfold pstep
        rw [hend]
        by_cases hne : q.2 ≠ z.1.2
        · rw [if_pos hne]
        · rw [if_neg hne]; exact (Decidable.of_not_not hne).symm
  have hnt0 : 0 ≤ nt M T := by
    cases T with
    | nil => show 0 ≤ M + 1; omega
    | cons b B => exact (hb b (by simp)).1
  have hMT : nt M T ≤ M + 1 := by
    cases T with
    | nil => exact Int.le_refl _
    | cons b B => have := hb b (by simp); show b.1 ≤ M + 1; omega
  exact key T [] _ rfl ⟨rfl, hnt0, fun t h1 h2 => by
    have := vOf_mid (p0 := p0) (A := []) (B := T) (t := t) (fun q hq => by simp at hq) (hT.lt h2 (by omega))
    exact this⟩ rfl

/-! the reference's way -/
def rgo (l : List (Tri β)) (last : Int × β) : List (Int × β) → List (Tri β) × (Int × β)
  | [] => (l, last)
  | q :: B => if (B.head?.map (·.1)) = some q.1 then rgo l last B else if last.2 = q.2 then rgo l last B else if last.1 = q.1 then rgo l q B else rgo (l ++ [(last.1, q.1, last.2)]) q B
def rout (M : Int) (r : List (Tri β) × (Int × β)) : List (Tri β) := r.1 ++ [(r.2.1, M + 1, r.2.2)]
structure RI (v : Int → β) (M : Int) (B : List (Int × β)) (l : List (Tri β)) (last : Int × β) : Prop where
  chain : Chain v 0 l last.1
  ne : ∀ y, l.getLast? = some y → y.2.2 ≠ last.2
  val : ∀ t, last.1 ≤ t → t < nt M B → v t = last.2
  lt : (l = [] ∧ last.1 = 0) ∨ last.1 < nt M B
  le : last.1 ≤ nt M B ∧ last.1 ≤ M
theorem ref_chain {p0 : β} {M : Int} (T : List (Int × β)) (hT : Mono T) (hb : ∀ q ∈ T, 0 ≤ q.1 ∧ q.1 ≤ M) (hM : 0 ≤ M) : Chain (vOf p0 T) 0 (rout M (rgo [] (0, p0) T)) (M + 1) := by
  have key : ∀ (B A : List (Int × β)) (l : List (Tri β)) (last : Int × β), T = A ++ B → RI (vOf p0 T) M B l last → Chain (vOf p0 T) 0 (rout M (rgo l last B)) (M + 1) := by
    intro B
    induction B with
    | nil =>
      intro A l last _ hz
      exact hz.chain.snoc (by have := hz.le; omega) hz.val hz.ne
    | cons q B ih =>
      intro A l last hAB hz
      have hT2 : T = (A ++ [q]) ++ B := by rw [hAB]; simp
      have hm := hT
      rw [hT2] at hm
      obtain ⟨m1, m2, m3⟩ := hm.parts
      have hqb := hb q (by rw [hAB]; simp)
      have hnt : nt M (q :: B) = q.1 := rfl
      have hq : q.1 ≤ nt M B := by
        cases B with
        | nil => show q.1 ≤ M + 1; omega
        | cons b B => exact m3 q (by simp) b (by simp)
      have hMb : nt M B ≤ M + 1 := by
        cases B with
        | nil => exact Int.le_refl _
        | cons b B => have := hb b (by rw [hAB]; simp); show b.1 ≤ M + 1; omega
      have hend : endP p0 (A ++ [q]) = q.2 := by unfold endP; simp
      have hval : ∀ t, q.1 ≤ t → t < nt M B → vOf p0 T t = q.2 := fun t h1 h2 => by
        rw [hT2, vOf_mid (fun a ha => ?_) (m2.lt h2 (by omega)), hend]
        rcases List.mem_append.1 ha with ha | ha
        · have := (List.pairwise_append.1 m1).2.2 a ha q (by simp); omega
        · rw [List.mem_singleton.1 ha]; exact h1
      have hle := hz.le
      rw [hnt] at hle
      unfold rgo
      by_cases h1 : (B.head?.map (·.1)) = some q.1
      · rw [if_pos h1]
        have hn2 : nt M B = q.1 := by unfold nt; rw [h1]; rfl
        refine ih (A ++ [q]) l last hT2 ⟨hz.chain, hz.ne, fun t a b => hz.val t a (by rw [hnt]; omega), ?_, by omega⟩
        rcases hz.lt with h | h
        · exact .inl h
        · right; rw [hnt] at h; omega
      · rw [if_neg h1]
        have hlt : q.1 < nt M B := by
          rcases Int.lt_or_eq_of_le hq with h | h
          · exact h
          · cases B with
            | nil => have : q.1 = M + 1 := h; omega
            | cons b B => exact absurd (by rw [show (List.head? (b :: B)) = some b from rfl]; exact congrArg some (show b.1 = q.1 from h.symm)) h1
        by_cases h2 : last.2 = q.2
        · rw [if_pos h2]
          refine ih (A ++ [q]) l last hT2 ⟨hz.chain, hz.ne, fun t a b => ?_, .inr (by omega), by omega⟩
          rcases Int.lt_or_le t q.1 with h4 | h4
          · exact hz.val t a (by rw [hnt]; exact h4)
          · rw [hval t h4 b, h2]
        · rw [if_neg h2]
          by_cases h3 : last.1 = q.1
          · rw [if_pos h3]
            have hl : l = [] ∧ last.1 = 0 := by
              rcases hz.lt with h | h
              · exact h
              · rw [hnt] at h; omega
            refine ih (A ++ [q]) l q hT2 ⟨?_, fun y hy => ?_, hval, .inr hlt, by omega⟩
            · have := hz.chain; rw [h3] at this; exact this
            · rw [hl.1] at hy; cases hy
          · rw [if_neg h3]
            refine ih (A ++ [q]) _ q hT2 ⟨hz.chain.snoc (by omega) (fun t a b => hz.val t a (by rw [hnt]; exact b)) hz.ne, fun y hy => ?_, hval, .inr hlt, by omega⟩
            simp at hy
            subst hy
            exact h2
  have hnt0 : 0 ≤ nt M T := by
    cases T with
    | nil => show 0 ≤ M + 1; omega
    | cons b B => exact (hb b (by simp)).1
  have hMT : nt M T ≤ M + 1 := by
    cases T with
    | nil => exact Int.le_refl _
    | cons b B => have := hb b (by simp); show b.1 ≤ M + 1; omega
  exact key T [] [] (0, p0) rfl ⟨rfl, fun y hy => (by cases hy), fun t h1 h2 => (vOf_mid (p0 := p0) (A := []) (B := T) (t := t) (fun q hq => by simp at hq) (hT.lt h2 (by omega))), .inl ⟨rfl, rfl⟩, ⟨hnt0, hM⟩⟩

end
section
variable {β : Type}
/-! levels: the starts alone -/
def spans (hi : Int) : List (Int × β) → List (Tri β)
  | [] => []
  | (a, p) :: l => (a, (l.head?.map (·.1)).getD hi, p) :: spans hi l
theorem spans_back (hi : Int) : ∀ l : List (Int × β), (spans hi l).map (fun x => (x.1, x.2.2)) = l
  | [] => rfl
  | (a, p) :: l => by simp [spans, spans_back hi l]
/-- starts one behind the other, neighbours may be equal -/
def Lev (v : Int → β) (hi : Int) : List (Int × β) → Prop
  | [] => True
  | (a, p) :: l => a < (l.head?.map (·.1)).getD hi ∧ (∀ t, a ≤ t → t < (l.head?.map (·.1)).getD hi → v t = p) ∧ Lev v hi l
theorem compact_chain {v : Int → β} {hi : Int} (eq : Int × β → Int × β → Bool) (heq : ∀ a b, eq a b = true ↔ a.2 = b.2) : ∀ (l : List (Int × β)) (a : Int) (p : β) (q : Int × β), q.2 = p → a < (l.head?.map (·.1)).getD hi → (∀ t, a ≤ t → t < (l.head?.map (·.1)).getD hi → v t = p) → Lev v hi l →
    Chain v a (spans hi ((a, p) :: compactGo eq q l)) hi
  | [], a, p, q, _, h1, h2, _ => ⟨rfl, h1, h2, fun y hy => by simp [compactGo, spans] at hy, rfl⟩
  | (b, r) :: l, a, p, q, hq, h1, h2, ⟨h3, h4, h5⟩ => by
    have hb : (List.head? ((b, r) :: l)).map (·.1) = some b := rfl
    rw [hb] at h1 h2
    simp only [Option.getD_some] at h1 h2
    unfold compactGo
    by_cases he : eq (b, r) q = true
    · rw [if_pos he]
      have hr : r = p := by have := (heq _ _).1 he; rw [← hq, ← this]
      refine compact_chain eq heq l a p (b, r) hr (by omega) (fun t a1 a2 => ?_) h5
      rcases Int.lt_or_le t b with h6 | h6
      · exact h2 t a1 h6
      · rw [h4 t h6 a2, hr]
    · rw [if_neg he]
      have ih := compact_chain eq heq l b r (b, r) rfl h3 h4 h5
      refine ⟨rfl, h1, h2, fun y hy => ?_, ih⟩
      simp [spans] at hy
      subst hy
      exact fun e => he ((heq _ _).2 (by rw [hq]; exact e))
end

end Go.Proofs.Cus

/-
  Plain facts: the trace of what is accepted; stays and loads as spans.
-/
namespace Go.Proofs.Cus

def trCb {β : Type} (g : PS → β) (z : List (Int × β)) (s : PS) (e : Ev) (er : Int) : List (Int × β) := if er = 0 then z ++ [(e.at_, g s)] else z
section
variable {β σ : Type} {f : Fl} {g : PS → β}
theorem runR_fold (st : σ → Int × β → σ) {cb : σ → PS → Ev → Int → σ} (hcb : ∀ z s e er, cb z s e er = if er = 0 then st z (e.at_, g s) else z) (z0 : σ) : ∀ (l : List Ev) (s : PS) (zt : List (Int × β)),
    runR f cb l (s, zt.foldl st z0) = ((runR f (trCb g) l (s, zt)).1, (runR f (trCb g) l (s, zt)).2.foldl st z0)
  | [], _, _ => rfl
  | e :: l, s, zt => by
    show runR f cb l (tellR cb (zt.foldl st z0) e (stepR f s e)) = ((runR f (trCb g) l (tellR (trCb g) zt e (stepR f s e))).1, (runR f (trCb g) l (tellR (trCb g) zt e (stepR f s e))).2.foldl st z0)
    cases hq : (stepR f s e).2 with
    | none =>
      have h1 : tellR cb (zt.foldl st z0) e (stepR f s e) = ((stepR f s e).1, zt.foldl st z0) := by unfold tellR; rw [hq]
      have h2 : tellR (trCb g) zt e (stepR f s e) = ((stepR f s e).1, zt) := by unfold tellR; rw [hq]
      rw [h1, h2]
      exact runR_fold st hcb z0 l _ zt
    | some er =>
      have h1 : tellR cb (zt.foldl st z0) e (stepR f s e) = ((stepR f s e).1, (trCb g zt (stepR f s e).1 e er).foldl st z0) := by
        unfold tellR; rw [hq]; simp only; rw [hcb]; unfold trCb
        by_cases h0 : er = 0
        · rw [if_pos h0, if_pos h0, List.foldl_append]; rfl
        · rw [if_neg h0, if_neg h0]
      have h2 : tellR (trCb g) zt e (stepR f s e) = ((stepR f s e).1, trCb g zt (stepR f s e).1 e er) := by unfold tellR; rw [hq]
      rw [h1, h2]
      exact runR_fold st hcb z0 l _ _
theorem step_some {s : PS} {e : Ev} {er : Int} (h : (stepR f s e).2 = some er) : (er = 0 ∧ evErr f e = 0) ∨ (er ≠ 0 ∧ (stepR f s e).1 = s) := by
  unfold stepR at h ⊢
  split at h
  · cases h
  · rename_i hb
    rw [if_neg hb]
    simp only at h ⊢
    by_cases h0 : evErr f e = 0
    · rw [if_pos h0] at h ⊢
      cases h
      by_cases h1 : checkP f.trucks s e = 0
      · exact .inl ⟨h1, h0⟩
      · exact .inr ⟨h1, by rw [if_neg h1]⟩
    · rw [if_neg h0] at h ⊢
      cases h
      exact .inr ⟨h0, by rw [if_neg h0]⟩
theorem step_none {s : PS} {e : Ev} (h : (stepR f s e).2 = none) : (stepR f s e).1 = s := by
  unfold stepR at h ⊢
  split at h
  · rename_i hb; rw [if_pos hb]
  · cases h
theorem trace_more : ∀ (l : List Ev) (s : PS) (zt : List (Int × β)), l.Pairwise (fun a b => evLess a b = true) → ∃ t, (runR f (trCb g) l (s, zt)).2 = zt ++ t ∧ Mono t ∧ ∀ q ∈ t, ∃ e ∈ l, q.1 = e.at_ ∧ 0 ≤ e.at_ ∧ e.at_ ≤ 4294943999
  | [], _, zt, _ => ⟨[], by simp [runR], List.Pairwise.nil, fun q hq => by simp at hq⟩
  | e :: l, s, zt, hs => by
    rw [List.pairwise_cons] at hs
    show ∃ t, (runR f (trCb g) l (tellR (trCb g) zt e (stepR f s e))).2 = zt ++ t ∧ _
    cases hq : (stepR f s e).2 with
    | none =>
      have h2 : tellR (trCb g) zt e (stepR f s e) = ((stepR f s e).1, zt) := by unfold tellR; rw [hq]
      rw [h2]
      obtain ⟨t, h3, h4, h5⟩ := trace_more l (stepR f s e).1 zt hs.2
      exact ⟨t, h3, h4, fun q hq => by obtain ⟨e', he', h⟩ := h5 q hq; exact ⟨e', List.mem_cons_of_mem _ he', h⟩⟩
    | some er =>
      have h2 : tellR (trCb g) zt e (stepR f s e) = ((stepR f s e).1, trCb g zt (stepR f s e).1 e er) := by unfold tellR; rw [hq]
      rw [h2]
      obtain ⟨t, h3, h4, h5⟩ := trace_more l (stepR f s e).1 (trCb g zt (stepR f s e).1 e er) hs.2
      have h5' : ∀ q ∈ t, ∃ e' ∈ e :: l, q.1 = e'.at_ ∧ 0 ≤ e'.at_ ∧ e'.at_ ≤ 4294943999 := fun q hq => by obtain ⟨e', he', h⟩ := h5 q hq; exact ⟨e', List.mem_cons_of_mem _ he', h⟩
      rcases step_some hq with ⟨h0, hev⟩ | ⟨h0, _⟩
      · unfold trCb at h3
        rw [if_pos h0, List.append_assoc] at h3
        obtain ⟨_, _, _, _, ha, hb⟩ := evErr_ok hev
        refine ⟨(e.at_, g (stepR f s e).1) :: t, by unfold trCb; rw [if_pos h0]; exact h3, List.pairwise_cons.2 ⟨fun q hq => ?_, h4⟩, fun q hq => ?_⟩
        · obtain ⟨e', he', h6, _⟩ := h5 q hq
          have := at_of_less (hs.1 e' he')
          simp only; omega
        · rcases List.mem_cons.1 hq with rfl | hq
          · exact ⟨e, List.mem_cons_self .., rfl, ha, hb⟩
          · exact h5' q hq
      · unfold trCb at h3 ⊢
        rw [if_neg h0] at h3 ⊢
        exact ⟨t, h3, h4, h5'⟩
theorem trace_end {p0 : β} : ∀ (l : List Ev) (s : PS) (zt : List (Int × β)), endP p0 zt = g s → endP p0 (runR f (trCb g) l (s, zt)).2 = g (runR f (trCb g) l (s, zt)).1
  | [], _, _, h => h
  | e :: l, s, zt, h => by
    show endP p0 (runR f (trCb g) l (tellR (trCb g) zt e (stepR f s e))).2 = g (runR f (trCb g) l (tellR (trCb g) zt e (stepR f s e))).1
    cases hq : (stepR f s e).2 with
    | none =>
      have h2 : tellR (trCb g) zt e (stepR f s e) = ((stepR f s e).1, zt) := by unfold tellR; rw [hq]
      rw [h2]
      exact trace_end l _ _ (by rw [step_none hq]; exact h)
    | some er =>
      have h2 : tellR (trCb g) zt e (stepR f s e) = ((stepR f s e).1, trCb g zt (stepR f s e).1 e er) := by unfold tellR; rw [hq]
      rw [h2]
      refine trace_end l _ _ ?_
      unfold trCb
      rcases step_some hq with ⟨h0, _⟩ | ⟨h0, h1⟩
      · rw [if_pos h0]; unfold endP; simp
      · rw [if_neg h0, h1]; exact h
theorem runR_append {cb : σ → PS → Ev → Int → σ} (l m : List Ev) (x : PS × σ) : runR f cb (l ++ m) x = runR f cb m (runR f cb l x) := by unfold runR; rw [List.foldl_append]
/-- what held at a moment is what the state of that moment says -/
theorem v_state (n : Nat) (ys : List Ev) (hs : ys.Pairwise (fun a b => evLess a b = true)) (t : Int) :
    vOf (g (beginP n)) (runR f (trCb g) ys (beginP n, [])).2 t = g (runR f (trCb g) (ys.filter fun x => !decide (t < x.at_)) (beginP n, [])).1 := by
  obtain ⟨k, _, hf, hd⟩ := early_take (l := ys) (fun x => !decide (t < x.at_)) hs (fun a b hab hb => by simp at hb ⊢; omega)
  rw [hf]
  have hys : ys = ys.take k ++ ys.drop k := (List.take_append_drop k ys).symm
  have hp := List.pairwise_append.1 (hys ▸ hs)
  conv => lhs; rw [hys, runR_append]
  obtain ⟨tA, h1, _, h2⟩ := trace_more (f := f) (g := g) (ys.take k) (beginP n) [] hp.1
  obtain ⟨tB, h3, _, h4⟩ := trace_more (f := f) (g := g) (ys.drop k) (runR f (trCb g) (ys.take k) (beginP n, [])).1 (runR f (trCb g) (ys.take k) (beginP n, [])).2 hp.2.1
  rw [List.nil_append] at h1
  rw [show (runR f (trCb g) (ys.take k) (beginP n, [])) = ((runR f (trCb g) (ys.take k) (beginP n, [])).1, (runR f (trCb g) (ys.take k) (beginP n, [])).2) from rfl, h3, vOf_mid]
  · exact trace_end (g := g) (p0 := g (beginP n)) (ys.take k) (beginP n) [] rfl
  · intro q hq
    rw [h1] at hq
    obtain ⟨e, he, h5, _⟩ := h2 q hq
    rw [← hf] at he
    have := (List.mem_filter.1 he).2
    simp at this; omega
  · intro q hq
    obtain ⟨e, he, h5, _⟩ := h4 q hq
    have := hd e he
    simp at this; omega
end

/-! stays -/
abbrev Pos := Int × Int × Int
def posS (x : Sp) : Pos := (x.where_, x.place, x.ride)
def posY (x : Sty) : Pos := (x.where_, x.place, x.ride)
def posAt (bike : Nat) (s : PS) : Pos := posS (s.spots.getD bike default)
def tri (x : Sty) : Tri Pos := (x.from_, x.to_, posY x)
def toT (z : Sty × List Sty) : (Int × Pos) × List (Tri Pos) := ((z.1.from_, posY z.1), z.2.map tri)
def stS (bike : Nat) (z : Sty × List Sty) (q : Int × Pos) : Sty × List Sty := if q.2 ≠ posY z.1 then (⟨bike, q.2.1, q.2.2.1, q.2.2.2, q.1, 0⟩, (endS q.1 z).2) else z
theorem stayCb_eq (bike : Nat) (z : Sty × List Sty) (s : PS) (e : Ev) (er : Int) : stayCb bike z s e er = if er = 0 then stS bike z (e.at_, posAt bike s) else z := by
  unfold stayCb stS posAt
  simp only
  by_cases h0 : er = 0
  · rw [if_pos h0]
    have hm : movedS (s.spots.getD bike default) z.1 = true ↔ posS (s.spots.getD bike default) ≠ posY z.1 := by
      unfold movedS posS posY
      simp only [ne_eq, Prod.mk.injEq, Bool.or_eq_true, Bool.not_eq_true', decide_eq_false_iff_not]
      constructor
      · rintro ((h | h) | h) ⟨a, b, c⟩ <;> simp_all
      · intro h
        by_cases a : (s.spots.getD bike default).where_ = z.1.where_
        · by_cases b : (s.spots.getD bike default).place = z.1.place
          · by_cases c : (s.spots.getD bike default).ride = z.1.ride
            · exact absurd ⟨a, b, c⟩ h
            · exact .inr c
          · exact .inl (.inr b)
        · exact .inl (.inl a)
    by_cases h1 : movedS (s.spots.getD bike default) z.1 = true
    · rw [if_pos ⟨h0, h1⟩, if_pos (hm.1 h1)]; rfl
    · rw [if_neg (fun h => h1 h.2), if_neg (fun h => h1 (hm.2 h))]
  · rw [if_neg h0, if_neg (fun h => h0 h.1)]
theorem samePl_iff (x y : Sty) : samePl x y = true ↔ posY x = posY y := by
  unfold samePl posY
  simp [and_assoc]
theorem getLast_map {α γ : Type} (h : α → γ) (l : List α) : (l.map h).getLast? = l.getLast?.map h := by
  simp
theorem endS_tri (t : Int) (z : Sty × List Sty) : (endS t z).2.map tri = pend t (toT z) := by
  unfold endS pend toT
  simp only
  by_cases h0 : z.1.from_ = t
  · rw [if_pos h0, if_pos h0]
  · rw [if_neg h0, if_neg h0, getLast_map]
    cases hl : z.2.getLast? with
    | none => simp [tri, posY]
    | some y =>
      simp only [Option.map_some]
      by_cases hy : samePl y z.1 = true
      · rw [if_pos hy, if_pos (show (tri y).2.2 = posY z.1 from (samePl_iff _ _).1 hy)]
        simp [tri, posY]
      · rw [if_neg hy, if_neg (show ¬ (tri y).2.2 = posY z.1 from fun h => hy ((samePl_iff _ _).2 h))]
        simp [tri, posY]
theorem stS_tri (bike : Nat) (z : Sty × List Sty) (q : Int × Pos) : toT (stS bike z q) = pstep (toT z) q := by
  unfold stS pstep
  by_cases h : q.2 ≠ posY z.1
  · rw [if_pos h, if_pos (show q.2 ≠ (toT z).1.2 from h)]
    unfold toT
    simp only
    rw [endS_tri]
    rfl
  · rw [if_neg h, if_neg (show ¬ q.2 ≠ (toT z).1.2 from h)]
theorem stS_fold (bike : Nat) : ∀ (T : List (Int × Pos)) (z : Sty × List Sty), toT (T.foldl (stS bike) z) = T.foldl pstep (toT z)
  | [], _ => rfl
  | q :: T, z => by rw [List.foldl_cons, List.foldl_cons, stS_fold bike T, stS_tri]
def bikesIn (bike : Int) (z : Sty × List Sty) : Prop := z.1.bike = bike ∧ ∀ x ∈ z.2, x.bike = bike
theorem endS_bikes {bike t : Int} {z : Sty × List Sty} (h : bikesIn bike z) : ∀ x ∈ (endS t z).2, x.bike = bike := by
  unfold endS
  simp only
  intro x hx
  split at hx
  · exact h.2 x hx
  · split at hx
    · rename_i y hy
      have hyb := h.2 y (List.mem_of_getLast? hy)
      split at hx
      · rcases List.mem_append.1 hx with hx | hx
        · exact h.2 x ((List.dropLast_sublist _).subset hx)
        · rw [List.mem_singleton.1 hx]; exact hyb
      · rcases List.mem_append.1 hx with hx | hx
        · exact h.2 x hx
        · rw [List.mem_singleton.1 hx]; exact h.1
    · rcases List.mem_append.1 hx with hx | hx
      · exact h.2 x hx
      · rw [List.mem_singleton.1 hx]; exact h.1
theorem stS_bikes (bike : Nat) : ∀ (T : List (Int × Pos)) (z : Sty × List Sty), bikesIn bike z → bikesIn bike (T.foldl (stS bike) z)
  | [], _, h => h
  | q :: T, z, h => by
    rw [List.foldl_cons]
    refine stS_bikes bike T _ ?_
    unfold stS
    split
    · exact ⟨rfl, endS_bikes h⟩
    · exact h
theorem tri_inj {bike : Int} : ∀ {l m : List Sty}, (∀ x ∈ l, x.bike = bike) → (∀ x ∈ m, x.bike = bike) → l.map tri = m.map tri → l = m
  | [], [], _, _, _ => rfl
  | [], _ :: _, _, _, h => by simp at h
  | _ :: _, [], _, _, h => by simp at h
  | x :: l, y :: m, hl, hm, h => by
    simp only [List.map_cons, List.cons.injEq] at h
    have h1 := hl x (by simp)
    have h2 := hm y (by simp)
    have : x = y := by
      obtain ⟨x1, x2, x3, x4, x5, x6⟩ := x
      obtain ⟨y1, y2, y3, y4, y5, y6⟩ := y
      have h3 := h.1
      simp only [tri, posY, Prod.mk.injEq] at h3 h1 h2
      simp only [Sty.mk.injEq]
      exact ⟨by omega, h3.2.2.1, h3.2.2.2.1, h3.2.2.2.2, h3.1, h3.2.1⟩
    rw [this, tri_inj (fun z hz => hl z (List.mem_cons_of_mem _ hz)) (fun z hz => hm z (List.mem_cons_of_mem _ hz)) h.2]

/-! loads -/
def prL (x : Lv) : Int × Int := (x.at_, x.count)
def stL_ (z : List Lv) (q : Int × Int) : List Lv :=
  match z.getLast? with
  | some y => if y.at_ = q.1 then z.dropLast ++ [{ y with count := q.2 }] else z ++ [⟨q.1, q.2⟩]
  | none => z
def cntAt (truck : Nat) (s : PS) : Int := (countP s.spots 4 truck : Int)
theorem loadCb_eq (truck : Nat) (z : List Lv) (s : PS) (e : Ev) (er : Int) : loadCb truck z s e er = if er = 0 then stL_ z (e.at_, cntAt truck s) else z := by
  unfold loadCb stL_ cntAt
  by_cases h0 : er = 0
  · rw [if_pos h0, if_neg (fun h => h h0)]; rfl
  · rw [if_neg h0, if_pos h0]
theorem lev_snoc {v : Int → Int} : ∀ {l : List (Int × Int)} {a hi p : Int}, Lev v a l → a < hi → (∀ t, a ≤ t → t < hi → v t = p) → Lev v hi (l ++ [(a, p)])
  | [], a, hi, p, _, h1, h2 => ⟨h1, h2, trivial⟩
  | (b, r) :: l, a, hi, p, ⟨h3, h4, h5⟩, h1, h2 => by
    have hh : ((l ++ [(a, p)]).head?.map (·.1)).getD hi = (l.head?.map (·.1)).getD a := by
      cases l <;> rfl
    exact ⟨by show b < ((l ++ [(a, p)]).head?.map (·.1)).getD hi; rw [hh]; exact h3, by show ∀ t, b ≤ t → t < ((l ++ [(a, p)]).head?.map (·.1)).getD hi → v t = r; rw [hh]; exact h4, lev_snoc h5 h1 h2⟩
theorem loads_lev {M : Int} (T : List (Int × Int)) (hT : Mono T) (hb : ∀ q ∈ T, 0 ≤ q.1 ∧ q.1 ≤ M) (hM : 0 ≤ M) : ∃ p l, (T.foldl stL_ [⟨0, 0⟩]).map prL = (0, p) :: l ∧ Lev (vOf 0 T) (M + 1) ((0, p) :: l) := by
  have key : ∀ (B A : List (Int × Int)) (z : List Lv) (l : List (Int × Int)) (a p : Int), T = A ++ B → z.map prL = l ++ [(a, p)] → Lev (vOf 0 T) a l → (∀ t, a ≤ t → t < nt M B → vOf 0 T t = p) → a ≤ nt M B → a ≤ M → ((l ++ [(a, p)]).head?.map (·.1)) = some 0 →
      ∃ p l, (B.foldl stL_ z).map prL = (0, p) :: l ∧ Lev (vOf 0 T) (M + 1) ((0, p) :: l) := by
    intro B
    induction B with
    | nil =>
      intro A z l a p _ hz hl hv ha haM hh
      have h1 := lev_snoc hl (show a < M + 1 by omega) hv
      rw [← hz] at h1 hh
      show ∃ p l, z.map prL = (0, p) :: l ∧ _
      cases hzl : z.map prL with
      | nil => rw [hzl] at hh; cases hh
      | cons x m =>
        rw [hzl] at hh h1
        obtain ⟨x1, x2⟩ := x
        simp at hh
        subst hh
        exact ⟨x2, m, rfl, h1⟩
    | cons q B ih =>
      intro A z l a p hAB hz hl hv ha haM hh
      have hT2 : T = (A ++ [q]) ++ B := by rw [hAB]; simp
      have hm := hT
      rw [hT2] at hm
      obtain ⟨m1, m2, m3⟩ := hm.parts
      have hqb := hb q (by rw [hAB]; simp)
      have hnt : nt M (q :: B) = q.1 := rfl
      rw [hnt] at ha hv
      have hq : q.1 ≤ nt M B := by
        cases B with
        | nil => show q.1 ≤ M + 1; omega
        | cons b B => exact m3 q (by simp) b (by simp)
      have hMb : nt M B ≤ M + 1 := by
        cases B with
        | nil => exact Int.le_refl _
        | cons b B => have := hb b (by rw [hAB]; simp); show b.1 ≤ M + 1; omega
      have hval : ∀ t, q.1 ≤ t → t < nt M B → vOf 0 T t = q.2 := fun t h1 h2 => by
        rw [hT2, vOf_mid (fun a ha => ?_) (m2.lt h2 (by omega))]
        · unfold endP; simp
        · rcases List.mem_append.1 ha with ha | ha
          · have := (List.pairwise_append.1 m1).2.2 a ha q (by simp); omega
          · rw [List.mem_singleton.1 ha]; exact h1
      obtain ⟨y, hy⟩ : ∃ y, z.getLast? = some y := by
        cases hzl : z.getLast? with
        | none => rw [List.getLast?_eq_none_iff.1 hzl] at hz; simp at hz
        | some y => exact ⟨y, rfl⟩
      have hyp : prL y = (a, p) := by
        have := getLast_map prL z
        rw [hy, hz] at this
        simpa using this.symm
      have hdl : z.dropLast.map prL = l := by
        have : (z.map prL).dropLast = l := by rw [hz]; simp
        rw [← this, List.map_dropLast]
      have hya : y.at_ = a := by have := congrArg Prod.fst hyp; exact this
      rw [List.foldl_cons]
      by_cases hc : y.at_ = q.1
      · have hst : stL_ z q = z.dropLast ++ [{ y with count := q.2 }] := by unfold stL_; rw [hy]; simp only; rw [if_pos hc]
        rw [hst]
        refine ih (A ++ [q]) _ l a q.2 hT2 (by rw [List.map_append, hdl]; simp [prL, hya]) hl (fun t h1 h2 => hval t (by omega) h2) (by omega) haM ?_
        cases l with
        | nil => simpa using hh
        | cons x l => simpa using hh
      · have hst : stL_ z q = z ++ [⟨q.1, q.2⟩] := by unfold stL_; rw [hy]; simp only; rw [if_neg hc]
        rw [hst]
        refine ih (A ++ [q]) _ (l ++ [(a, p)]) q.1 q.2 hT2 (by rw [List.map_append, hz]; simp [prL]) (lev_snoc hl (by omega) hv) hval hq hqb.2 ?_
        cases l with
        | nil => simpa using hh
        | cons x l => simpa using hh
  have hnt0 : 0 ≤ nt M T := by
    cases T with
    | nil => show 0 ≤ M + 1; omega
    | cons b B => exact (hb b (by simp)).1
  have hMT : nt M T ≤ M + 1 := by
    cases T with
    | nil => exact Int.le_refl _
    | cons b B => have := hb b (by simp); show b.1 ≤ M + 1; omega
  exact key T [] [⟨0, 0⟩] [] 0 0 rfl rfl trivial (fun t h1 h2 => vOf_mid (p0 := (0 : Int)) (A := []) (B := T) (t := t) (fun q hq => by simp at hq) (hT.lt h2 (by omega))) hnt0 hM rfl
theorem compact_map {α γ : Type} (h : α → γ) {eq : α → α → Bool} {eq' : γ → γ → Bool} (he : ∀ a b, eq a b = eq' (h a) (h b)) : ∀ (l : List α) (p : α), (compactGo eq p l).map h = compactGo eq' (h p) (l.map h)
  | [], _ => rfl
  | y :: l, p => by
    simp only [compactGo, List.map_cons, he]
    split
    · exact compact_map h he l y
    · rw [List.map_cons, compact_map h he l y]
theorem spans_chain {β : Type} {v : Int → β} : ∀ {l : List (Tri β)} {lo hi : Int}, Chain v lo l hi → spans hi (l.map fun x => (x.1, x.2.2)) = l
  | [], _, _, _ => rfl
  | x :: l, lo, hi, ⟨h1, h2, h3, h4, h5⟩ => by
    have hh : ((l.map fun x => (x.1, x.2.2)).head?.map (·.1)).getD hi = x.2.1 := by
      cases l with
      | nil => exact (show x.2.1 = hi from h5).symm
      | cons y l => exact h5.1
    simp only [List.map_cons, spans, hh, spans_chain h5]

end Go.Proofs.Cus

/-
  Plain facts: the accepted events, one behind the other.
-/
namespace Go.Proofs.Cus

/-- accepted events, one behind the other -/
def Replay (f : Fl) : PS → List Ev → Prop
  | _, [] => True
  | s, e :: l => evErr f e = 0 ∧ e.kind ≠ 10 ∧ checkP f.trucks s e = 0 ∧ Replay f (doP s e) l
section
variable {β : Type} {f : Fl} {g : PS → β}
def trOf (g : PS → β) : PS → List Ev → List (Int × β)
  | _, [] => []
  | s, e :: l => (e.at_, g (doP s e)) :: trOf g (doP s e) l
theorem trOf_len : ∀ (l : List Ev) (s : PS), (trOf g s l).length = l.length
  | [], _ => rfl
  | e :: l, s => by simp [trOf, trOf_len l]
theorem run_replay : ∀ (l : List Ev) (s : PS) (za : List Ev) (zt : List (Int × β)), ∃ t, (runR f accCb l (s, za)).2 = za ++ t ∧ (runR f (trCb g) l (s, zt)).2 = zt ++ trOf g s t ∧ Replay f s t
  | [], _, za, zt => ⟨[], by simp [runR], by simp [runR, trOf], trivial⟩
  | e :: l, s, za, zt => by
    show ∃ t, (runR f accCb l (tellR accCb za e (stepR f s e))).2 = za ++ t ∧ (runR f (trCb g) l (tellR (trCb g) zt e (stepR f s e))).2 = zt ++ trOf g s t ∧ _
    by_cases h0 : errR f s e = 0
    · by_cases hk : e.kind = 10
      · rw [step_beat h0 hk]
        exact run_replay l s za zt
      · obtain ⟨h1, h2, h3⟩ := step_do h0 hk
        rw [h1]
        obtain ⟨t, a1, a2, a3⟩ := run_replay l (doP s e) (za ++ [e]) (zt ++ [(e.at_, g (doP s e))])
        refine ⟨e :: t, ?_, ?_, h2, hk, h3, a3⟩
        · show (runR f accCb l (doP s e, accCb za (doP s e) e 0)).2 = _
          rw [show accCb za (doP s e) e 0 = za ++ [e] from rfl, a1]; simp
        · show (runR f (trCb g) l (doP s e, trCb g zt (doP s e) e 0)).2 = _
          rw [show trCb g zt (doP s e) e 0 = zt ++ [(e.at_, g (doP s e))] from rfl, a2]; simp [trOf]
    · rw [step_err h0]
      show ∃ t, (runR f accCb l (s, accCb za s e (errR f s e))).2 = za ++ t ∧ (runR f (trCb g) l (s, trCb g zt s e (errR f s e))).2 = zt ++ trOf g s t ∧ _
      rw [show accCb za s e (errR f s e) = za by unfold accCb; rw [if_neg h0], show trCb g zt s e (errR f s e) = zt by unfold trCb; rw [if_neg h0]]
      exact run_replay l s za zt
/-- the state before the k-th -/
def stK (s : PS) (l : List Ev) (k : Nat) : PS := (l.take k).foldl doP s
theorem Replay.at_ : ∀ {l : List Ev} {s : PS}, Replay f s l → ∀ {k : Nat} {e : Ev}, l[k]? = some e → evErr f e = 0 ∧ e.kind ≠ 10 ∧ checkP f.trucks (stK s l k) e = 0 ∧ stK s l (k + 1) = doP (stK s l k) e ∧ (trOf g s l)[k]? = some (e.at_, g (stK s l (k + 1)))
  | [], _, _, k, e, he => by simp at he
  | x :: l, s, ⟨h1, h2, h3, h4⟩, 0, e, he => by
    simp at he
    subst he
    exact ⟨h1, h2, h3, rfl, rfl⟩
  | x :: l, s, ⟨h1, h2, h3, h4⟩, k + 1, e, he => by
    have := Replay.at_ h4 (k := k) (e := e) (by simpa using he)
    exact this
end

/-- what the reference's loops lean on: the accepted events, their states, the trace -/
theorem replay_of {β : Type} {f : Fl} (hok : flErr f = 0) (xs : List Ev) (g : PS → β) : Replay f (beginP (nbOf f)) (accOf f xs) ∧ (runR f (trCb g) (setOf xs) (beginP (nbOf f), [])).2 = trOf g (beginP (nbOf f)) (accOf f xs) := by
  obtain ⟨t, h1, h2, h3⟩ := run_replay (f := f) (g := g) (setOf xs) (beginP (nbOf f)) [] []
  have ha : accOf f xs = t := by unfold accOf; rw [if_pos hok, h1]; simp
  rw [ha, h2]
  exact ⟨h3, by simp⟩
theorem accOf_len (f : Fl) (xs : List Ev) : (accOf f xs).length ≤ xs.length := by
  unfold accOf
  split
  · obtain ⟨S, Ac, Rj_, hst, hS, hA, hRj⟩ := steps_of f (setOf xs)
    rw [← hA]
    have h1 := (hst.len _ (Nat.le_refl _)).1
    have h2 := setOf_len xs
    omega
  · simp

end Go.Proofs.Cus

/-
  Plain facts: the state at a moment.
-/
namespace Go.Proofs.Cus

theorem tr_ok {β : Type} (f : Fl) (xs : List Ev) (g : PS → β) : Mono (runR f (trCb g) (setOf xs) (beginP (nbOf f), [])).2 ∧ ∀ q ∈ (runR f (trCb g) (setOf xs) (beginP (nbOf f), [])).2, 0 ≤ q.1 ∧ q.1 ≤ 4294943999 := by
  obtain ⟨t, h1, h2, h3⟩ := trace_more (f := f) (g := g) (setOf xs) (beginP (nbOf f)) [] (set_isSet xs).sorted
  rw [List.nil_append] at h1
  rw [h1]
  exact ⟨h2, fun q hq => by obtain ⟨e, _, h4, h5⟩ := h3 q hq; omega⟩
theorem until_set (t : Int) (xs : List Ev) : setOf (untilP t xs) = untilP t xs := by
  unfold untilP
  rw [set_early (setOf xs) (fun x => !decide (t < x.at_)) (fun a b hab hb => by simp at hb ⊢; omega), set_of_set]
/-- the state at a moment -/
def stAtT (f : Fl) (xs : List Ev) (t : Int) : PS := (runR f nobCb (untilP t xs) (beginP (nbOf f), ())).1
theorem spots_until {f : Fl} (hok : flErr f = 0) (xs : List Ev) (t : Int) : spotsOf f (untilP t xs) = (stAtT f xs t).spots := by
  unfold spotsOf stAtT
  rw [if_pos hok, until_set]
theorem v_at {β : Type} (f : Fl) (xs : List Ev) (g : PS → β) (t : Int) : vOf (g (beginP (nbOf f))) (runR f (trCb g) (setOf xs) (beginP (nbOf f), [])).2 t = g (stAtT f xs t) := by
  rw [v_state _ _ (set_isSet xs).sorted]
  unfold stAtT untilP
  rw [runR_fst (cb2 := nobCb) (y := ())]

end Go.Proofs.Cus

/-
  The arguments' readings.
-/
namespace Go.Proofs.Cus
open Go Go.RowKit Go.Proofs.E Go.ChangeShapes Go.WideShapes Go.ChangeAt

theorem own : ownKnob Try.prog.godebug = none := by kernel_rfl
theorem laidOut : laidOutB Try.prog = true := by kernel_rfl
theorem cellsInt : Try.prog.cellsOf 3 = 1 := by kernel_rfl
theorem cellsInts : Try.prog.cellsOf 40 = 1 := by kernel_rfl
theorem cellsEv : Try.prog.cellsOf 50 = 9 := by kernel_rfl
theorem cellsFl : Try.prog.cellsOf 42 = 5 := by kernel_rfl
section
variable {H : Type} {enc : TypeId × Value → H} {W : World} {sp : Nat → Bool} {held : Bool} {base : Nat} {v : Value} {d : DataW H} {ps : List MemPlace}
set_option maxRecDepth 100000 in
theorem rd_ints {fuel : Nat} {cs : List Value} {x : DataW H × List MemPlace} (h : DataW.trod enc Try.prog W 0 sp held fuel 40 cs = some x) : ∃ A n c xs, cs = [.slice A n c] ∧ IntsAt W A n xs := by
  obtain ⟨A, n, c, xs, rfl, hs, _, _, hx⟩ := rd_rows Try.underlying40 cellsInt (by decide) h
  obtain ⟨ys, hy, _⟩ := hs.recode (enc := encInt) (Q := fun _ => True) fun x hx' => by
    obtain ⟨_, f, y, ht⟩ := hx x hx'
    obtain ⟨m, rfl, _⟩ := rd_int Try.underlying3 ht
    exact ⟨m, rfl, trivial⟩
  exact ⟨A, n, c, ys, rfl, hy⟩
set_option maxRecDepth 100000 in
theorem rd_ev {fuel : Nat} {cs : List Value} {x : DataW H × List MemPlace} (hl : cs.length = 9) (h : DataW.trod enc Try.prog W 0 sp held fuel 50 cs = some x) : ∃ e : Ev, e.cells = cs ∧ (-9223372036854775808 ≤ e.place ∧ e.place ≤ 9223372036854775807) := by
  match cs, hl with
  | [c0, c1, c2, c3, c4, c5, c6, c7, c8], _ =>
    obtain ⟨_, _, h0⟩ := rd_field Try.underlying50 h 0 rfl cellsInt
    obtain ⟨_, _, h1⟩ := rd_field Try.underlying50 h 1 rfl cellsInt
    obtain ⟨_, _, h2⟩ := rd_field Try.underlying50 h 2 rfl cellsInt
    obtain ⟨_, _, h3⟩ := rd_field Try.underlying50 h 3 rfl cellsInt
    obtain ⟨_, _, h4⟩ := rd_field Try.underlying50 h 4 rfl cellsInt
    obtain ⟨_, _, h5⟩ := rd_field Try.underlying50 h 5 rfl cellsInt
    obtain ⟨_, _, h6⟩ := rd_field Try.underlying50 h 6 rfl cellsInt
    obtain ⟨_, _, h7⟩ := rd_field Try.underlying50 h 7 rfl cellsInt
    obtain ⟨_, _, h8⟩ := rd_field Try.underlying50 h 8 rfl cellsInt
    obtain ⟨m0, e0, _⟩ := rd_int Try.underlying3 h0
    obtain ⟨m1, e1, _⟩ := rd_int Try.underlying3 h1
    obtain ⟨m2, e2, _⟩ := rd_int Try.underlying3 h2
    obtain ⟨m3, e3, _⟩ := rd_int Try.underlying3 h3
    obtain ⟨m4, e4, _⟩ := rd_int Try.underlying3 h4
    obtain ⟨m5, e5, _⟩ := rd_int Try.underlying3 h5
    obtain ⟨m6, e6, w6⟩ := rd_int Try.underlying3 h6
    obtain ⟨m7, e7, _⟩ := rd_int Try.underlying3 h7
    obtain ⟨m8, e8, _⟩ := rd_int Try.underlying3 h8
    simp at e0 e1 e2 e3 e4 e5 e6 e7 e8
    subst e0 e1 e2 e3 e4 e5 e6 e7 e8
    exact ⟨⟨m0, m1, m2, m3, m4, m5, m6, m7, m8⟩, rfl, wf64 w6⟩
set_option maxRecDepth 100000 in
theorem open_evs (hv : Value.okWide Try.prog W .any base 43 v) (h : DataW.Trod enc Try.prog W 0 sp held 43 v d ps) : ∃ A n c xs, v = .slice A n c ∧ EvsAt W A n xs ∧ PlOk xs := by
  obtain ⟨a, l, c, rfl⟩ := okWide_slice Try.underlying43 hv
  obtain ⟨_, hf⟩ := h
  obtain ⟨A, n, c', xs, e, hs, _, _, hx⟩ := rd_rows Try.underlying43 cellsEv (by decide) hf
  obtain ⟨ys, hy, hq⟩ := hs.recode (enc := Ev.cells) (Q := fun e => -9223372036854775808 ≤ e.place ∧ e.place ≤ 9223372036854775807) fun x hx' => by
    obtain ⟨hl, f, y, ht⟩ := hx x hx'
    exact rd_ev hl ht
  simp [Value.cells] at e
  obtain ⟨rfl, rfl, rfl⟩ := e
  exact ⟨_, _, _, ys, rfl, hy, hq⟩
set_option maxRecDepth 100000 in
theorem open_fleet (hv : Value.okWide Try.prog W .any base 42 v) (h : DataW.Trod enc Try.prog W 0 sp held 42 v d ps) : ∃ (f : Fl) (a : FA), v = .agg (f.cells a).toArray ∧ FlAt W f a := by
  obtain ⟨cs, rfl, hsz⟩ := okWide_struct Try.underlying42 hv
  rw [cellsFl] at hsz
  obtain ⟨l⟩ := cs
  match l, hsz with
  | [c0, c1, c2, c3, c4], _ =>
    obtain ⟨_, hf⟩ := h
    obtain ⟨_, _, h0⟩ := rd_field Try.underlying42 hf 0 rfl cellsInt
    obtain ⟨_, _, h1⟩ := rd_field Try.underlying42 hf 1 rfl cellsInt
    obtain ⟨_, _, h2⟩ := rd_field Try.underlying42 hf 2 rfl cellsInt
    obtain ⟨_, _, h3⟩ := rd_field Try.underlying42 hf 3 rfl cellsInts
    obtain ⟨_, _, h4⟩ := rd_field Try.underlying42 hf 4 rfl cellsInts
    obtain ⟨m0, e0, _⟩ := rd_int Try.underlying3 h0
    obtain ⟨m1, e1, _⟩ := rd_int Try.underlying3 h1
    obtain ⟨m2, e2, _⟩ := rd_int Try.underlying3 h2
    obtain ⟨A3, n3, c3', x3, e3, hx3⟩ := rd_ints h3
    obtain ⟨A4, n4, c4', x4, e4, hx4⟩ := rd_ints h4
    simp [Value.cells] at e0 e1 e2 e3 e4
    subst e0 e1 e2 e3 e4
    exact ⟨⟨m0, m1, m2, x3, x4⟩, ⟨A3, n3, c3', A4, n4, c4'⟩, rfl, hx3, hx4⟩
set_option maxRecDepth 100000 in
theorem open_int (hv : Value.okWide Try.prog W .any base 3 v) (h : DataW.Trod enc Try.prog W 0 sp held 3 v d ps) : ∃ m, v = .int .i64 m ∧ -9223372036854775808 ≤ m ∧ m ≤ 9223372036854775807 := by
  obtain ⟨n, rfl⟩ := okWide_int Try.underlying3 hv
  obtain ⟨_, hf⟩ := h
  obtain ⟨m, e, hw⟩ := rd_int Try.underlying3 hf
  simp [Value.cells] at e
  subst e
  exact ⟨n, rfl, wf64 hw⟩
end
def zFleet : Value := .agg #[.int .i64 0, .int .i64 0, .int .i64 0, .slice none 0 0, .slice none 0 0]

end Go.Proofs.Cus
