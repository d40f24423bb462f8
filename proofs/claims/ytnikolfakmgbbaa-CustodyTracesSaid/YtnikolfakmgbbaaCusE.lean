import Derived.Test.YtnikolfakmgbbaaCusS
import Derived.Test.YtnikolfakmgbbaaCusR
import Derived.Test.YtnikolfakmgbbaaCusD
set_option linter.unusedVariables false
set_option linter.unusedSimpArgs false
/-
  Plain facts: what holds from moment to moment, told as a list of spans (no program in sight).
-/
namespace Go.Proofs.Cus

abbrev Tri (β : Type) := Int × Int × β
section
variable {β : Type} {v : Int → β}
/-- spans one behind the other, neighbours differ -/
def Chain (v : Int → β) : Int → List (Tri β) → Int → Prop
  | lo, [], hi => lo = hi
  | lo, x :: l, hi => x.1 = lo ∧ x.1 < x.2.1 ∧ (∀ t, x.1 ≤ t → t < x.2.1 → v t = x.2.2) ∧ (∀ y, l.head? = some y → y.2.2 ≠ x.2.2) ∧ Chain v x.2.1 l hi
theorem Chain.le : ∀ {l : List (Tri β)} {lo hi : Int}, Chain v lo l hi → lo ≤ hi
  | [], _, _, h => by rw [show _ = _ from h]; exact Int.le_refl _
  | x :: l, _, _, ⟨h1, h2, _, _, h5⟩ => by have := Chain.le h5; omega
theorem Chain.unique : ∀ {l l' : List (Tri β)} {lo hi : Int}, Chain v lo l hi → Chain v lo l' hi → l = l'
  | [], [], _, _, _, _ => rfl
  | [], y :: l', lo, hi, h, ⟨h1, h2, _, _, h5⟩ => by
    have : lo = hi := h
    have := h5.le
    omega
  | x :: l, [], lo, hi, ⟨h1, h2, _, _, h5⟩, h => by
    have : lo = hi := h
    have := h5.le
    omega
  | x :: l, y :: l', lo, hi, ⟨a1, a2, a3, a4, a5⟩, ⟨b1, b2, b3, b4, b5⟩ => by
    have hv : x.2.2 = y.2.2 := by rw [← a3 lo (by omega) (by omega), ← b3 lo (by omega) (by omega)]
    have key : ∀ {x y : Tri β} {l l' : List (Tri β)}, x.1 = lo → y.1 = lo → x.1 < x.2.1 → (∀ t, y.1 ≤ t → t < y.2.1 → v t = y.2.2) → (∀ y, l.head? = some y → y.2.2 ≠ x.2.2) → Chain v x.2.1 l hi → Chain v y.2.1 l' hi → x.2.2 = y.2.2 → ¬ x.2.1 < y.2.1 := by
      intro x y l l' a1 b1 a2 b3 a4 a5 b5 hv hlt
      have hle := b5.le
      cases l with
      | nil => have : x.2.1 = hi := a5; omega
      | cons z l =>
        obtain ⟨c1, c2, c3, _, _⟩ := a5
        have h1 := a4 z rfl
        rw [← c3 x.2.1 (by omega) (by omega), b3 x.2.1 (by omega) hlt] at h1
        exact h1 hv.symm
    have ht : x.2.1 = y.2.1 := by
      have h1 := key a1 b1 a2 b3 a4 a5 b5 hv
      have h2 := key b1 a1 b2 a3 b4 b5 a5 hv.symm
      omega
    have hxy : x = y := by
      obtain ⟨x1, x2, x3⟩ := x
      obtain ⟨y1, y2, y3⟩ := y
      simp only at a1 b1 hv ht
      rw [a1, b1, hv, ht]
    rw [ht] at a5
    rw [hxy, Chain.unique a5 b5]
theorem Chain.snoc : ∀ {l : List (Tri β)} {lo mid to : Int} {p : β}, Chain v lo l mid → mid < to → (∀ t, mid ≤ t → t < to → v t = p) → (∀ y, l.getLast? = some y → y.2.2 ≠ p) → Chain v lo (l ++ [(mid, to, p)]) to
  | [], lo, mid, to, p, h, h1, h2, _ => by
    have h : lo = mid := h
    subst h
    exact ⟨rfl, h1, h2, fun y hy => by simp at hy, rfl⟩
  | x :: l, lo, mid, to, p, ⟨a1, a2, a3, a4, a5⟩, h1, h2, h3 => by
    refine ⟨a1, a2, a3, fun y hy => ?_, Chain.snoc a5 h1 h2 fun y hy => ?_⟩
    · cases l with
      | nil =>
        simp at hy
        subst hy
        exact fun e => h3 x rfl e.symm
      | cons z l => exact a4 y (by simpa using hy)
    · cases l with
      | nil => simp at hy
      | cons z l => exact h3 y (by rw [List.getLast?_cons_cons]; exact hy)
theorem Chain.unsnoc : ∀ {l : List (Tri β)} {lo hi : Int} {x : Tri β}, Chain v lo (l ++ [x]) hi → Chain v lo l x.1 ∧ x.1 < x.2.1 ∧ (∀ t, x.1 ≤ t → t < x.2.1 → v t = x.2.2) ∧ (∀ y, l.getLast? = some y → y.2.2 ≠ x.2.2) ∧ x.2.1 = hi
  | [], lo, hi, x, ⟨a1, a2, a3, _, a5⟩ => ⟨a1.symm, a2, a3, fun y hy => by simp at hy, a5⟩
  | z :: l, lo, hi, x, ⟨a1, a2, a3, a4, a5⟩ => by
    obtain ⟨b1, b2, b3, b4, b5⟩ := Chain.unsnoc a5
    refine ⟨⟨a1, a2, a3, fun y hy => ?_, b1⟩, b2, b3, fun y hy => ?_, b5⟩
    · cases l with
      | nil => simp at hy
      | cons u l => exact a4 y (by simpa using hy)
    · cases l with
      | nil =>
        simp at hy
        subst hy
        exact fun e => a4 x rfl e.symm
      | cons u l => exact b4 y (by rw [List.getLast?_cons_cons] at hy; exact hy)

/-! what a list of changes tells -/
def vOf (p0 : β) (T : List (Int × β)) (t : Int) : β := ((T.filter fun q => decide (q.1 ≤ t)).getLast?.map (·.2)).getD p0
def endP (p0 : β) (A : List (Int × β)) : β := (A.getLast?.map (·.2)).getD p0
def nt (M : Int) (B : List (Int × β)) : Int := (B.head?.map (·.1)).getD (M + 1)
def Mono (T : List (Int × β)) : Prop := T.Pairwise fun a b => a.1 ≤ b.1
/-- between what was and what comes -/
theorem vOf_mid {p0 : β} {A B : List (Int × β)} {t : Int} (hA : ∀ q ∈ A, q.1 ≤ t) (hB : ∀ q ∈ B, t < q.1) : vOf p0 (A ++ B) t = endP p0 A := by
  unfold vOf endP
  rw [List.filter_append, List.filter_eq_self.2 (fun q hq => by simpa using hA q hq), List.filter_eq_nil_iff.2 (fun q hq => by have := hB q hq; simp; omega), List.append_nil]
theorem Mono.lt {M t : Int} {B : List (Int × β)} (h : Mono B) (ht : t < nt M B) (hM : t ≤ M) : ∀ q ∈ B, t < q.1 := by
  cases B with
  | nil => intro q hq; simp at hq
  | cons b B =>
    intro q hq
    have hb : nt M (b :: B) = b.1 := rfl
    rw [hb] at ht
    rcases List.mem_cons.1 hq with rfl | hq
    · exact ht
    · have := (List.pairwise_cons.1 h).1 q hq
      omega
theorem Mono.parts {A B : List (Int × β)} (h : Mono (A ++ B)) : Mono A ∧ Mono B ∧ ∀ a ∈ A, ∀ b ∈ B, a.1 ≤ b.1 := by
  have := List.pairwise_append.1 h
  exact this
end

section
variable {β : Type} [DecidableEq β]
/-! the program's way -/
def pend (t : Int) (z : (Int × β) × List (Tri β)) : List (Tri β) :=
  if z.1.1 = t then z.2
  else
    match z.2.getLast? with
    | some y => if y.2.2 = z.1.2 then z.2.dropLast ++ [(y.1, t, y.2.2)] else z.2 ++ [(z.1.1, t, z.1.2)]
    | none => z.2 ++ [(z.1.1, t, z.1.2)]
def pstep (z : (Int × β) × List (Tri β)) (q : Int × β) : (Int × β) × List (Tri β) := if q.2 ≠ z.1.2 then (q, pend q.1 z) else z
structure PI (v : Int → β) (M : Int) (B : List (Int × β)) (z : (Int × β) × List (Tri β)) : Prop where
  chain : Chain v 0 z.2 z.1.1
  le : z.1.1 ≤ nt M B
  val : ∀ t, z.1.1 ≤ t → t < nt M B → v t = z.1.2
theorem PI.pend {v : Int → β} {M : Int} {B : List (Int × β)} {z : (Int × β) × List (Tri β)} (h : PI v M B z) : Chain v 0 (pend (nt M B) z) (nt M B) := by
  unfold Cus.pend
  by_cases h0 : z.1.1 = nt M B
  · rw [if_pos h0, ← h0]; exact h.chain
  · rw [if_neg h0]
    have hle := h.le
    cases hl : z.2.getLast? with
    | none => exact h.chain.snoc (by omega) h.val (fun y hy => by rw [hl] at hy; cases hy)
    | some y =>
      simp only
      by_cases hy : y.2.2 = z.1.2
      · rw [if_pos hy]
        have hne : z.2 ≠ [] := fun e => by rw [e] at hl; cases hl
        have hz : z.2 = z.2.dropLast ++ [y] := by
          have := List.dropLast_concat_getLast hne
          rw [List.getLast?_eq_some_getLast hne] at hl
          rw [← this, Option.some.inj hl]
          simp
        have hc := h.chain
        rw [hz] at hc
        obtain ⟨c1, c2, c3, c4, c5⟩ := hc.unsnoc
        refine c1.snoc (by omega) (fun t h1 h2 => ?_) c4
        rcases Int.lt_or_le t y.2.1 with h3 | h3
        · exact c3 t h1 h3
        · rw [hy]; exact h.val t (by omega) h2
      · rw [if_neg hy]
        exact h.chain.snoc (by omega) h.val (fun u hu => by rw [hl] at hu; cases hu; exact hy)
theorem prog_chain {p0 : β} {M : Int} (T : List (Int × β)) (hT : Mono T) (hb : ∀ q ∈ T, 0 ≤ q.1 ∧ q.1 ≤ M) (hM : 0 ≤ M) : Chain (vOf p0 T) 0 (pend (M + 1) (T.foldl pstep ((0, p0), []))) (M + 1) := by
  have key : ∀ (B A : List (Int × β)) (z : (Int × β) × List (Tri β)), T = A ++ B → PI (vOf p0 T) M B z → z.1.2 = endP p0 A → Chain (vOf p0 T) 0 (pend (M + 1) (B.foldl pstep z)) (M + 1) := by
    intro B
    induction B with
    | nil =>
      intro A z _ hz _
      exact hz.pend
    | cons q B ih =>
      intro A z hAB hz hze
      have hT2 : T = (A ++ [q]) ++ B := by rw [hAB]; simp
      have hm := hT
      rw [hT2] at hm
      obtain ⟨m1, m2, m3⟩ := hm.parts
      have hqb := hb q (by rw [hAB]; simp)
      have hnt : nt M (q :: B) = q.1 := rfl
      have hq : q.1 ≤ nt M B := by
        cases B with
        | nil => show q.1 ≤ M + 1; omega
        | cons b B => exact m3 q (by simp) b (by simp)
      have hMb : nt M B ≤ M + 1 := by
        cases B with
        | nil => exact Int.le_refl _
        | cons b B => have := hb b (by rw [hAB]; simp); show b.1 ≤ M + 1; omega
      have hend : endP p0 (A ++ [q]) = q.2 := by unfold endP; simp
      have hval : ∀ t, q.1 ≤ t → t < nt M B → vOf p0 T t = q.2 := fun t h1 h2 => by
        rw [hT2, vOf_mid (fun a ha => ?_) (m2.lt h2 (by omega)), hend]
        rcases List.mem_append.1 ha with ha | ha
        · have := (List.pairwise_append.1 m1).2.2 a ha q (by simp); omega
        · rw [List.mem_singleton.1 ha]; exact h1
      rw [List.foldl_cons]
      refine ih (A ++ [q]) _ hT2 ?_ ?_
      · unfold pstep
        by_cases hne : q.2 ≠ z.1.2
        · rw [if_pos hne]
          have hc := hz.pend
          rw [hnt] at hc
          exact ⟨hc, hq, hval⟩
        · rw [if_neg hne]
          have he : q.2 = z.1.2 := Decidable.of_not_not hne
          have h1 := hz.le
          rw [hnt] at h1
          refine ⟨hz.chain, by omega, fun t h2 h3 => ?_⟩
          rcases Int.lt_or_le t q.1 with h4 | h4
          · exact hz.val t h2 (by rw [hnt]; exact h4)
          · rw [hval t h4 h3, he]
      · unfold pstep
        rw [hend]
        by_cases hne : q.2 ≠ z.1.2
        · rw [if_pos hne]
        · rw [if_neg hne]; exact (Decidable.of_not_not hne).symm
  have hnt0 : 0 ≤ nt M T := by
    cases T with
    | nil => show 0 ≤ M + 1; omega
    | cons b B => exact (hb b (by simp)).1
  have hMT : nt M T ≤ M + 1 := by
    cases T with
    | nil => exact Int.le_refl _
    | cons b B => have := hb b (by simp); show b.1 ≤ M + 1; omega
  exact key T [] _ rfl ⟨rfl, hnt0, fun t h1 h2 => by
    have := vOf_mid (p0 := p0) (A := []) (B := T) (t := t) (fun q hq => by simp at hq) (hT.lt h2 (by omega))
    exact this⟩ rfl

/-! the reference's way -/
def rgo (l : List (Tri β)) (last : Int × β) : List (Int × β) → List (Tri β) × (Int × β)
  | [] => (l, last)
  | q :: B => if (B.head?.map (·.1)) = some q.1 then rgo l last B else if last.2 = q.2 then rgo l last B else if last.1 = q.1 then rgo l q B else rgo (l ++ [(last.1, q.1, last.2)]) q B
def rout (M : Int) (r : List (Tri β) × (Int × β)) : List (Tri β) := r.1 ++ [(r.2.1, M + 1, r.2.2)]
structure RI (v : Int → β) (M : Int) (B : List (Int × β)) (l : List (Tri β)) (last : Int × β) : Prop where
  chain : Chain v 0 l last.1
  ne : ∀ y, l.getLast? = some y → y.2.2 ≠ last.2
  val : ∀ t, last.1 ≤ t → t < nt M B → v t = last.2
  lt : (l = [] ∧ last.1 = 0) ∨ last.1 < nt M B
  le : last.1 ≤ nt M B ∧ last.1 ≤ M
theorem ref_chain {p0 : β} {M : Int} (T : List (Int × β)) (hT : Mono T) (hb : ∀ q ∈ T, 0 ≤ q.1 ∧ q.1 ≤ M) (hM : 0 ≤ M) : Chain (vOf p0 T) 0 (rout M (rgo [] (0, p0) T)) (M + 1) := by
  have key : ∀ (B A : List (Int × β)) (l : List (Tri β)) (last : Int × β), T = A ++ B → RI (vOf p0 T) M B l last → Chain (vOf p0 T) 0 (rout M (rgo l last B)) (M + 1) := by
    intro B
    induction B with
    | nil =>
      intro A l last _ hz
      exact hz.chain.snoc (by have := hz.le; omega) hz.val hz.ne
    | cons q B ih =>
      intro A l last hAB hz
      have hT2 : T = (A ++ [q]) ++ B := by rw [hAB]; simp
      have hm := hT
      rw [hT2] at hm
      obtain ⟨m1, m2, m3⟩ := hm.parts
      have hqb := hb q (by rw [hAB]; simp)
      have hnt : nt M (q :: B) = q.1 := rfl
      have hq : q.1 ≤ nt M B := by
        cases B with
        | nil => show q.1 ≤ M + 1; omega
        | cons b B => exact m3 q (by simp) b (by simp)
      have hMb : nt M B ≤ M + 1 := by
        cases B with
        | nil => exact Int.le_refl _
        | cons b B => have := hb b (by rw [hAB]; simp); show b.1 ≤ M + 1; omega
      have hend : endP p0 (A ++ [q]) = q.2 := by unfold endP; simp
      have hval : ∀ t, q.1 ≤ t → t < nt M B → vOf p0 T t = q.2 := fun t h1 h2 => by
        rw [hT2, vOf_mid (fun a ha => ?_) (m2.lt h2 (by omega)), hend]
        rcases List.mem_append.1 ha with ha | ha
        · have := (List.pairwise_append.1 m1).2.2 a ha q (by simp); omega
        · rw [List.mem_singleton.1 ha]; exact h1
      have hle := hz.le
      rw [hnt] at hle
      unfold rgo
      by_cases h1 : (B.head?.map (·.1)) = some q.1
      · rw [if_pos h1]
        have hn2 : nt M B = q.1 := by unfold nt; rw [h1]; rfl
        refine ih (A ++ [q]) l last hT2 ⟨hz.chain, hz.ne, fun t a b => hz.val t a (by rw [hnt]; omega), ?_, by omega⟩
        rcases hz.lt with h | h
        · exact .inl h
        · right; rw [hnt] at h; omega
      · rw [if_neg h1]
        have hlt : q.1 < nt M B := by
          rcases Int.lt_or_eq_of_le hq with h | h
          · exact h
          · cases B with
            | nil => have : q.1 = M + 1 := h; omega
            | cons b B => exact absurd (by rw [show (List.head? (b :: B)) = some b from rfl]; exact congrArg some (show b.1 = q.1 from h.symm)) h1
        by_cases h2 : last.2 = q.2
        · rw [if_pos h2]
          refine ih (A ++ [q]) l last hT2 ⟨hz.chain, hz.ne, fun t a b => ?_, .inr (by omega), by omega⟩
          rcases Int.lt_or_le t q.1 with h4 | h4
          · exact hz.val t a (by rw [hnt]; exact h4)
          · rw [hval t h4 b, h2]
        · rw [if_neg h2]
          by_cases h3 : last.1 = q.1
          · rw [if_pos h3]
            have hl : l = [] ∧ last.1 = 0 := by
              rcases hz.lt with h | h
              · exact h
              · rw [hnt] at h; omega
            refine ih (A ++ [q]) l q hT2 ⟨?_, fun y hy => ?_, hval, .inr hlt, by omega⟩
            · have := hz.chain; rw [h3] at this; exact this
            · rw [hl.1] at hy; cases hy
          · rw [if_neg h3]
            refine ih (A ++ [q]) _ q hT2 ⟨hz.chain.snoc (by omega) (fun t a b => hz.val t a (by rw [hnt]; exact b)) hz.ne, fun y hy => ?_, hval, .inr hlt, by omega⟩
            simp at hy
            subst hy
            exact h2
  have hnt0 : 0 ≤ nt M T := by
    cases T with
    | nil => show 0 ≤ M + 1; omega
    | cons b B => exact (hb b (by simp)).1
  have hMT : nt M T ≤ M + 1 := by
    cases T with
    | nil => exact Int.le_refl _
    | cons b B => have := hb b (by simp); show b.1 ≤ M + 1; omega
  exact key T [] [] (0, p0) rfl ⟨rfl, fun y hy => (by cases hy), fun t h1 h2 => (vOf_mid (p0 := p0) (A := []) (B := T) (t := t) (fun q hq => by simp at hq) (hT.lt h2 (by omega))), .inl ⟨rfl, rfl⟩, ⟨hnt0, hM⟩⟩

end
section
variable {β : Type}
/-! levels: the starts alone -/
def spans (hi : Int) : List (Int × β) → List (Tri β)
  | [] => []
  | (a, p) :: l => (a, (l.head?.map (·.1)).getD hi, p) :: spans hi l
theorem spans_back (hi : Int) : ∀ l : List (Int × β), (spans hi l).map (fun x => (x.1, x.2.2)) = l
  | [] => rfl
  | (a, p) :: l => by simp [spans, spans_back hi l]
/-- starts one behind the other, neighbours may be equal -/
def Lev (v : Int → β) (hi : Int) : List (Int × β) → Prop
  | [] => True
  | (a, p) :: l => a < (l.head?.map (·.1)).getD hi ∧ (∀ t, a ≤ t → t < (l.head?.map (·.1)).getD hi → v t = p) ∧ Lev v hi l
theorem compact_chain {v : Int → β} {hi : Int} (eq : Int × β → Int × β → Bool) (heq : ∀ a b, eq a b = true ↔ a.2 = b.2) : ∀ (l : List (Int × β)) (a : Int) (p : β) (q : Int × β), q.2 = p → a < (l.head?.map (·.1)).getD hi → (∀ t, a ≤ t → t < (l.head?.map (·.1)).getD hi → v t = p) → Lev v hi l →
    Chain v a (spans hi ((a, p) :: compactGo eq q l)) hi
  | [], a, p, q, _, h1, h2, _ => ⟨rfl, h1, h2, fun y hy => by simp [compactGo, spans] at hy, rfl⟩
  | (b, r) :: l, a, p, q, hq, h1, h2, ⟨h3, h4, h5⟩ => by
    have hb : (List.head? ((b, r) :: l)).map (·.1) = some b := rfl
    rw [hb] at h1 h2
    simp only [Option.getD_some] at h1 h2
    unfold compactGo
    by_cases he : eq (b, r) q = true
    · rw [if_pos he]
      have hr : r = p := by have := (heq _ _).1 he; rw [← hq, ← this]
      refine compact_chain eq heq l a p (b, r) hr (by omega) (fun t a1 a2 => ?_) h5
      rcases Int.lt_or_le t b with h6 | h6
      · exact h2 t a1 h6
      · rw [h4 t h6 a2, hr]
    · rw [if_neg he]
      have ih := compact_chain eq heq l b r (b, r) rfl h3 h4 h5
      refine ⟨rfl, h1, h2, fun y hy => ?_, ih⟩
      simp [spans] at hy
      subst hy
      exact fun e => he ((heq _ _).2 (by rw [hq]; exact e))
end

end Go.Proofs.Cus

/-
  Plain facts: the trace of what is accepted; stays and loads as spans.
-/
namespace Go.Proofs.Cus

def trCb {β : Type} (g : PS → β) (z : List (Int × β)) (s : PS) (e : Ev) (er : Int) : List (Int × β) := if er = 0 then z ++ [(e.at_, g s)] else z
section
variable {β σ : Type} {f : Fl} {g : PS → β}
theorem runR_fold (st : σ → Int × β → σ) {cb : σ → PS → Ev → Int → σ} (hcb : ∀ z s e er, cb z s e er = if er = 0 then st z (e.at_, g s) else z) (z0 : σ) : ∀ (l : List Ev) (s : PS) (zt : List (Int × β)),
    runR f cb l (s, zt.foldl st z0) = ((runR f (trCb g) l (s, zt)).1, (runR f (trCb g) l (s, zt)).2.foldl st z0)
  | [], _, _ => rfl
  | e :: l, s, zt => by
    show runR f cb l (tellR cb (zt.foldl st z0) e (stepR f s e)) = ((runR f (trCb g) l (tellR (trCb g) zt e (stepR f s e))).1, (runR f (trCb g) l (tellR (trCb g) zt e (stepR f s e))).2.foldl st z0)
    cases hq : (stepR f s e).2 with
    | none =>
      have h1 : tellR cb (zt.foldl st z0) e (stepR f s e) = ((stepR f s e).1, zt.foldl st z0) := by unfold tellR; rw [hq]
      have h2 : tellR (trCb g) zt e (stepR f s e) = ((stepR f s e).1, zt) := by unfold tellR; rw [hq]
      rw [h1, h2]
      exact runR_fold st hcb z0 l _ zt
    | some er =>
      have h1 : tellR cb (zt.foldl st z0) e (stepR f s e) = ((stepR f s e).1, (trCb g zt (stepR f s e).1 e er).foldl st z0) := by
        unfold tellR; rw [hq]; simp only; rw [hcb]; unfold trCb
        by_cases h0 : er = 0
        · rw [if_pos h0, if_pos h0, List.foldl_append]; rfl
        · rw [if_neg h0, if_neg h0]
      have h2 : tellR (trCb g) zt e (stepR f s e) = ((stepR f s e).1, trCb g zt (stepR f s e).1 e er) := by unfold tellR; rw [hq]
      rw [h1, h2]
      exact runR_fold st hcb z0 l _ _
theorem step_some {s : PS} {e : Ev} {er : Int} (h : (stepR f s e).2 = some er) : (er = 0 ∧ evErr f e = 0) ∨ (er ≠ 0 ∧ (stepR f s e).1 = s) := by
  unfold stepR at h ⊢
  split at h
  · cases h
  · rename_i hb
    rw [if_neg hb]
    simp only at h ⊢
    by_cases h0 : evErr f e = 0
    · rw [if_pos h0] at h ⊢
      cases h
      by_cases h1 : checkP f.trucks s e = 0
      · exact .inl ⟨h1, h0⟩
      · exact .inr ⟨h1, by rw [if_neg h1]⟩
    · rw [if_neg h0] at h ⊢
      cases h
      exact .inr ⟨h0, by rw [if_neg h0]⟩
theorem step_none {s : PS} {e : Ev} (h : (stepR f s e).2 = none) : (stepR f s e).1 = s := by
  unfold stepR at h ⊢
  split at h
  · rename_i hb; rw [if_pos hb]
  · cases h
theorem trace_more : ∀ (l : List Ev) (s : PS) (zt : List (Int × β)), l.Pairwise (fun a b => evLess a b = true) → ∃ t, (runR f (trCb g) l (s, zt)).2 = zt ++ t ∧ Mono t ∧ ∀ q ∈ t, ∃ e ∈ l, q.1 = e.at_ ∧ 0 ≤ e.at_ ∧ e.at_ ≤ 4294943999
  | [], _, zt, _ => ⟨[], by simp [runR], List.Pairwise.nil, fun q hq => by simp at hq⟩
  | e :: l, s, zt, hs => by
    rw [List.pairwise_cons] at hs
    show ∃ t, (runR f (trCb g) l (tellR (trCb g) zt e (stepR f s e))).2 = zt ++ t ∧ _
    cases hq : (stepR f s e).2 with
    | none =>
      have h2 : tellR (trCb g) zt e (stepR f s e) = ((stepR f s e).1, zt) := by unfold tellR; rw [hq]
      rw [h2]
      obtain ⟨t, h3, h4, h5⟩ := trace_more l (stepR f s e).1 zt hs.2
      exact ⟨t, h3, h4, fun q hq => by obtain ⟨e', he', h⟩ := h5 q hq; exact ⟨e', List.mem_cons_of_mem _ he', h⟩⟩
    | some er =>
      have h2 : tellR (trCb g) zt e (stepR f s e) = ((stepR f s e).1, trCb g zt (stepR f s e).1 e er) := by unfold tellR; rw [hq]
      rw [h2]
      obtain ⟨t, h3, h4, h5⟩ := trace_more l (stepR f s e).1 (trCb g zt (stepR f s e).1 e er) hs.2
      have h5' : ∀ q ∈ t, ∃ e' ∈ e :: l, q.1 = e'.at_ ∧ 0 ≤ e'.at_ ∧ e'.at_ ≤ 4294943999 := fun q hq => by obtain ⟨e', he', h⟩ := h5 q hq; exact ⟨e', List.mem_cons_of_mem _ he', h⟩
      rcases step_some hq with ⟨h0, hev⟩ | ⟨h0, _⟩
      · unfold trCb at h3
        rw [if_pos h0, List.append_assoc] at h3
        obtain ⟨_, _, _, _, ha, hb⟩ := evErr_ok hev
        refine ⟨(e.at_, g (stepR f s e).1) :: t, by unfold trCb; rw [if_pos h0]; exact h3, List.pairwise_cons.2 ⟨fun q hq => ?_, h4⟩, fun q hq => ?_⟩
        · obtain ⟨e', he', h6, _⟩ := h5 q hq
          have := at_of_less (hs.1 e' he')
          simp only; omega
        · rcases List.mem_cons.1 hq with rfl | hq
          · exact ⟨e, List.mem_cons_self .., rfl, ha, hb⟩
          · exact h5' q hq
      · unfold trCb at h3 ⊢
        rw [if_neg h0] at h3 ⊢
        exact ⟨t, h3, h4, h5'⟩
theorem trace_end {p0 : β} : ∀ (l : List Ev) (s : PS) (zt : List (Int × β)), endP p0 zt = g s → endP p0 (runR f (trCb g) l (s, zt)).2 = g (runR f (trCb g) l (s, zt)).1
  | [], _, _, h => h
  | e :: l, s, zt, h => by
    show endP p0 (runR f (trCb g) l (tellR (trCb g) zt e (stepR f s e))).2 = g (runR f (trCb g) l (tellR (trCb g) zt e (stepR f s e))).1
    cases hq : (stepR f s e).2 with
    | none =>
      have h2 : tellR (trCb g) zt e (stepR f s e) = ((stepR f s e).1, zt) := by unfold tellR; rw [hq]
      rw [h2]
      exact trace_end l _ _ (by rw [step_none hq]; exact h)
    | some er =>
      have h2 : tellR (trCb g) zt e (stepR f s e) = ((stepR f s e).1, trCb g zt (stepR f s e).1 e er) := by unfold tellR; rw [hq]
      rw [h2]
      refine trace_end l _ _ ?_
      unfold trCb
      rcases step_some hq with ⟨h0, _⟩ | ⟨h0, h1⟩
      · rw [if_pos h0]; unfold endP; simp
      · rw [if_neg h0, h1]; exact h
theorem runR_append {cb : σ → PS → Ev → Int → σ} (l m : List Ev) (x : PS × σ) : runR f cb (l ++ m) x = runR f cb m (runR f cb l x) := by unfold runR; rw [List.foldl_append]
/-- what held at a moment is what the state of that moment says -/
theorem v_state (n : Nat) (ys : List Ev) (hs : ys.Pairwise (fun a b => evLess a b = true)) (t : Int) :
    vOf (g (beginP n)) (runR f (trCb g) ys (beginP n, [])).2 t = g (runR f (trCb g) (ys.filter fun x => !decide (t < x.at_)) (beginP n, [])).1 := by
  obtain ⟨k, _, hf, hd⟩ := early_take (l := ys) (fun x => !decide (t < x.at_)) hs (fun a b hab hb => by simp at hb ⊢; omega)
  rw [hf]
  have hys : ys = ys.take k ++ ys.drop k := (List.take_append_drop k ys).symm
  have hp := List.pairwise_append.1 (hys ▸ hs)
  conv => lhs; rw [hys, runR_append]
  obtain ⟨tA, h1, _, h2⟩ := trace_more (f := f) (g := g) (ys.take k) (beginP n) [] hp.1
  obtain ⟨tB, h3, _, h4⟩ := trace_more (f := f) (g := g) (ys.drop k) (runR f (trCb g) (ys.take k) (beginP n, [])).1 (runR f (trCb g) (ys.take k) (beginP n, [])).2 hp.2.1
  rw [List.nil_append] at h1
  rw [show (runR f (trCb g) (ys.take k) (beginP n, [])) = ((runR f (trCb g) (ys.take k) (beginP n, [])).1, (runR f (trCb g) (ys.take k) (beginP n, [])).2) from rfl, h3, vOf_mid]
  · exact trace_end (g := g) (p0 := g (beginP n)) (ys.take k) (beginP n) [] rfl
  · intro q hq
    rw [h1] at hq
    obtain ⟨e, he, h5, _⟩ := h2 q hq
    rw [← hf] at he
    have := (List.mem_filter.1 he).2
    simp at this; omega
  · intro q hq
    obtain ⟨e, he, h5, _⟩ := h4 q hq
    have := hd e he
    simp at this; omega
end

/-! stays -/
abbrev Pos := Int × Int × Int
def posS (x : Sp) : Pos := (x.where_, x.place, x.ride)
def posY (x : Sty) : Pos := (x.where_, x.place, x.ride)
def posAt (bike : Nat) (s : PS) : Pos := posS (s.spots.getD bike default)
def tri (x : Sty) : Tri Pos := (x.from_, x.to_, posY x)
def toT (z : Sty × List Sty) : (Int × Pos) × List (Tri Pos) := ((z.1.from_, posY z.1), z.2.map tri)
def stS (bike : Nat) (z : Sty × List Sty) (q : Int × Pos) : Sty × List Sty := if q.2 ≠ posY z.1 then (⟨bike, q.2.1, q.2.2.1, q.2.2.2, q.1, 0⟩, (endS q.1 z).2) else z
theorem stayCb_eq (bike : Nat) (z : Sty × List Sty) (s : PS) (e : Ev) (er : Int) : stayCb bike z s e er = if er = 0 then stS bike z (e.at_, posAt bike s) else z := by
  unfold stayCb stS posAt
  simp only
  by_cases h0 : er = 0
  · rw [if_pos h0]
    have hm : movedS (s.spots.getD bike default) z.1 = true ↔ posS (s.spots.getD bike default) ≠ posY z.1 := by
      unfold movedS posS posY
      simp only [ne_eq, Prod.mk.injEq, Bool.or_eq_true, Bool.not_eq_true', decide_eq_false_iff_not]
      constructor
      · rintro ((h | h) | h) ⟨a, b, c⟩ <;> simp_all
      · intro h
        by_cases a : (s.spots.getD bike default).where_ = z.1.where_
        · by_cases b : (s.spots.getD bike default).place = z.1.place
          · by_cases c : (s.spots.getD bike default).ride = z.1.ride
            · exact absurd ⟨a, b, c⟩ h
            · exact .inr c
          · exact .inl (.inr b)
        · exact .inl (.inl a)
    by_cases h1 : movedS (s.spots.getD bike default) z.1 = true
    · rw [if_pos ⟨h0, h1⟩, if_pos (hm.1 h1)]; rfl
    · rw [if_neg (fun h => h1 h.2), if_neg (fun h => h1 (hm.2 h))]
  · rw [if_neg h0, if_neg (fun h => h0 h.1)]
theorem samePl_iff (x y : Sty) : samePl x y = true ↔ posY x = posY y := by
  unfold samePl posY
  simp [and_assoc]
theorem getLast_map {α γ : Type} (h : α → γ) (l : List α) : (l.map h).getLast? = l.getLast?.map h := by
  simp
theorem endS_tri (t : Int) (z : Sty × List Sty) : (endS t z).2.map tri = pend t (toT z) := by
  unfold endS pend toT
  simp only
  by_cases h0 : z.1.from_ = t
  · rw [if_pos h0, if_pos h0]
  · rw [if_neg h0, if_neg h0, getLast_map]
    cases hl : z.2.getLast? with
    | none => simp [tri, posY]
    | some y =>
      simp only [Option.map_some]
      by_cases hy : samePl y z.1 = true
      · rw [if_pos hy, if_pos (show (tri y).2.2 = posY z.1 from (samePl_iff _ _).1 hy)]
        simp [tri, posY]
      · rw [if_neg hy, if_neg (show ¬ (tri y).2.2 = posY z.1 from fun h => hy ((samePl_iff _ _).2 h))]
        simp [tri, posY]
theorem stS_tri (bike : Nat) (z : Sty × List Sty) (q : Int × Pos) : toT (stS bike z q) = pstep (toT z) q := by
  unfold stS pstep
  by_cases h : q.2 ≠ posY z.1
  · rw [if_pos h, if_pos (show q.2 ≠ (toT z).1.2 from h)]
    unfold toT
    simp only
    rw [endS_tri]
    rfl
  · rw [if_neg h, if_neg (show ¬ q.2 ≠ (toT z).1.2 from h)]
theorem stS_fold (bike : Nat) : ∀ (T : List (Int × Pos)) (z : Sty × List Sty), toT (T.foldl (stS bike) z) = T.foldl pstep (toT z)
  | [], _ => rfl
  | q :: T, z => by rw [List.foldl_cons, List.foldl_cons, stS_fold bike T, stS_tri]
def bikesIn (bike : Int) (z : Sty × List Sty) : Prop := z.1.bike = bike ∧ ∀ x ∈ z.2, x.bike = bike
theorem endS_bikes {bike t : Int} {z : Sty × List Sty} (h : bikesIn bike z) : ∀ x ∈ (endS t z).2, x.bike = bike := by
  unfold endS
  simp only
  intro x hx
  split at hx
  · exact h.2 x hx
  · split at hx
    · rename_i y hy
      have hyb := h.2 y (List.mem_of_getLast? hy)
      split at hx
      · rcases List.mem_append.1 hx with hx | hx
        · exact h.2 x ((List.dropLast_sublist _).subset hx)
        · rw [List.mem_singleton.1 hx]; exact hyb
      · rcases List.mem_append.1 hx with hx | hx
        · exact h.2 x hx
        · rw [List.mem_singleton.1 hx]; exact h.1
    · rcases List.mem_append.1 hx with hx | hx
      · exact h.2 x hx
      · rw [List.mem_singleton.1 hx]; exact h.1
theorem stS_bikes (bike : Nat) : ∀ (T : List (Int × Pos)) (z : Sty × List Sty), bikesIn bike z → bikesIn bike (T.foldl (stS bike) z)
  | [], _, h => h
  | q :: T, z, h => by
    rw [List.foldl_cons]
    refine stS_bikes bike T _ ?_
    unfold stS
    split
    · exact ⟨rfl, endS_bikes h⟩
    · exact h
theorem tri_inj {bike : Int} : ∀ {l m : List Sty}, (∀ x ∈ l, x.bike = bike) → (∀ x ∈ m, x.bike = bike) → l.map tri = m.map tri → l = m
  | [], [], _, _, _ => rfl
  | [], _ :: _, _, _, h => by simp at h
  | _ :: _, [], _, _, h => by simp at h
  | x :: l, y :: m, hl, hm, h => by
    simp only [List.map_cons, List.cons.injEq] at h
    have h1 := hl x (by simp)
    have h2 := hm y (by simp)
    have : x = y := by
      obtain ⟨x1, x2, x3, x4, x5, x6⟩ := x
      obtain ⟨y1, y2, y3, y4, y5, y6⟩ := y
      have h3 := h.1
      simp only [tri, posY, Prod.mk.injEq] at h3 h1 h2
      simp only [Sty.mk.injEq]
      exact ⟨by omega, h3.2.2.1, h3.2.2.2.1, h3.2.2.2.2, h3.1, h3.2.1⟩
    rw [this, tri_inj (fun z hz => hl z (List.mem_cons_of_mem _ hz)) (fun z hz => hm z (List.mem_cons_of_mem _ hz)) h.2]

/-! loads -/
def prL (x : Lv) : Int × Int := (x.at_, x.count)
def stL_ (z : List Lv) (q : Int × Int) : List Lv :=
  match z.getLast? with
  | some y => if y.at_ = q.1 then z.dropLast ++ [{ y with count := q.2 }] else z ++ [⟨q.1, q.2⟩]
  | none => z
def cntAt (truck : Nat) (s : PS) : Int := (countP s.spots 4 truck : Int)
theorem loadCb_eq (truck : Nat) (z : List Lv) (s : PS) (e : Ev) (er : Int) : loadCb truck z s e er = if er = 0 then stL_ z (e.at_, cntAt truck s) else z := by
  unfold loadCb stL_ cntAt
  by_cases h0 : er = 0
  · rw [if_pos h0, if_neg (fun h => h h0)]; rfl
  · rw [if_neg h0, if_pos h0]
theorem lev_snoc {v : Int → Int} : ∀ {l : List (Int × Int)} {a hi p : Int}, Lev v a l → a < hi → (∀ t, a ≤ t → t < hi → v t = p) → Lev v hi (l ++ [(a, p)])
  | [], a, hi, p, _, h1, h2 => ⟨h1, h2, trivial⟩
  | (b, r) :: l, a, hi, p, ⟨h3, h4, h5⟩, h1, h2 => by
    have hh : ((l ++ [(a, p)]).head?.map (·.1)).getD hi = (l.head?.map (·.1)).getD a := by
      cases l <;> rfl
    exact ⟨by show b < ((l ++ [(a, p)]).head?.map (·.1)).getD hi; rw [hh]; exact h3, by show ∀ t, b ≤ t → t < ((l ++ [(a, p)]).head?.map (·.1)).getD hi → v t = r; rw [hh]; exact h4, lev_snoc h5 h1 h2⟩
theorem loads_lev {M : Int} (T : List (Int × Int)) (hT : Mono T) (hb : ∀ q ∈ T, 0 ≤ q.1 ∧ q.1 ≤ M) (hM : 0 ≤ M) : ∃ p l, (T.foldl stL_ [⟨0, 0⟩]).map prL = (0, p) :: l ∧ Lev (vOf 0 T) (M + 1) ((0, p) :: l) := by
  have key : ∀ (B A : List (Int × Int)) (z : List Lv) (l : List (Int × Int)) (a p : Int), T = A ++ B → z.map prL = l ++ [(a, p)] → Lev (vOf 0 T) a l → (∀ t, a ≤ t → t < nt M B → vOf 0 T t = p) → a ≤ nt M B → a ≤ M → ((l ++ [(a, p)]).head?.map (·.1)) = some 0 →
      ∃ p l, (B.foldl stL_ z).map prL = (0, p) :: l ∧ Lev (vOf 0 T) (M + 1) ((0, p) :: l) := by
    intro B
    induction B with
    | nil =>
      intro A z l a p _ hz hl hv ha haM hh
      have h1 := lev_snoc hl (show a < M + 1 by omega) hv
      rw [← hz] at h1 hh
      show ∃ p l, z.map prL = (0, p) :: l ∧ _
      cases hzl : z.map prL with
      | nil => rw [hzl] at hh; cases hh
      | cons x m =>
        rw [hzl] at hh h1
        obtain ⟨x1, x2⟩ := x
        simp at hh
        subst hh
        exact ⟨x2, m, rfl, h1⟩
    | cons q B ih =>
      intro A z l a p hAB hz hl hv ha haM hh
      have hT2 : T = (A ++ [q]) ++ B := by rw [hAB]; simp
      have hm := hT
      rw [hT2] at hm
      obtain ⟨m1, m2, m3⟩ := hm.parts
      have hqb := hb q (by rw [hAB]; simp)
      have hnt : nt M (q :: B) = q.1 := rfl
      rw [hnt] at ha hv
      have hq : q.1 ≤ nt M B := by
        cases B with
        | nil => show q.1 ≤ M + 1; omega
        | cons b B => exact m3 q (by simp) b (by simp)
      have hMb : nt M B ≤ M + 1 := by
        cases B with
        | nil => exact Int.le_refl _
        | cons b B => have := hb b (by rw [hAB]; simp); show b.1 ≤ M + 1; omega
      have hval : ∀ t, q.1 ≤ t → t < nt M B → vOf 0 T t = q.2 := fun t h1 h2 => by
        rw [hT2, vOf_mid (fun a ha => ?_) (m2.lt h2 (by omega))]
        · unfold endP; simp
        · rcases List.mem_append.1 ha with ha | ha
          · have := (List.pairwise_append.1 m1).2.2 a ha q (by simp); omega
          · rw [List.mem_singleton.1 ha]; exact h1
      obtain ⟨y, hy⟩ : ∃ y, z.getLast? = some y := by
        cases hzl : z.getLast? with
        | none => rw [List.getLast?_eq_none_iff.1 hzl] at hz; simp at hz
        | some y => exact ⟨y, rfl⟩
      have hyp : prL y = (a, p) := by
        have := getLast_map prL z
        rw [hy, hz] at this
        simpa using this.symm
      have hdl : z.dropLast.map prL = l := by
        have : (z.map prL).dropLast = l := by rw [hz]; simp
        rw [← this, List.map_dropLast]
      have hya : y.at_ = a := by have := congrArg Prod.fst hyp; exact this
      rw [List.foldl_cons]
      by_cases hc : y.at_ = q.1
      · have hst : stL_ z q = z.dropLast ++ [{ y with count := q.2 }] := by unfold stL_; rw [hy]; simp only; rw [if_pos hc]
        rw [hst]
        refine ih (A ++ [q]) _ l a q.2 hT2 (by rw [List.map_append, hdl]; simp [prL, hya]) hl (fun t h1 h2 => hval t (by omega) h2) (by omega) haM ?_
        cases l with
        | nil => simpa using hh
        | cons x l => simpa using hh
      · have hst : stL_ z q = z ++ [⟨q.1, q.2⟩] := by unfold stL_; rw [hy]; simp only; rw [if_neg hc]
        rw [hst]
        refine ih (A ++ [q]) _ (l ++ [(a, p)]) q.1 q.2 hT2 (by rw [List.map_append, hz]; simp [prL]) (lev_snoc hl (by omega) hv) hval hq hqb.2 ?_
        cases l with
        | nil => simpa using hh
        | cons x l => simpa using hh
  have hnt0 : 0 ≤ nt M T := by
    cases T with
    | nil => show 0 ≤ M + 1; omega
    | cons b B => exact (hb b (by simp)).1
  have hMT : nt M T ≤ M + 1 := by
    cases T with
    | nil => exact Int.le_refl _
    | cons b B => have := hb b (by simp); show b.1 ≤ M + 1; omega
  exact key T [] [⟨0, 0⟩] [] 0 0 rfl rfl trivial (fun t h1 h2 => vOf_mid (p0 := (0 : Int)) (A := []) (B := T) (t := t) (fun q hq => by simp at hq) (hT.lt h2 (by omega))) hnt0 hM rfl
theorem compact_map {α γ : Type} (h : α → γ) {eq : α → α → Bool} {eq' : γ → γ → Bool} (he : ∀ a b, eq a b = eq' (h a) (h b)) : ∀ (l : List α) (p : α), (compactGo eq p l).map h = compactGo eq' (h p) (l.map h)
  | [], _ => rfl
  | y :: l, p => by
    simp only [compactGo, List.map_cons, he]
    split
    · exact compact_map h he l y
    · rw [List.map_cons, compact_map h he l y]
theorem spans_chain {β : Type} {v : Int → β} : ∀ {l : List (Tri β)} {lo hi : Int}, Chain v lo l hi → spans hi (l.map fun x => (x.1, x.2.2)) = l
  | [], _, _, _ => rfl
  | x :: l, lo, hi, ⟨h1, h2, h3, h4, h5⟩ => by
    have hh : ((l.map fun x => (x.1, x.2.2)).head?.map (·.1)).getD hi = x.2.1 := by
      cases l with
      | nil => exact (show x.2.1 = hi from h5).symm
      | cons y l => exact h5.1
    simp only [List.map_cons, spans, hh, spans_chain h5]

end Go.Proofs.Cus

/-
  Plain facts: the stays and the loads, and where the bicycles are at a moment.
-/
namespace Go.Proofs.Cus

section
variable {β : Type} {v : Int → β}
theorem Chain.get : ∀ {l : List (Tri β)} {lo hi : Int}, Chain v lo l hi → ∀ (k : Nat) (x : Tri β), l[k]? = some x →
    x.1 < x.2.1 ∧ (∀ t, x.1 ≤ t → t < x.2.1 → v t = x.2.2) ∧ (k = 0 → x.1 = lo) ∧ (∀ y, 0 < k → l[k - 1]? = some y → x.1 = y.2.1 ∧ x.2.2 ≠ y.2.2) ∧ (k + 1 = l.length → x.2.1 = hi) ∧ lo ≤ x.1 ∧ x.2.1 ≤ hi
  | [], _, _, _, k, x, hx => by simp at hx
  | y :: l, lo, hi, ⟨h1, h2, h3, h4, h5⟩, 0, x, hx => by
    simp at hx
    subst hx
    refine ⟨h2, h3, fun _ => h1, fun z hz => by omega, fun hl => ?_, by omega, h5.le⟩
    cases l with
    | nil => exact h5
    | cons z l => simp at hl
  | y :: l, lo, hi, ⟨h1, h2, h3, h4, h5⟩, k + 1, x, hx => by
    obtain ⟨a1, a2, a3, a4, a5, a6, a7⟩ := Chain.get h5 k x (by simpa using hx)
    refine ⟨a1, a2, fun h => by omega, fun z _ hz => ?_, fun hl => a5 (by simp at hl; exact hl), by omega, a7⟩
    cases k with
    | zero =>
      simp at hz hx
      subst hz
      refine ⟨a3 rfl, h4 x (by rw [List.head?_eq_getElem?]; exact hx)⟩
    | succ k => exact a4 z (by omega) (by simpa using hz)
end

theorem posAt_begin {n b : Nat} (h : b < n) : posAt b (beginP n) = (5, 0, 0) := by
  unfold posAt posS beginP
  rw [List.getD_eq_getElem?_getD, List.getElem?_replicate, if_pos h]
  rfl
theorem cntAt_begin (n k : Nat) : cntAt k (beginP n) = 0 := by
  unfold cntAt countP beginP
  have : (List.replicate n (⟨5, 0, 0, false⟩ : Sp)).countP (atP 4 k) = 0 := by
    rw [List.countP_eq_zero]
    intro x hx
    rw [(List.mem_replicate.1 hx).2]
    simp [atP]
  simp only [this]
  rfl
/-- what happens to a bicycle -/
def trB (f : Fl) (xs : List Ev) (b : Nat) : List (Int × Pos) := (runR f (trCb (posAt b)) (setOf xs) (beginP (nbOf f), [])).2
/-- what happens to a truck -/
def trK (f : Fl) (xs : List Ev) (k : Nat) : List (Int × Int) := (runR f (trCb (cntAt k)) (setOf xs) (beginP (nbOf f), [])).2
theorem tr_ok {β : Type} (f : Fl) (xs : List Ev) (g : PS → β) : Mono (runR f (trCb g) (setOf xs) (beginP (nbOf f), [])).2 ∧ ∀ q ∈ (runR f (trCb g) (setOf xs) (beginP (nbOf f), [])).2, 0 ≤ q.1 ∧ q.1 ≤ 4294943999 := by
  obtain ⟨t, h1, h2, h3⟩ := trace_more (f := f) (g := g) (setOf xs) (beginP (nbOf f)) [] (set_isSet xs).sorted
  rw [List.nil_append] at h1
  rw [h1]
  exact ⟨h2, fun q hq => by obtain ⟨e, _, h4, h5⟩ := h3 q hq; omega⟩
theorem until_set (t : Int) (xs : List Ev) : setOf (untilP t xs) = untilP t xs := by
  unfold untilP
  rw [set_early (setOf xs) (fun x => !decide (t < x.at_)) (fun a b hab hb => by simp at hb ⊢; omega), set_of_set]
/-- the state at a moment -/
def stAtT (f : Fl) (xs : List Ev) (t : Int) : PS := (runR f nobCb (untilP t xs) (beginP (nbOf f), ())).1
theorem spots_until {f : Fl} (hok : flErr f = 0) (xs : List Ev) (t : Int) : spotsOf f (untilP t xs) = (stAtT f xs t).spots := by
  unfold spotsOf stAtT
  rw [if_pos hok, until_set]
theorem v_at {β : Type} (f : Fl) (xs : List Ev) (g : PS → β) (t : Int) : vOf (g (beginP (nbOf f))) (runR f (trCb g) (setOf xs) (beginP (nbOf f), [])).2 t = g (stAtT f xs t) := by
  rw [v_state _ _ (set_isSet xs).sorted]
  unfold stAtT untilP
  rw [runR_fst (cb2 := nobCb) (y := ())]
theorem stays_chain {f : Fl} {bike : Int} (h : stayErr f bike = 0) (xs : List Ev) :
    (∀ x ∈ staysOf f xs bike, x.bike = bike) ∧ (staysOf f xs bike).map tri = pend 4294944000 ((trB f xs bike.toNat).foldl pstep ((0, (5, 0, 0)), [])) ∧ Chain (fun t => posAt bike.toNat (stAtT f xs t)) 0 ((staysOf f xs bike).map tri) 4294944000 := by
  have hf : flErr f = 0 ∧ 0 ≤ bike ∧ bike < f.bikes := by
    unfold stayErr at h
    by_cases h1 : flErr f ≠ 0
    · rw [if_pos h1] at h; exact absurd h h1
    · rw [if_neg h1] at h
      refine ⟨Decidable.of_not_not h1, ?_⟩
      by_cases h2 : (decide (bike < 0) || decide (f.bikes ≤ bike)) = true
      · rw [if_pos h2] at h; cases h
      · simp at h2; omega
  obtain ⟨hok, hb0, hb1⟩ := hf
  have hnb := nb_eq hok
  have hbn : bike.toNat < nbOf f := by omega
  have hbb : ((bike.toNat : Nat) : Int) = bike := by omega
  have hS : staysOf f xs bike = (endS 4294944000 ((trB f xs bike.toNat).foldl (stS bike.toNat) (stay0 bike.toNat, []))).2 := by
    unfold staysOf
    rw [if_pos h]
    have := runR_fold (f := f) (g := posAt bike.toNat) (stS bike.toNat) (cb := stayCb bike.toNat) (stayCb_eq bike.toNat) (stay0 bike.toNat, []) (setOf xs) (beginP (nbOf f)) []
    simp only [List.foldl_nil] at this
    rw [this]
    rfl
  have h0 : bikesIn bike (stay0 bike.toNat, []) := ⟨hbb, fun x hx => by simp at hx⟩
  rw [← hbb] at h0
  have hbk := endS_bikes (t := 4294944000) (stS_bikes bike.toNat (trB f xs bike.toNat) _ h0)
  rw [hbb] at hbk
  have htri : (staysOf f xs bike).map tri = pend 4294944000 ((trB f xs bike.toNat).foldl pstep ((0, (5, 0, 0)), [])) := by
    rw [hS, endS_tri, stS_fold]
    rfl
  refine ⟨by rw [hS]; exact hbk, htri, ?_⟩
  obtain ⟨t1, t2⟩ := tr_ok f xs (posAt bike.toNat)
  have hc := prog_chain (p0 := ((5, 0, 0) : Pos)) (M := 4294943999) (trB f xs bike.toNat) t1 t2 (by decide)
  rw [htri]
  have hv : vOf ((5, 0, 0) : Pos) (trB f xs bike.toNat) = fun t => posAt bike.toNat (stAtT f xs t) := by
    funext t
    rw [← v_at f xs (posAt bike.toNat) t, posAt_begin hbn]
    rfl
  rw [← hv]
  exact hc
theorem load_ok {f : Fl} {truck : Int} (h : loadErr f truck = 0) : flErr f = 0 ∧ 0 ≤ truck ∧ truck < f.trucks.length := by
  unfold loadErr at h
  by_cases h1 : flErr f ≠ 0
  · rw [if_pos h1] at h; exact absurd h h1
  · rw [if_neg h1] at h
    refine ⟨Decidable.of_not_not h1, ?_⟩
    by_cases h2 : (decide (truck < 0) || decide ((f.trucks.length : Int) ≤ truck)) = true
    · rw [if_pos h2] at h; cases h
    · simp at h2; omega
theorem loads_chain {f : Fl} {truck : Int} (h : loadErr f truck = 0) (xs : List Ev) :
    Chain (fun t => cntAt truck.toNat (stAtT f xs t)) 0 (spans 4294944000 ((loadsOf f xs truck).map prL)) 4294944000 := by
  obtain ⟨hok, hb0, hb1⟩ := load_ok h
  have hS : loadsOf f xs truck = compactF sameCount ((trK f xs truck.toNat).foldl stL_ [⟨0, 0⟩]) := by
    unfold loadsOf
    rw [if_pos h]
    have := runR_fold (f := f) (g := cntAt truck.toNat) stL_ (cb := loadCb truck.toNat) (loadCb_eq truck.toNat) [⟨0, 0⟩] (setOf xs) (beginP (nbOf f)) []
    simp only [List.foldl_nil] at this
    rw [this]
    rfl
  obtain ⟨t1, t2⟩ := tr_ok f xs (cntAt truck.toNat)
  obtain ⟨p, l, h1, h2⟩ := loads_lev (M := 4294943999) (trK f xs truck.toNat) t1 t2 (by decide)
  have hv : vOf (0 : Int) (trK f xs truck.toNat) = fun t => cntAt truck.toNat (stAtT f xs t) := by
    funext t
    rw [← v_at f xs (cntAt truck.toNat) t, cntAt_begin]
    rfl
  rw [hv] at h2
  rw [hS]
  cases hz : (trK f xs truck.toNat).foldl stL_ [⟨0, 0⟩] with
  | nil => rw [hz] at h1; cases h1
  | cons x z =>
    rw [hz] at h1
    simp only [List.map_cons, List.cons.injEq] at h1
    obtain ⟨a1, a2, a3⟩ := h2
    have hmap : (compactF sameCount (x :: z)).map prL = (0, p) :: compactGo (fun a b => decide (a.2 = b.2)) (0, p) l := by
      show prL x :: (compactGo sameCount x z).map prL = _
      rw [compact_map prL (eq' := fun a b => decide (a.2 = b.2)) (fun a b => by unfold sameCount prL; congr) z x, h1.1, h1.2]
    rw [hmap]
    exact compact_chain (fun a b => decide (a.2 = b.2)) (fun a b => by simp) l 0 p (0, p) rfl a1 a2 a3

end Go.Proofs.Cus

/-
  The law of the stays.
-/
namespace Go.Proofs.Cus
open Go Go.RowKit Go.Proofs.E

theorem at_pos {f : Fl} {bike t : Int} (h : atErr f bike t = 0) (xs : List Ev) : posS (atOf f xs bike t) = posAt bike.toNat (stAtT f xs t) ∧ stayErr f bike = 0 ∧ 0 ≤ t ∧ t ≤ 4294943999 := by
  have hok : flErr f = 0 := by
    unfold atErr at h
    by_cases h1 : flErr f ≠ 0
    · rw [if_pos h1] at h; exact h
    · exact Decidable.of_not_not h1
  refine ⟨?_, ?_⟩
  · unfold atOf posAt
    rw [if_pos h, spots_until hok]
  · unfold atErr at h
    rw [if_neg (fun h => h hok)] at h
    by_cases h2 : (decide (bike < 0) || decide (f.bikes ≤ bike)) = true
    · rw [if_pos h2] at h; cases h
    · rw [if_neg h2] at h
      refine ⟨by unfold stayErr; rw [if_neg (fun h => h hok), if_neg h2], ?_⟩
      by_cases h3 : (decide (t < 0) || decide (4294943999 < t)) = true
      · rw [if_pos h3] at h; cases h
      · simp at h3; omega
/-- what the law asks of a list of stays -/
structure SOk (S : List Sty) (bike : Int) (v : Int → Pos) : Prop where
  ne : 0 < S.length
  first : ∀ x, S[0]? = some x → x.from_ = 0
  last : ∀ x, S[S.length - 1]? = some x → x.to_ = 4294944000
  bike : ∀ (k : Nat) x, S[k]? = some x → x.bike = bike ∧ x.from_ < x.to_ ∧ (∀ t, x.from_ ≤ t → t < x.to_ → v t = posY x)
  next : ∀ (k : Nat) x y, S[k]? = some y → S[k + 1]? = some x → x.from_ = y.to_ ∧ posY x ≠ posY y
theorem stays_ok {f : Fl} {bike : Int} (h : stayErr f bike = 0) (xs : List Ev) : SOk (staysOf f xs bike) bike (fun t => posAt bike.toNat (stAtT f xs t)) := by
  obtain ⟨h1, _, h3⟩ := stays_chain h xs
  have hne : 0 < (staysOf f xs bike).length := by
    cases hs : staysOf f xs bike with
    | nil => rw [hs] at h3; exact absurd (show (0 : Int) = 4294944000 from h3) (by decide)
    | cons x l => simp
  have hg : ∀ (k : Nat) x, (staysOf f xs bike)[k]? = some x → ((staysOf f xs bike).map tri)[k]? = some (tri x) := fun k x hx => by rw [List.getElem?_map, hx]; rfl
  refine ⟨hne, fun x hx => (h3.get 0 _ (hg 0 x hx)).2.2.1 rfl, fun x hx => (h3.get _ _ (hg _ x hx)).2.2.2.2.1 (by simp; omega), fun k x hx => ?_, fun k x y hy hx => ?_⟩
  · obtain ⟨a1, a2, _⟩ := h3.get k _ (hg k x hx)
    exact ⟨h1 x (List.mem_of_getElem? hx), a1, a2⟩
  · exact (h3.get (k + 1) _ (hg _ x hx)).2.2.2.1 (tri y) (by omega) (hg k y hy)
def hiS (S : List Sty) : Nat → Int
  | 0 => 0
  | k + 1 => (S[k]?.map (·.to_)).getD 0
def fndS (S : List Sty) (t : Int) (k : Nat) : Int := if t < hiS S k then 1 else 0
theorem SOk.from {S : List Sty} {bike : Int} {v : Int → Pos} (h : SOk S bike v) {k : Nat} {x : Sty} (hx : S[k]? = some x) : x.from_ = hiS S k := by
  cases k with
  | zero => exact h.first x hx
  | succ k =>
    obtain ⟨y, hy⟩ : ∃ y, S[k]? = some y := ⟨_, List.getElem?_eq_getElem (by have := (List.getElem?_eq_some_iff.1 hx).1; omega)⟩
    rw [(h.next k x y hy hx).1]
    simp [hiS, hy]
attribute [local irreducible] staysOf flErr fewP stayErr atErr atOf
set_option maxHeartbeats 4000000 in
set_option maxRecDepth 20000 in
theorem staysLaw_w (f : Fl) (a : FA) (A : Option Addr) (n c : Nat) (xs : List Ev) (t0 t1 : Int) (w : World) (hf : FlAt w f a) (hx : EvsAt w A n xs) (hpl : PlOk xs) :
    Calls Try.prog 6 #[.agg (f.cells a).toArray, .slice A n c, .agg #[.int .i64 t0, .int .i64 t1]] w fun e w' => e = .returned (.bool true) ∧ Bel w w' := by
  refine H_enter Try.func6 rfl Try.ntmps6 rfl ?_
  refine H_seq ?_
  refine R0 ?_
  refine X_box (v := .agg _) rfl rfl fun b3 => ?_
  refine X_box (v := .agg _) rfl rfl fun b5 => ?_
  refine xV (e_as (v := .bool _) (q0 rfl)) rfl rfl ?_
  refine XN ?_
  refine thenJ_normal ?_
  refine H_seq ?_
  refine H_seq ?_
  refine R0 ?_
  refine xV (eS Try.isAgg24 Try.sizeOf24 (q0 rfl)) rfl rfl ?_
  refine xV (e_mv (v := .slice _ _ _) (q0 rfl)) rfl rfl ?_
  refine xC (en Try.call12 (ha2 (q0 rfl) (q0 rfl))) (fun _ w _ => few_w f a A n c w) rfl rfl ?_
  refine xV (e_not (q0 rfl)) rfl rfl ?_
  refine XN ?_
  refine thenJ_normal ?_
  refine H_cond rfl (fun h1 => ?_) (fun h1 => ?_)
  · refine H_seq ?_
    refine R0 ?_
    refine xC (en Try.call13 (ha0)) (fun _ w _ => awake_w w) rfl rfl ?_
    refine xV (e_as (v := .bool _) (q0 rfl)) rfl rfl ?_
    refine XN ?_
    refine thenJ_normal ?_
    refine H_ret ?_
    refine thenJ_ret ?_
    exact ret1 (v := .bool _) rfl rfl rfl fun w' hw => ⟨rfl, hw.1⟩
  · have hn := few_n h1
    refine H_skip ?_
    refine thenJ_normal ?_
    refine H_seq ?_
    refine R0 ?_
    refine xV (eS Try.isAgg24 Try.sizeOf24 (q0 rfl)) rfl rfl ?_
    refine xV (e_mv (v := .slice _ _ _) (q0 rfl)) rfl rfl ?_
    refine xV (e_idxA 0 Try.underlying36 Try.sizeOf3 (q0 rfl) (q0 rfl) (fun _ => ⟨rfl, by decide⟩)) rfl rfl ?_
    refine xV (eL Try.isAgg3 (q0 rfl)) rfl rfl ?_
    refine xCX (en Try.call25 (ha3 (q0 rfl) (q0 rfl) (q0 rfl))) (fun w hw => stays_w f a A n c xs t0 w (hf.mem hw) (hx.mem hw) (by omega) hpl) rfl (fun _ => rfl) fun s1 => ?_
    refine xV (e_mv (q0 rfl)) rfl rfl ?_
    refine xV (e_ext (q0 rfl) rfl) rfl rfl ?_
    refine xV (e_ext (q0 rfl) rfl) rfl rfl ?_
    refine xV (e_as (v := .slice _ _ _) (q0 rfl)) rfl rfl ?_
    refine xV (e_as (v := .int _ _) (q0 rfl)) rfl rfl ?_
    refine XN ?_
    refine thenJ_normal ?_
    refine H_seq ?_
    refine H_seq ?_
    refine R0 ?_
    refine xV (e_mv (v := .int _ _) (q0 rfl)) rfl rfl ?_
    refine xV (e_ne (q0 rfl) (q0 rfl)) rfl rfl ?_
    refine XN ?_
    refine thenJ_normal ?_
    refine H_cond rfl (fun h2 => ?_) (fun h2 => ?_)
    · have h2' : stayErr f t0 ≠ 0 := by simpa using h2
      have hso : staysOf f xs t0 = [] := by unfold staysOf; rw [if_neg h2']
      rw [hso]
      refine H_seq ?_
      refine R0 ?_
      refine xV (e_mv (v := .slice _ _ _) (q0 rfl)) rfl rfl ?_
      refine xV (e_len Try.underlying46 (q0 rfl)) rfl rfl ?_
      refine xV (e_eq (q0 rfl) (q0 rfl)) rfl rfl ?_
      refine xV (e_mv (v := .bool _) (q0 rfl)) rfl rfl ?_
      refine xCT (en Try.call13 (ha0)) (fun _ w _ => awake_w w) rfl rfl rfl rfl ?_
      refine xV (e_and (q0 rfl) rfl (fun h => by first | rfl | (rw [h]; rfl))) rfl rfl ?_
      refine xV (e_as (v := .bool _) (q0 rfl)) rfl rfl ?_
      refine XN ?_
      refine thenJ_normal ?_
      refine H_ret ?_
      refine thenJ_ret ?_
      exact ret1 (v := .bool _) rfl rfl rfl fun w' hw => ⟨ret_bool (by decide), hw.1⟩
    · have h2' : stayErr f t0 = 0 := by simpa using h2
      have hS := stays_ok h2' xs
      have hpos := fun h => at_pos (f := f) (bike := t0) (t := t1) h xs
      generalize hvv : (fun t => posAt t0.toNat (stAtT f xs t)) = v at *
      have hpos2 : atErr f t0 t1 = 0 → posS (atOf f xs t0 t1) = v t1 ∧ 0 ≤ t1 ∧ t1 ≤ 4294943999 := fun h => by rw [← hvv]; exact ⟨(hpos h).1, (hpos h).2.2⟩
      clear hpos hvv
      generalize staysOf f xs t0 = S at *
      have hne := hS.ne
      obtain ⟨s1, s2⟩ := s1
      refine H_skip ?_
      refine thenJ_normal ?_
      refine H_seq ?_
      refine H_seq ?_
      refine H_know (fun w hw => rowT_cap (j := 0) hw rfl) fun hcap => ?_
      refine H_know (fun w hw => rowT_at (j := 0) hw rfl (by omega)) fun ⟨sb, hsb⟩ => ?_
      simp only at hsb
      subst hsb
      obtain ⟨x0, hx0⟩ : ∃ x, S[0]? = some x := ⟨_, List.getElem?_eq_getElem (by omega)⟩
      obtain ⟨xl, hxl⟩ : ∃ x, S[S.length - 1]? = some x := ⟨_, List.getElem?_eq_getElem (by omega)⟩
      refine R0 ?_
      refine xV (e_mv (v := .slice _ _ _) (q0 rfl)) rfl rfl ?_
      refine xV (e_len Try.underlying46 (q0 rfl)) rfl rfl ?_
      refine xV (e_eq (q0 rfl) (q0 rfl)) rfl rfl ?_
      refine xV (e_mv (v := .bool _) (q0 rfl)) rfl rfl ?_
      refine xVF (e_mv (v := .slice _ _ _) (q0 rfl)) rfl rfl rfl rfl ?_
      refine xVF (e_idx 0 Try.underlying46 Try.sizeOf57 (q1 rfl) (q0 rfl) (fun _ => ⟨rfl, by omega⟩)) rfl rfl rfl rfl ?_
      refine xVF (e_fld Try.underlying57 rfl Try.sizeOf55 rfl (q1 rfl)) rfl rfl rfl rfl ?_
      refine xVF (e_fld Try.underlying55 rfl Try.sizeOf3 rfl (q1 rfl)) rfl rfl rfl rfl ?_
      refine xVF (e_ld (v := .int .i64 x0.from_) Try.isAgg3 (q1 rfl) (by exact rr 0 (k := 6) (enc := Sty.cells) (r := 4) rfl hx0 rfl)) rfl rfl rfl rfl ?_
      refine xVF (e_ne (q1 rfl) (q0 rfl)) rfl rfl rfl rfl ?_
      refine xV (e_or (q0 rfl) rfl (fun h => by first | rfl | (rw [h]; rfl))) rfl rfl ?_
      refine xV (e_mv (v := .bool _) (q0 rfl)) rfl rfl ?_
      refine xVF (e_mv (v := .slice _ _ _) (q0 rfl)) rfl rfl rfl rfl ?_
      refine xVF (e_mv (v := .slice _ _ _) (q0 rfl)) rfl rfl rfl rfl ?_
      refine xVF (e_len Try.underlying46 (q1 rfl)) rfl rfl rfl rfl ?_
      refine xVF (e_sub (q1 rfl) (q0 rfl) (fun _ => ⟨rfl, by omega, by omega⟩)) rfl rfl rfl rfl ?_
      refine xVF (e_idx (S.length - 1) Try.underlying46 Try.sizeOf57 (q1 rfl) (q1 rfl) (fun _ => ⟨by omega, by omega⟩)) rfl rfl rfl rfl ?_
      refine xVF (e_fld Try.underlying57 rfl Try.sizeOf55 rfl (q1 rfl)) rfl rfl rfl rfl ?_
      refine xVF (e_fld Try.underlying55 rfl Try.sizeOf3 rfl (q1 rfl)) rfl rfl rfl rfl ?_
      refine xVF (e_ld (v := .int .i64 xl.to_) Try.isAgg3 (q1 rfl) (by exact rr 0 (k := 6) (enc := Sty.cells) (r := 5) rfl hxl rfl)) rfl rfl rfl rfl ?_
      refine xVF (e_ne (q1 rfl) (q0 rfl)) rfl rfl rfl rfl ?_
      refine xV (e_or (q0 rfl) rfl (fun h => by first | rfl | (rw [h]; rfl))) rfl rfl ?_
      refine XN ?_
      refine thenJ_normal ?_
      refine H_cond rfl (fun h3 => ?_) (fun h3 => ?_)
      · exfalso
        have e1 := hS.first x0 hx0
        have e2 := hS.last xl hxl
        simp [e1, e2] at h3
        exact absurd h3 (List.length_pos_iff.1 hne)
      · refine H_skip ?_
        refine thenJ_normal ?_
        refine H_seq ?_
        refine R0 ?_
        refine xV (eS Try.isAgg24 Try.sizeOf24 (q0 rfl)) rfl rfl ?_
        refine xV (e_mv (v := .slice _ _ _) (q0 rfl)) rfl rfl ?_
        refine xV (e_idxA 0 Try.underlying36 Try.sizeOf3 (q0 rfl) (q0 rfl) (fun _ => ⟨rfl, by decide⟩)) rfl rfl ?_
        refine xV (eL Try.isAgg3 (q0 rfl)) rfl rfl ?_
        refine xV (e_idxA 1 Try.underlying36 Try.sizeOf3 (q0 rfl) (q0 rfl) (fun _ => ⟨rfl, by decide⟩)) rfl rfl ?_
        refine xV (eL Try.isAgg3 (q0 rfl)) rfl rfl ?_
        refine xC (en Try.call22 (ha4 (q0 rfl) (q0 rfl) (q0 rfl) (q0 rfl))) (fun _ w hw => at_w f a A n c xs t0 t1 w (hf.mem hw) (hx.mem hw) (by omega) hpl) rfl rfl ?_
        refine xV (e_mv (q0 rfl)) rfl rfl ?_
        refine xV (e_ext (q0 rfl) rfl) rfl rfl ?_
        refine xV (e_ext (q0 rfl) rfl) rfl rfl ?_
        refine X_alloc Try.zeroValue41 rfl fun b9 => ?_
        refine X_st (v := .agg _) rfl rfl Try.sizeOf41 ?_
        refine xV (e_as (v := .int _ _) (q0 rfl)) rfl rfl ?_
        refine XN ?_
        refine thenJ_normal ?_
        refine H_seq ?_
        refine H_seq ?_
        refine R0 ?_
        refine xV (e_mv (v := .int _ _) (q0 rfl)) rfl rfl ?_
        refine xV (e_ne (q0 rfl) (q0 rfl)) rfl rfl ?_
        refine XN ?_
        refine thenJ_normal ?_
        refine H_cond rfl (fun h4 => ?_) (fun h4 => ?_)
        · have h4' : atErr f t0 t1 ≠ 0 := by simpa using h4
          have ht : (decide (t1 < 0) || decide (4294943999 < t1)) = true := by
            unfold stayErr at h2'
            unfold atErr at h4'
            by_cases h5 : flErr f ≠ 0
            · rw [if_pos h5] at h2'; exact absurd h2' h5
            · rw [if_neg h5] at h2' h4'
              by_cases h6 : (decide (t0 < 0) || decide (f.bikes ≤ t0)) = true
              · rw [if_pos h6] at h2'; cases h2'
              · rw [if_neg h6] at h4'
                by_cases h7 : (decide (t1 < 0) || decide (4294943999 < t1)) = true
                · exact h7
                · rw [if_neg h7] at h4'; exact absurd rfl h4'
          refine H_seq ?_
          refine R0 ?_
          refine xV (e_idxA 1 Try.underlying36 Try.sizeOf3 (q0 rfl) (q0 rfl) (fun _ => ⟨rfl, by decide⟩)) rfl rfl ?_
          refine xV (eL Try.isAgg3 (q0 rfl)) rfl rfl ?_
          refine xV (e_lt (q0 rfl) (q0 rfl)) rfl rfl ?_
          refine xV (e_mv (v := .bool _) (q0 rfl)) rfl rfl ?_
          refine xVF (e_idxA 1 Try.underlying36 Try.sizeOf3 (q0 rfl) (q0 rfl) (fun _ => ⟨rfl, by decide⟩)) rfl rfl rfl rfl ?_
          refine xVF (eL Try.isAgg3 (q1 rfl)) rfl rfl rfl rfl ?_
          refine xVF (e_gt (q1 rfl) (q0 rfl)) rfl rfl rfl rfl ?_
          refine xV (e_or (q0 rfl) rfl (fun h => by first | rfl | (rw [h]; rfl))) rfl rfl ?_
          refine xV (e_mv (v := .bool _) (q0 rfl)) rfl rfl ?_
          refine xCT (en Try.call13 (ha0)) (fun _ w _ => awake_w w) rfl rfl rfl rfl ?_
          refine xV (e_and (q0 rfl) rfl (fun h => by first | rfl | (rw [h]; rfl))) rfl rfl ?_
          refine xV (e_as (v := .bool _) (q0 rfl)) rfl rfl ?_
          refine XN ?_
          refine thenJ_normal ?_
          refine H_ret ?_
          refine thenJ_ret ?_
          exact ret1 (v := .bool _) rfl rfl rfl fun w' hw => ⟨ret_bool (by rw [ht]; rfl), hw.1⟩
        · have h4' : atErr f t0 t1 = 0 := by simpa using h4
          obtain ⟨hpa, ht0, htM⟩ := hpos2 h4'
          generalize atOf f xs t0 t1 = X at *
          refine H_skip ?_
          refine thenJ_normal ?_
          refine H_seq ?_
          refine R0 ?_
          refine xV (e_as (v := .int _ _) (q0 rfl)) rfl rfl ?_
          refine XN ?_
          refine thenJ_normal ?_
          refine H_seq ?_
          refine H_seq ?_
          refine R0 ?_
          refine xV (e_as (v := .int _ _) (q0 rfl)) rfl rfl ?_
          refine XN ?_
          refine thenJ_normal ?_
          refine H_block ?_
          refine H_loop [6, 11, 12, 13, 80, 81, 82, 83, 84, 85, 86, 87, 88, 89, 90, 91, 92, 93, 94, 95, 96, 97, 98, 99, 100, 101, 102, 103, 104, 105, 106, 107, 108, 109, 110, 111, 112, 113, 114, 115, 116, 117, 118, 119, 120, 121, 122, 123, 124, 125, 126, 127, 128, 129, 130, 131, 132, 133, 134, 135, 136, 137, 138, 139, 140, 141, 142, 143, 144, 145, 146, 147, 148, 149, 150, 151, 152, 153, 154, 155, 156, 157, 158, 159, 160, 161, 162, 163, 164, 165, 166, 167, 168, 169, 170, 171, 172, 173, 174, 175, 176, 177, 178, 179, 180, 181, 182, 183, 184, 185, 186, 187, 188, 189, 190] (fun k : Nat => [(12, .int .i64 k), (11, .int .i64 (fndS S t1 k))]) (fun _ => [box b9 41 X.cells, styRow (some ⟨sb, 0, none⟩) s2 S, box b5 36 [.int .i64 t0, .int .i64 t1], box b3 24 (f.cells a)]) (fun k => k ≤ S.length) (fun k => S.length - k) 0 ⟨rfl, by show _ = Value.int .i64 (fndS S t1 0); unfold fndS; rw [show hiS S 0 = 0 from rfl, if_neg (by omega)]; rfl, trivial⟩ (fun w hw => hw) rfl (Nat.zero_le _) ?_
          rintro k g hk
          refine H_seq ?_
          refine H_seq ?_
          refine R0 ?_
          refine xV (e_mv (v := .int _ _) (q0 rfl)) rfl rfl ?_
          refine xV (e_mv (v := .slice _ _ _) (q0 rfl)) rfl rfl ?_
          refine xV (e_len Try.underlying46 (q0 rfl)) rfl rfl ?_
          refine xV (e_lt (q0 rfl) (q0 rfl)) rfl rfl ?_
          refine XN ?_
          refine thenJ_normal ?_
          refine H_cond rfl (fun hlt => ?_) (fun hlt => ?_)
          · have hlt' : k < S.length := by simpa using hlt
            obtain ⟨y, hyk⟩ : ∃ y, S[k]? = some y := ⟨_, List.getElem?_eq_getElem hlt'⟩
            obtain ⟨hyb, hyl, hyv⟩ := hS.bike k y hyk
            have hyf := hS.from hyk
            have hyt : hiS S (k + 1) = y.to_ := by simp [hiS, hyk]
            have hfn : fndS S t1 (k + 1) = fndS S t1 k + (if y.from_ ≤ t1 ∧ t1 < y.to_ then 1 else 0) := by
              unfold fndS
              rw [hyt, ← hyf]
              by_cases a1 : t1 < y.from_
              · rw [if_pos a1, if_pos (by omega), if_neg (by omega)]; rfl
              · rw [if_neg a1]
                by_cases a2 : t1 < y.to_
                · rw [if_pos a2, if_pos (by omega)]; rfl
                · rw [if_neg a2, if_neg (by omega)]; rfl
            have hfb : 0 ≤ fndS S t1 k ∧ fndS S t1 k ≤ 1 := by unfold fndS; split <;> omega
            refine H_skip ?_
            refine thenJ_normal ?_
            refine H_seq ?_
            refine H_block ?_
            refine H_seq ?_
            refine R0 ?_
            refine xV (e_mv (v := .slice _ _ _) (q0 rfl)) rfl rfl ?_
            refine xV (e_mv (v := .int _ _) (q0 rfl)) rfl rfl ?_
            refine xV (e_idx _ Try.underlying46 Try.sizeOf57 (q0 rfl) (q0 rfl) (fun _ => ⟨rfl, by omega⟩)) rfl rfl ?_
            refine xV (eS Try.isAgg57 Try.sizeOf57 (q0 rfl)) rfl rfl ?_
            refine X_alloc Try.zeroValue57 rfl fun b13 => ?_
            refine X_st (v := .agg _) rfl rfl Try.sizeOf57 ?_
            refine XN ?_
            refine thenJ_normal ?_
            refine H_seq ?_
            refine H_seq ?_
            refine H_cut [90, 91, 92, 93, 94, 95, 96, 97, 98, 99, 100, 101, 102, 103, 104, 105, 106, 107, 108, 109, 110, 111, 112, 113, 114, 115, 116, 117, 118, 119, 120] (fun _ : Unit => [(120, .bool false)]) (fun _ => [box b13 57 y.cells, box b9 41 X.cells, styRow (some ⟨sb, 0, none⟩) s2 S, box b5 36 [.int .i64 t0, .int .i64 t1], box b3 24 (f.cells a)]) (fun _ => True) ?_ ?_
            · have _ht : True := trivial
              cases k with
              | zero =>
                refine R1 rfl (by decide +kernel) ?_
                refine xV (e_fld Try.underlying57 rfl Try.sizeOf3 rfl (q0 rfl)) rfl rfl ?_
                refine xV (eL Try.isAgg3 (q0 rfl)) rfl rfl ?_
                refine xV (e_idxA 0 Try.underlying36 Try.sizeOf3 (q0 rfl) (q0 rfl) (fun _ => ⟨rfl, by decide⟩)) rfl rfl ?_
                refine xV (eL Try.isAgg3 (q0 rfl)) rfl rfl ?_
                refine xV (e_ne (q0 rfl) (q0 rfl)) rfl rfl ?_
                refine xV (e_mv (v := .bool _) (q0 rfl)) rfl rfl ?_
                refine xVF (e_fld Try.underlying57 rfl Try.sizeOf55 rfl (q0 rfl)) rfl rfl rfl rfl ?_
                refine xVF (e_fld Try.underlying55 rfl Try.sizeOf3 rfl (q1 rfl)) rfl rfl rfl rfl ?_
                refine xVF (eL Try.isAgg3 (q1 rfl)) rfl rfl rfl rfl ?_
                refine xVF (e_fld Try.underlying57 rfl Try.sizeOf55 rfl (q0 rfl)) rfl rfl rfl rfl ?_
                refine xVF (e_fld Try.underlying55 rfl Try.sizeOf3 rfl (q1 rfl)) rfl rfl rfl rfl ?_
                refine xVF (eL Try.isAgg3 (q1 rfl)) rfl rfl rfl rfl ?_
                refine xVF (e_ge (q1 rfl) (q1 rfl)) rfl rfl rfl rfl ?_
                refine xV (e_or (q0 rfl) rfl (fun h => by first | rfl | (rw [h]; rfl))) rfl rfl ?_
                refine xV (e_mv (v := .bool _) (q0 rfl)) rfl rfl ?_
                refine xVF (e_mv (v := .int _ _) (q0 rfl)) rfl rfl rfl rfl ?_
                refine xVF (e_gt (q1 rfl) (q0 rfl)) rfl rfl rfl rfl ?_
                refine xVF (e_mv (v := .bool _) (q1 rfl)) rfl rfl rfl rfl ?_
                refine xVT2 (e_dead (v := .pointer none) (by simp)) rfl rfl rfl rfl ?_
                refine xVT2 (e_dead (v := .pointer none) (by simp)) rfl rfl rfl rfl ?_
                refine xVT2 (e_dead (v := .int .i64 0) (by simp)) rfl rfl rfl rfl ?_
                refine xVT2 (e_dead (v := .slice none 0 0) (by simp)) rfl rfl rfl rfl ?_
                refine xVT2 (e_dead (v := .int .i64 0) (by simp)) rfl rfl rfl rfl ?_
                refine xVT2 (e_dead (v := .int .i64 0) (by simp)) rfl rfl rfl rfl ?_
                refine xVT2 (e_dead (v := .pointer none) (by simp)) rfl rfl rfl rfl ?_
                refine xVT2 (e_dead (v := .pointer none) (by simp)) rfl rfl rfl rfl ?_
                refine xVT2 (e_dead (v := .pointer none) (by simp)) rfl rfl rfl rfl ?_
                refine xVT2 (e_dead (v := .int .i64 0) (by simp)) rfl rfl rfl rfl ?_
                refine xVT2 (e_dead (v := .bool false) (by simp)) rfl rfl rfl rfl ?_
                refine xVF (e_and (q1 rfl) rfl (fun h => by first | rfl | (rw [h]; rfl))) rfl rfl rfl rfl ?_
                refine xV (e_or (q0 rfl) rfl (fun h => by first | rfl | (rw [h]; rfl))) rfl rfl ?_
                refine XN ?_
                exact cutJ_normal () (by repeat (first | exact agree_self | exact agree_over | refine agree_upd rfl ?_ | refine agree_updL rfl ?_ | refine agree_over2 rfl ?_)) ⟨by show Value.bool _ = Value.bool false; simp [hyb]; omega, trivial⟩ (fun w hw => hw) rfl trivial
              | succ k =>
                obtain ⟨z, hzk⟩ : ∃ z, S[k]? = some z := ⟨_, List.getElem?_eq_getElem (by omega)⟩
                have hnx := hS.next k y z hzk hyk
                refine R1 rfl (by decide +kernel) ?_
                refine xV (e_fld Try.underlying57 rfl Try.sizeOf3 rfl (q0 rfl)) rfl rfl ?_
                refine xV (eL Try.isAgg3 (q0 rfl)) rfl rfl ?_
                refine xV (e_idxA 0 Try.underlying36 Try.sizeOf3 (q0 rfl) (q0 rfl) (fun _ => ⟨rfl, by decide⟩)) rfl rfl ?_
                refine xV (eL Try.isAgg3 (q0 rfl)) rfl rfl ?_
                refine xV (e_ne (q0 rfl) (q0 rfl)) rfl rfl ?_
                refine xV (e_mv (v := .bool _) (q0 rfl)) rfl rfl ?_
                refine xVF (e_fld Try.underlying57 rfl Try.sizeOf55 rfl (q0 rfl)) rfl rfl rfl rfl ?_
                refine xVF (e_fld Try.underlying55 rfl Try.sizeOf3 rfl (q1 rfl)) rfl rfl rfl rfl ?_
                refine xVF (eL Try.isAgg3 (q1 rfl)) rfl rfl rfl rfl ?_
                refine xVF (e_fld Try.underlying57 rfl Try.sizeOf55 rfl (q0 rfl)) rfl rfl rfl rfl ?_
                refine xVF (e_fld Try.underlying55 rfl Try.sizeOf3 rfl (q1 rfl)) rfl rfl rfl rfl ?_
                refine xVF (eL Try.isAgg3 (q1 rfl)) rfl rfl rfl rfl ?_
                refine xVF (e_ge (q1 rfl) (q1 rfl)) rfl rfl rfl rfl ?_
                refine xV (e_or (q0 rfl) rfl (fun h => by first | rfl | (rw [h]; rfl))) rfl rfl ?_
                refine xV (e_mv (v := .bool _) (q0 rfl)) rfl rfl ?_
                refine xVF (e_mv (v := .int _ _) (q0 rfl)) rfl rfl rfl rfl ?_
                refine xVF (e_gt (q1 rfl) (q0 rfl)) rfl rfl rfl rfl ?_
                refine xVF (e_mv (v := .bool _) (q1 rfl)) rfl rfl rfl rfl ?_
                refine xVT2 (e_fld Try.underlying57 rfl Try.sizeOf55 rfl (q0 rfl)) rfl rfl rfl rfl ?_
                refine xVT2 (e_fld Try.underlying55 rfl Try.sizeOf3 rfl (q1 rfl)) rfl rfl rfl rfl ?_
                refine xVT2 (eL Try.isAgg3 (q1 rfl)) rfl rfl rfl rfl ?_
                refine xVT2 (e_mv (v := .slice _ _ _) (q0 rfl)) rfl rfl rfl rfl ?_
                refine xVT2 (e_mv (v := .int _ _) (q0 rfl)) rfl rfl rfl rfl ?_
                refine xVT2 (e_sub (q1 rfl) (q0 rfl) (fun _ => ⟨rfl, by omega, by omega⟩)) rfl rfl rfl rfl ?_
                refine xVT2 (e_idx k Try.underlying46 Try.sizeOf57 (q1 rfl) (q1 rfl) (fun _ => ⟨by omega, by omega⟩)) rfl rfl rfl rfl ?_
                refine xVT2 (e_fld Try.underlying57 rfl Try.sizeOf55 rfl (q1 rfl)) rfl rfl rfl rfl ?_
                refine xVT2 (e_fld Try.underlying55 rfl Try.sizeOf3 rfl (q1 rfl)) rfl rfl rfl rfl ?_
                refine xVT2 (e_ld (v := .int .i64 z.to_) Try.isAgg3 (q1 rfl) (by exact rr 2 (k := 6) (enc := Sty.cells) (r := 5) rfl hzk rfl)) rfl rfl rfl rfl ?_
                refine xVT2 (e_ne (q1 rfl) (q1 rfl)) rfl rfl rfl rfl ?_
                refine xVF (e_and (q1 rfl) rfl (fun h => by first | rfl | (rw [h]; rfl))) rfl rfl rfl rfl ?_
                refine xV (e_or (q0 rfl) rfl (fun h => by first | rfl | (rw [h]; rfl))) rfl rfl ?_
                refine XN ?_
                exact cutJ_normal () (by repeat (first | exact agree_self | exact agree_over | refine agree_upd rfl ?_ | refine agree_updL rfl ?_ | refine agree_over2 rfl ?_)) ⟨by show Value.bool _ = Value.bool false; simp [hyb, hnx.1]; omega, trivial⟩ (fun w hw => hw) rfl trivial
            · intro _ g2 _
              refine thenJ_normal ?_
              refine H_cond rfl (fun hb => ?_) (fun hb => ?_)
              · cases hb
              · refine H_skip ?_
                refine thenJ_normal ?_
                refine H_seq ?_
                refine H_seq ?_
                refine H_cut [121, 122, 123, 124, 125, 126, 127, 128, 129, 130, 131, 132, 133, 134, 135, 136, 137, 138, 139, 140, 141, 142, 143, 144, 145, 146, 147, 148, 149, 150, 151, 152, 153, 154, 155] (fun _ : Unit => [(155, .bool false)]) (fun _ => [box b13 57 y.cells, box b9 41 X.cells, styRow (some ⟨sb, 0, none⟩) s2 S, box b5 36 [.int .i64 t0, .int .i64 t1], box b3 24 (f.cells a)]) (fun _ => True) ?_ ?_
                · have _ht : True := trivial
                  cases k with
                  | zero =>
                    refine R1 rfl (by decide +kernel) ?_
                    refine xV (e_mv (v := .int _ _) (q0 rfl)) rfl rfl ?_
                    refine xV (e_gt (q0 rfl) (q0 rfl)) rfl rfl ?_
                    refine xV (e_mv (v := .bool _) (q0 rfl)) rfl rfl ?_
                    refine xVT (e_dead (v := .pointer none) (by simp)) rfl rfl rfl rfl ?_
                    refine xVT (e_dead (v := .int .i64 0) (by simp)) rfl rfl rfl rfl ?_
                    refine xVT (e_dead (v := .slice none 0 0) (by simp)) rfl rfl rfl rfl ?_
                    refine xVT (e_dead (v := .int .i64 0) (by simp)) rfl rfl rfl rfl ?_
                    refine xVT (e_dead (v := .int .i64 0) (by simp)) rfl rfl rfl rfl ?_
                    refine xVT (e_dead (v := .pointer none) (by simp)) rfl rfl rfl rfl ?_
                    refine xVT (e_dead (v := .pointer none) (by simp)) rfl rfl rfl rfl ?_
                    refine xVT (e_dead (v := .int .i64 0) (by simp)) rfl rfl rfl rfl ?_
                    refine xVT (e_dead (v := .bool false) (by simp)) rfl rfl rfl rfl ?_
                    refine xV (e_and (q0 rfl) rfl (fun h => by first | rfl | (rw [h]; rfl))) rfl rfl ?_
                    refine xV (e_mv (v := .bool _) (q0 rfl)) rfl rfl ?_
                    refine xVT (e_dead (v := .pointer none) (by simp)) rfl rfl rfl rfl ?_
                    refine xVT (e_dead (v := .int .i64 0) (by simp)) rfl rfl rfl rfl ?_
                    refine xVT (e_dead (v := .slice none 0 0) (by simp)) rfl rfl rfl rfl ?_
                    refine xVT (e_dead (v := .int .i64 0) (by simp)) rfl rfl rfl rfl ?_
                    refine xVT (e_dead (v := .int .i64 0) (by simp)) rfl rfl rfl rfl ?_
                    refine xVT (e_dead (v := .pointer none) (by simp)) rfl rfl rfl rfl ?_
                    refine xVT (e_dead (v := .pointer none) (by simp)) rfl rfl rfl rfl ?_
                    refine xVT (e_dead (v := .int .i64 0) (by simp)) rfl rfl rfl rfl ?_
                    refine xVT (e_dead (v := .bool false) (by simp)) rfl rfl rfl rfl ?_
                    refine xV (e_and (q0 rfl) rfl (fun h => by first | rfl | (rw [h]; rfl))) rfl rfl ?_
                    refine xV (e_mv (v := .bool _) (q0 rfl)) rfl rfl ?_
                    refine xVT (e_dead (v := .pointer none) (by simp)) rfl rfl rfl rfl ?_
                    refine xVT (e_dead (v := .int .i64 0) (by simp)) rfl rfl rfl rfl ?_
                    refine xVT (e_dead (v := .slice none 0 0) (by simp)) rfl rfl rfl rfl ?_
                    refine xVT (e_dead (v := .int .i64 0) (by simp)) rfl rfl rfl rfl ?_
                    refine xVT (e_dead (v := .int .i64 0) (by simp)) rfl rfl rfl rfl ?_
                    refine xVT (e_dead (v := .pointer none) (by simp)) rfl rfl rfl rfl ?_
                    refine xVT (e_dead (v := .pointer none) (by simp)) rfl rfl rfl rfl ?_
                    refine xVT (e_dead (v := .int .i64 0) (by simp)) rfl rfl rfl rfl ?_
                    refine xVT (e_dead (v := .bool false) (by simp)) rfl rfl rfl rfl ?_
                    refine xV (e_and (q0 rfl) rfl (fun h => by first | rfl | (rw [h]; rfl))) rfl rfl ?_
                    refine XN ?_
                    exact cutJ_normal () (by repeat (first | exact agree_self | exact agree_over | refine agree_upd rfl ?_ | refine agree_updL rfl ?_ | refine agree_over2 rfl ?_)) ⟨by show Value.bool _ = Value.bool false; simp, trivial⟩ (fun w hw => hw) rfl trivial
                  | succ k =>
                    obtain ⟨z, hzk⟩ : ∃ z, S[k]? = some z := ⟨_, List.getElem?_eq_getElem (by omega)⟩
                    have hnx := (hS.next k y z hzk hyk).2
                    unfold posY at hnx
                    refine R1 rfl (by decide +kernel) ?_
                    refine xV (e_mv (v := .int _ _) (q0 rfl)) rfl rfl ?_
                    refine xV (e_gt (q0 rfl) (q0 rfl)) rfl rfl ?_
                    refine xV (e_mv (v := .bool _) (q0 rfl)) rfl rfl ?_
                    refine xVT (e_fld Try.underlying57 rfl Try.sizeOf3 rfl (q0 rfl)) rfl rfl rfl rfl ?_
                    refine xVT (eL Try.isAgg3 (q1 rfl)) rfl rfl rfl rfl ?_
                    refine xVT (e_mv (v := .slice _ _ _) (q0 rfl)) rfl rfl rfl rfl ?_
                    refine xVT (e_mv (v := .int _ _) (q0 rfl)) rfl rfl rfl rfl ?_
                    refine xVT (e_sub (q1 rfl) (q0 rfl) (fun _ => ⟨rfl, by omega, by omega⟩)) rfl rfl rfl rfl ?_
                    refine xVT (e_idx k Try.underlying46 Try.sizeOf57 (q1 rfl) (q1 rfl) (fun _ => ⟨by omega, by omega⟩)) rfl rfl rfl rfl ?_
                    refine xVT (e_fld Try.underlying57 rfl Try.sizeOf3 rfl (q1 rfl)) rfl rfl rfl rfl ?_
                    refine xVT (eL Try.isAgg3 (q1 rfl)) rfl rfl rfl rfl ?_
                    refine xVT (e_eq (q1 rfl) (q1 rfl)) rfl rfl rfl rfl ?_
                    refine xV (e_and (q0 rfl) rfl (fun h => by first | rfl | (rw [h]; rfl))) rfl rfl ?_
                    refine xV (e_mv (v := .bool _) (q0 rfl)) rfl rfl ?_
                    refine xVT (e_fld Try.underlying57 rfl Try.sizeOf3 rfl (q0 rfl)) rfl rfl rfl rfl ?_
                    refine xVT (eL Try.isAgg3 (q1 rfl)) rfl rfl rfl rfl ?_
                    refine xVT (e_mv (v := .slice _ _ _) (q0 rfl)) rfl rfl rfl rfl ?_
                    refine xVT (e_mv (v := .int _ _) (q0 rfl)) rfl rfl rfl rfl ?_
                    refine xVT (e_sub (q1 rfl) (q0 rfl) (fun _ => ⟨rfl, by omega, by omega⟩)) rfl rfl rfl rfl ?_
                    refine xVT (e_idx k Try.underlying46 Try.sizeOf57 (q1 rfl) (q1 rfl) (fun _ => ⟨by omega, by omega⟩)) rfl rfl rfl rfl ?_
                    refine xVT (e_fld Try.underlying57 rfl Try.sizeOf3 rfl (q1 rfl)) rfl rfl rfl rfl ?_
                    refine xVT (eL Try.isAgg3 (q1 rfl)) rfl rfl rfl rfl ?_
                    refine xVT (e_eq (q1 rfl) (q1 rfl)) rfl rfl rfl rfl ?_
                    refine xV (e_and (q0 rfl) rfl (fun h => by first | rfl | (rw [h]; rfl))) rfl rfl ?_
                    refine xV (e_mv (v := .bool _) (q0 rfl)) rfl rfl ?_
                    refine xVT (e_fld Try.underlying57 rfl Try.sizeOf3 rfl (q0 rfl)) rfl rfl rfl rfl ?_
                    refine xVT (eL Try.isAgg3 (q1 rfl)) rfl rfl rfl rfl ?_
                    refine xVT (e_mv (v := .slice _ _ _) (q0 rfl)) rfl rfl rfl rfl ?_
                    refine xVT (e_mv (v := .int _ _) (q0 rfl)) rfl rfl rfl rfl ?_
                    refine xVT (e_sub (q1 rfl) (q0 rfl) (fun _ => ⟨rfl, by omega, by omega⟩)) rfl rfl rfl rfl ?_
                    refine xVT (e_idx k Try.underlying46 Try.sizeOf57 (q1 rfl) (q1 rfl) (fun _ => ⟨by omega, by omega⟩)) rfl rfl rfl rfl ?_
                    refine xVT (e_fld Try.underlying57 rfl Try.sizeOf3 rfl (q1 rfl)) rfl rfl rfl rfl ?_
                    refine xVT (eL Try.isAgg3 (q1 rfl)) rfl rfl rfl rfl ?_
                    refine xVT (e_eq (q1 rfl) (q1 rfl)) rfl rfl rfl rfl ?_
                    refine xV (e_and (q0 rfl) rfl (fun h => by first | rfl | (rw [h]; rfl))) rfl rfl ?_
                    refine XN ?_
                    exact cutJ_normal () (by repeat (first | exact agree_self | exact agree_over | refine agree_upd rfl ?_ | refine agree_updL rfl ?_ | refine agree_over2 rfl ?_)) ⟨by show Value.bool _ = Value.bool false; simp at hnx ⊢; exact fun a b => hnx a b, trivial⟩ (fun w hw => hw) rfl trivial
                · intro _ g3 _
                  refine thenJ_normal ?_
                  refine H_cond rfl (fun hb2 => ?_) (fun hb2 => ?_)
                  · cases hb2
                  · refine H_skip ?_
                    refine thenJ_normal ?_
                    refine H_seq ?_
                    refine R0 ?_
                    refine xV (e_fld Try.underlying57 rfl Try.sizeOf55 rfl (q0 rfl)) rfl rfl ?_
                    refine xV (e_fld Try.underlying55 rfl Try.sizeOf3 rfl (q0 rfl)) rfl rfl ?_
                    refine xV (eL Try.isAgg3 (q0 rfl)) rfl rfl ?_
                    refine xV (e_idxA 1 Try.underlying36 Try.sizeOf3 (q0 rfl) (q0 rfl) (fun _ => ⟨rfl, by decide⟩)) rfl rfl ?_
                    refine xV (eL Try.isAgg3 (q0 rfl)) rfl rfl ?_
                    refine xV (e_le (q0 rfl) (q0 rfl)) rfl rfl ?_
                    refine xV (e_mv (v := .bool _) (q0 rfl)) rfl rfl ?_
                    refine xVT (e_idxA 1 Try.underlying36 Try.sizeOf3 (q0 rfl) (q0 rfl) (fun _ => ⟨rfl, by decide⟩)) rfl rfl rfl rfl ?_
                    refine xVT (eL Try.isAgg3 (q1 rfl)) rfl rfl rfl rfl ?_
                    refine xVT (e_fld Try.underlying57 rfl Try.sizeOf55 rfl (q0 rfl)) rfl rfl rfl rfl ?_
                    refine xVT (e_fld Try.underlying55 rfl Try.sizeOf3 rfl (q1 rfl)) rfl rfl rfl rfl ?_
                    refine xVT (eL Try.isAgg3 (q1 rfl)) rfl rfl rfl rfl ?_
                    refine xVT (e_lt (q1 rfl) (q1 rfl)) rfl rfl rfl rfl ?_
                    refine xV (e_and (q0 rfl) rfl (fun h => by first | rfl | (rw [h]; rfl))) rfl rfl ?_
                    refine XN ?_
                    refine thenJ_normal ?_
                    refine H_cond rfl (fun hin => ?_) (fun hin => ?_)
                    · have hin' : y.from_ ≤ t1 ∧ t1 < y.to_ := by simpa using hin
                      rw [if_pos hin'] at hfn
                      have hvy := hyv t1 hin'.1 hin'.2
                      rw [← hpa] at hvy
                      unfold posS posY at hvy
                      simp only [Prod.mk.injEq] at hvy
                      refine H_seq ?_
                      refine R0 ?_
                      refine xV (e_mv (v := .int _ _) (q0 rfl)) rfl rfl ?_
                      refine xV (e_add (q0 rfl) (q0 rfl) (fun _ => ⟨rfl, by omega, by omega⟩)) rfl rfl ?_
                      refine xV (e_as (v := .int _ _) (q0 rfl)) rfl rfl ?_
                      refine XN ?_
                      refine thenJ_normal ?_
                      refine H_seq ?_
                      refine R0 ?_
                      refine xV (e_fld Try.underlying41 rfl Try.sizeOf3 rfl (q0 rfl)) rfl rfl ?_
                      refine xV (eL Try.isAgg3 (q0 rfl)) rfl rfl ?_
                      refine xV (e_fld Try.underlying57 rfl Try.sizeOf3 rfl (q0 rfl)) rfl rfl ?_
                      refine xV (eL Try.isAgg3 (q0 rfl)) rfl rfl ?_
                      refine xV (e_ne (q0 rfl) (q0 rfl)) rfl rfl ?_
                      refine xV (e_mv (v := .bool _) (q0 rfl)) rfl rfl ?_
                      refine xVF (e_fld Try.underlying41 rfl Try.sizeOf3 rfl (q0 rfl)) rfl rfl rfl rfl ?_
                      refine xVF (eL Try.isAgg3 (q1 rfl)) rfl rfl rfl rfl ?_
                      refine xVF (e_fld Try.underlying57 rfl Try.sizeOf3 rfl (q0 rfl)) rfl rfl rfl rfl ?_
                      refine xVF (eL Try.isAgg3 (q1 rfl)) rfl rfl rfl rfl ?_
                      refine xVF (e_ne (q1 rfl) (q1 rfl)) rfl rfl rfl rfl ?_
                      refine xV (e_or (q0 rfl) rfl (fun h => by first | rfl | (rw [h]; rfl))) rfl rfl ?_
                      refine xV (e_mv (v := .bool _) (q0 rfl)) rfl rfl ?_
                      refine xVF (e_fld Try.underlying41 rfl Try.sizeOf3 rfl (q0 rfl)) rfl rfl rfl rfl ?_
                      refine xVF (eL Try.isAgg3 (q1 rfl)) rfl rfl rfl rfl ?_
                      refine xVF (e_fld Try.underlying57 rfl Try.sizeOf3 rfl (q0 rfl)) rfl rfl rfl rfl ?_
                      refine xVF (eL Try.isAgg3 (q1 rfl)) rfl rfl rfl rfl ?_
                      refine xVF (e_ne (q1 rfl) (q1 rfl)) rfl rfl rfl rfl ?_
                      refine xV (e_or (q0 rfl) rfl (fun h => by first | rfl | (rw [h]; rfl))) rfl rfl ?_
                      refine XN ?_
                      refine thenJ_normal ?_
                      refine H_cond rfl (fun hb3 => ?_) (fun hb3 => ?_)
                      · exfalso
                        simp [hvy.1, hvy.2.1, hvy.2.2] at hb3
                      · refine H_skip ?_
                        refine blockJ_normal ?_
                        refine thenJ_normal ?_
                        refine R0 ?_
                        refine xV (e_mv (v := .int _ _) (q0 rfl)) rfl rfl ?_
                        refine xV (e_add (q0 rfl) (q0 rfl) (fun _ => ⟨rfl, by omega, by omega⟩)) rfl rfl ?_
                        refine xV (e_as (v := .int _ _) (q0 rfl)) rfl rfl ?_
                        refine XN ?_
                        exact loopJ_normal (k + 1) (by repeat (first | exact agree_self | exact agree_over | refine agree_upd rfl ?_ | refine agree_updL rfl ?_ | refine agree_over2 rfl ?_)) ⟨rfl, by show _ = Value.int .i64 (fndS S t1 (k + 1)); rw [hfn]; rfl, trivial⟩ (fun w hw => hw.tail) rfl (by show k + 1 ≤ _; omega) (by show S.length - (k + 1) < S.length - k; omega)
                    · have hin' : ¬ (y.from_ ≤ t1 ∧ t1 < y.to_) := by simpa using hin
                      rw [if_neg hin', Int.add_zero] at hfn
                      refine H_skip ?_
                      refine blockJ_normal ?_
                      refine thenJ_normal ?_
                      refine R0 ?_
                      refine xV (e_mv (v := .int _ _) (q0 rfl)) rfl rfl ?_
                      refine xV (e_add (q0 rfl) (q0 rfl) (fun _ => ⟨rfl, by omega, by omega⟩)) rfl rfl ?_
                      refine xV (e_as (v := .int _ _) (q0 rfl)) rfl rfl ?_
                      refine XN ?_
                      exact loopJ_normal (k + 1) (by repeat (first | exact agree_self | exact agree_over | refine agree_upd rfl ?_ | refine agree_updL rfl ?_ | refine agree_over2 rfl ?_)) ⟨rfl, by show _ = Value.int .i64 (fndS S t1 (k + 1)); rw [hfn]; rfl, trivial⟩ (fun w hw => hw.tail) rfl (by show k + 1 ≤ _; omega) (by show S.length - (k + 1) < S.length - k; omega)
          · have hend : k = S.length := by simp at hlt; omega
            subst hend
            have hfin : fndS S t1 S.length = 1 := by
              have e2 := hS.last xl hxl
              obtain ⟨m, hm⟩ : ∃ m, S.length = m + 1 := ⟨S.length - 1, by omega⟩
              rw [hm] at hxl ⊢
              simp only [Nat.add_sub_cancel] at hxl
              unfold fndS
              rw [show hiS S (m + 1) = xl.to_ by simp [hiS, hxl], if_pos (by omega)]
            rw [hfin]
            refine H_exit ?_
            refine thenJ_exit ?_
            refine loopJ_exit ?_
            refine blockJ_hit ?_
            refine thenJ_normal ?_
            refine H_seq ?_
            refine R0 ?_
            refine xV (e_mv (v := .int _ _) (q0 rfl)) rfl rfl ?_
            refine xV (e_eq (q0 rfl) (q0 rfl)) rfl rfl ?_
            refine xV (e_mv (v := .bool _) (q0 rfl)) rfl rfl ?_
            refine xCT (en Try.call13 (ha0)) (fun _ w _ => awake_w w) rfl rfl rfl rfl ?_
            refine xV (e_and (q0 rfl) rfl (fun h => by first | rfl | (rw [h]; rfl))) rfl rfl ?_
            refine xV (e_as (v := .bool _) (q0 rfl)) rfl rfl ?_
            refine XN ?_
            refine thenJ_normal ?_
            refine H_ret ?_
            exact ret1 (v := .bool _) rfl rfl rfl fun w' hw => ⟨ret_bool (by simp), hw.1⟩

end Go.Proofs.Cus

/-
  The law of the loads.
-/
namespace Go.Proofs.Cus
open Go Go.RowKit Go.Proofs.E

theorem spans_get {β : Type} (hi : Int) : ∀ (l : List (Int × β)) (k : Nat) (x : Int × β), l[k]? = some x → (spans hi l)[k]? = some (x.1, (l[k + 1]?.map (·.1)).getD hi, x.2)
  | [], k, x, h => by simp at h
  | (a, p) :: l, 0, x, h => by
    simp at h
    subst h
    simp [spans, List.head?_eq_getElem?]
  | (a, p) :: l, k + 1, x, h => by
    have := spans_get hi l k x (by simpa using h)
    simpa [spans] using this
structure LOk (S : List Lv) (cap : Int) (v : Int → Int) : Prop where
  ne : 0 < S.length
  first : ∀ x, S[0]? = some x → x.at_ = 0
  each : ∀ (k : Nat) x, S[k]? = some x → 0 ≤ x.at_ ∧ x.at_ ≤ 4294943999 ∧ v x.at_ = x.count ∧ 0 ≤ x.count ∧ x.count ≤ cap
  next : ∀ (k : Nat) x y, S[k]? = some y → S[k + 1]? = some x → y.at_ < x.at_ ∧ x.count ≠ y.count
theorem st_ainv {f : Fl} (hok : flErr f = 0) (xs : List Ev) (t : Int) : AInv f.trucks (stAtT f xs t).spots ∧ (stAtT f xs t).spots.length = nbOf f :=
  ⟨runR_ainv (nb_eq hok) _ _ (PInv.begin _) (AInv.begin _ _), (runR_inv (nb_eq hok) _ _ (PInv.begin _)).len⟩
theorem loads_ok {f : Fl} {truck : Int} (h : loadErr f truck = 0) (xs : List Ev) : LOk (loadsOf f xs truck) (f.trucks.getD truck.toNat 0) (fun t => cntAt truck.toNat (stAtT f xs t)) := by
  obtain ⟨hok, ht0, ht1⟩ := load_ok h
  have hc := loads_chain h xs
  have hg : ∀ (k : Nat) x, (loadsOf f xs truck)[k]? = some x → (spans 4294944000 ((loadsOf f xs truck).map prL))[k]? = some (x.at_, ((loadsOf f xs truck)[k + 1]?.map (·.at_)).getD 4294944000, x.count) := fun k x hx => by
    rw [spans_get _ _ k (prL x) (by rw [List.getElem?_map, hx]; rfl)]
    simp only [List.getElem?_map, prL]
    cases (loadsOf f xs truck)[k + 1]? <;> rfl
  refine ⟨?_, fun x hx => (hc.get 0 _ (hg 0 x hx)).2.2.1 rfl, fun k x hx => ?_, fun k x y hy hx => ?_⟩
  · cases hs : loadsOf f xs truck with
    | nil => rw [hs] at hc; exact absurd (show (0 : Int) = 4294944000 from hc) (by decide)
    | cons x l => simp
  · obtain ⟨a1, a2, _, _, _, a6, a7⟩ := hc.get k _ (hg k x hx)
    simp only at a1 a2 a6 a7
    have hv := a2 x.at_ (Int.le_refl _) a1
    refine ⟨a6, by omega, hv, by rw [← hv]; unfold cntAt; omega, ?_⟩
    rw [← hv]
    unfold cntAt
    obtain ⟨hA, _⟩ := st_ainv hok xs x.at_
    have htk : ((truck.toNat : Nat) : Int) = truck := by omega
    rw [htk]
    rcases Nat.eq_zero_or_pos (countP (stAtT f xs x.at_).spots 4 truck) with h0 | h0
    · rw [h0]
      obtain ⟨_, _, _, _, _, _, hal⟩ := flErr_ok hok
      have hlt : truck.toNat < f.trucks.length := by omega
      rw [List.getD_eq_getElem?_getD, List.getElem?_eq_getElem hlt, Option.getD_some]
      have := List.all_eq_true.1 hal _ (List.getElem_mem hlt)
      simp [within] at this
      omega
    · obtain ⟨s, hs, hat⟩ := List.countP_pos_iff.1 h0
      have hat' : s.where_ = 4 ∧ s.place = truck := by simpa [atP] using hat
      obtain ⟨_, _, h3⟩ := hA.truck s hs hat'.1
      rw [hat'.2] at h3
      exact h3
  · obtain ⟨a1, _, _, a4, _⟩ := hc.get (k + 1) _ (hg _ x hx)
    obtain ⟨b1, _⟩ := hc.get k _ (hg k y hy)
    have := a4 _ (by omega) (hg k y hy)
    simp only [hx, Option.map_some, Option.getD_some] at this b1
    exact ⟨b1, this.2⟩
theorem at_spot {f : Fl} {b : Nat} {t : Int} (hok : flErr f = 0) (hb : b < nbOf f) (ht : 0 ≤ t ∧ t ≤ 4294943999) (xs : List Ev) : atErr f b t = 0 ∧ (stAtT f xs t).spots[b]? = some (atOf f xs b t) := by
  have hnb := nb_eq hok
  have he : atErr f b t = 0 := by
    unfold atErr
    rw [if_neg (fun h => h hok), if_neg (by simp; omega), if_neg (by simp; omega)]
  refine ⟨he, ?_⟩
  unfold atOf
  rw [if_pos he, spots_until hok, Int.toNat_natCast, List.getD_eq_getElem?_getD, List.getElem?_eq_getElem (by rw [(st_ainv hok xs t).2]; exact hb)]
  rfl
theorem loads_len {f : Fl} {truck : Int} (xs : List Ev) : (loadsOf f xs truck).length ≤ xs.length + 1 := by
  unfold loadsOf
  split
  · have h1 := compact_len sameCount (runR f (loadCb truck.toNat) (setOf xs) (beginP (nbOf f), [⟨0, 0⟩])).2
    have h2 := load_bound (f := f) (k := truck.toNat) (setOf xs) (beginP (nbOf f), [⟨0, 0⟩])
    have h3 := setOf_len xs
    simp only [List.length_cons, List.length_nil] at h2
    omega
  · simp
attribute [local irreducible] loadsOf flErr fewP loadErr atErr atOf
set_option maxHeartbeats 4000000 in
set_option maxRecDepth 20000 in
theorem loadsLaw_w (f : Fl) (a : FA) (A : Option Addr) (n c : Nat) (xs : List Ev) (truck : Int) (w : World) (hf : FlAt w f a) (hx : EvsAt w A n xs) (hpl : PlOk xs) :
    Calls Try.prog 10 #[.agg (f.cells a).toArray, .slice A n c, .int .i64 truck] w fun e w' => e = .returned (.bool true) ∧ Bel w w' := by
  have hxl := hx.1
  refine H_enter Try.func10 rfl Try.ntmps10 rfl ?_
  refine H_seq ?_
  refine R0 ?_
  refine X_box (v := .agg _) rfl rfl fun b3 => ?_
  refine xV (e_as (v := .bool _) (q0 rfl)) rfl rfl ?_
  refine XN ?_
  refine thenJ_normal ?_
  refine H_seq ?_
  refine H_seq ?_
  refine R0 ?_
  refine xV (eS Try.isAgg24 Try.sizeOf24 (q0 rfl)) rfl rfl ?_
  refine xV (e_mv (v := .slice _ _ _) (q0 rfl)) rfl rfl ?_
  refine xC (en Try.call12 (ha2 (q0 rfl) (q0 rfl))) (fun _ w _ => few_w f a A n c w) rfl rfl ?_
  refine xV (e_not (q0 rfl)) rfl rfl ?_
  refine xV (e_mv (v := .bool _) (q0 rfl)) rfl rfl ?_
  refine xVF (e_mv (v := .slice _ _ _) (q0 rfl)) rfl rfl rfl rfl ?_
  refine xVF (e_len Try.underlying25 (q1 rfl)) rfl rfl rfl rfl ?_
  refine xVF (e_gt (q1 rfl) (q0 rfl)) rfl rfl rfl rfl ?_
  refine xV (e_or (q0 rfl) rfl (fun h => by first | rfl | (rw [h]; rfl))) rfl rfl ?_
  refine xV (e_mv (v := .bool _) (q0 rfl)) rfl rfl ?_
  refine xVF (e_fld Try.underlying24 rfl Try.sizeOf3 rfl (q0 rfl)) rfl rfl rfl rfl ?_
  refine xVF (eL Try.isAgg3 (q1 rfl)) rfl rfl rfl rfl ?_
  refine xVF (e_gt (q1 rfl) (q0 rfl)) rfl rfl rfl rfl ?_
  refine xV (e_or (q0 rfl) rfl (fun h => by first | rfl | (rw [h]; rfl))) rfl rfl ?_
  refine XN ?_
  refine thenJ_normal ?_
  refine H_cond rfl (fun h1 => ?_) (fun h1 => ?_)
  · refine H_seq ?_
    refine R0 ?_
    refine xC (en Try.call13 (ha0)) (fun _ w _ => awake_w w) rfl rfl ?_
    refine xV (e_as (v := .bool _) (q0 rfl)) rfl rfl ?_
    refine XN ?_
    refine thenJ_normal ?_
    refine H_ret ?_
    refine thenJ_ret ?_
    exact ret1 (v := .bool _) rfl rfl rfl fun w' hw => ⟨rfl, hw.1⟩
  · have hn : n ≤ 40 := by
      have h2 : ((!fewP a n || decide ((40 : Int) < n)) || decide (16 < f.bikes)) = false := h1
      simp at h2
      omega
    refine H_skip ?_
    refine thenJ_normal ?_
    refine H_seq ?_
    refine R0 ?_
    refine xV (eS Try.isAgg24 Try.sizeOf24 (q0 rfl)) rfl rfl ?_
    refine xV (e_mv (v := .slice _ _ _) (q0 rfl)) rfl rfl ?_
    refine xV (e_mv (v := .int _ _) (q0 rfl)) rfl rfl ?_
    refine xCX (en Try.call27 (ha3 (q0 rfl) (q0 rfl) (q0 rfl))) (fun w hw => loads_w f a A n c xs truck w (hf.mem hw) (hx.mem hw) (by omega) hpl) rfl (fun _ => rfl) fun s1 => ?_
    refine xV (e_mv (q0 rfl)) rfl rfl ?_
    refine xV (e_ext (q0 rfl) rfl) rfl rfl ?_
    refine xV (e_ext (q0 rfl) rfl) rfl rfl ?_
    refine xV (e_as (v := .slice _ _ _) (q0 rfl)) rfl rfl ?_
    refine xV (e_as (v := .int _ _) (q0 rfl)) rfl rfl ?_
    refine XN ?_
    refine thenJ_normal ?_
    refine H_seq ?_
    refine H_seq ?_
    refine R0 ?_
    refine xV (e_mv (v := .int _ _) (q0 rfl)) rfl rfl ?_
    refine xV (e_ne (q0 rfl) (q0 rfl)) rfl rfl ?_
    refine XN ?_
    refine thenJ_normal ?_
    refine H_cond rfl (fun h2 => ?_) (fun h2 => ?_)
    · have h2' : loadErr f truck ≠ 0 := by simpa using h2
      have hso : loadsOf f xs truck = [] := by unfold loadsOf; rw [if_neg h2']
      rw [hso]
      refine H_seq ?_
      refine R0 ?_
      refine xV (e_mv (v := .slice _ _ _) (q0 rfl)) rfl rfl ?_
      refine xV (e_len Try.underlying49 (q0 rfl)) rfl rfl ?_
      refine xV (e_eq (q0 rfl) (q0 rfl)) rfl rfl ?_
      refine xV (e_mv (v := .bool _) (q0 rfl)) rfl rfl ?_
      refine xCT (en Try.call13 (ha0)) (fun _ w _ => awake_w w) rfl rfl rfl rfl ?_
      refine xV (e_and (q0 rfl) rfl (fun h => by first | rfl | (rw [h]; rfl))) rfl rfl ?_
      refine xV (e_as (v := .bool _) (q0 rfl)) rfl rfl ?_
      refine XN ?_
      refine thenJ_normal ?_
      refine H_ret ?_
      refine thenJ_ret ?_
      exact ret1 (v := .bool _) rfl rfl rfl fun w' hw => ⟨ret_bool (by decide), hw.1⟩
    · have h2' : loadErr f truck = 0 := by simpa using h2
      obtain ⟨hok, htr0, htr1⟩ := load_ok h2'
      have hS := loads_ok h2' xs
      have hSl := loads_len (f := f) (truck := truck) xs
      have hnb := nb_eq hok
      obtain ⟨hbk, -⟩ := flErr_ok hok
      obtain ⟨tk, rfl⟩ : ∃ k : Nat, truck = k := ⟨truck.toNat, by omega⟩
      rw [Int.toNat_natCast] at hS
      generalize loadsOf f xs tk = S at *
      have hne := hS.ne
      have htl := hf.trucks.1
      have hpt : tk < a.tn := by omega
      obtain ⟨tb, toff, tx, htA, htb, htx, htrr⟩ := hf.trucks.at_ hpt
      have hgd : f.trucks.getD tk 0 = tx := by rw [List.getD_eq_getElem?_getD, htx]; rfl
      rw [hgd] at hS
      obtain ⟨s1, s2⟩ := s1
      refine H_skip ?_
      refine thenJ_normal ?_
      refine H_seq ?_
      refine H_seq ?_
      refine H_know (fun w hw => rowT_cap (j := 0) hw rfl) fun hcap => ?_
      refine H_know (fun w hw => rowT_at (j := 0) hw rfl (by omega)) fun ⟨sb, hsb⟩ => ?_
      simp only at hsb
      subst hsb
      obtain ⟨x0, hx0⟩ : ∃ x, S[0]? = some x := ⟨_, List.getElem?_eq_getElem (by omega)⟩
      refine R0 ?_
      refine xV (e_mv (v := .int _ _) (q0 rfl)) rfl rfl ?_
      refine xV (e_lt (q0 rfl) (q0 rfl)) rfl rfl ?_
      refine xV (e_mv (v := .bool _) (q0 rfl)) rfl rfl ?_
      refine xVF (e_mv (v := .int _ _) (q0 rfl)) rfl rfl rfl rfl ?_
      refine xVF (e_fld Try.underlying24 rfl Try.sizeOf22 rfl (q0 rfl)) rfl rfl rfl rfl ?_
      refine xVF (eL Try.isAgg22 (q1 rfl)) rfl rfl rfl rfl ?_
      refine xVF (e_len Try.underlying22 (q1 rfl)) rfl rfl rfl rfl ?_
      refine xVF (e_ge (q1 rfl) (q1 rfl)) rfl rfl rfl rfl ?_
      refine xV (e_or (q0 rfl) rfl (fun h => by first | rfl | (rw [h]; rfl))) rfl rfl ?_
      refine xV (e_mv (v := .bool _) (q0 rfl)) rfl rfl ?_
      refine xVF (e_mv (v := .slice _ _ _) (q0 rfl)) rfl rfl rfl rfl ?_
      refine xVF (e_len Try.underlying49 (q1 rfl)) rfl rfl rfl rfl ?_
      refine xVF (e_eq (q1 rfl) (q0 rfl)) rfl rfl rfl rfl ?_
      refine xV (e_or (q0 rfl) rfl (fun h => by first | rfl | (rw [h]; rfl))) rfl rfl ?_
      refine xV (e_mv (v := .bool _) (q0 rfl)) rfl rfl ?_
      refine xVF (e_mv (v := .slice _ _ _) (q0 rfl)) rfl rfl rfl rfl ?_
      refine xVF (e_idx 0 Try.underlying49 Try.sizeOf63 (q1 rfl) (q0 rfl) (fun _ => ⟨rfl, by omega⟩)) rfl rfl rfl rfl ?_
      refine xVF (e_fld Try.underlying63 rfl Try.sizeOf3 rfl (q1 rfl)) rfl rfl rfl rfl ?_
      refine xVF (e_ld (v := .int .i64 x0.at_) Try.isAgg3 (q1 rfl) (by exact rr 0 (k := 2) (enc := Lv.cells) (i := 0) (r := 0) rfl hx0 rfl)) rfl rfl rfl rfl ?_
      refine xVF (e_ne (q1 rfl) (q0 rfl)) rfl rfl rfl rfl ?_
      refine xV (e_or (q0 rfl) rfl (fun h => by first | rfl | (rw [h]; rfl))) rfl rfl ?_
      refine xV (e_mv (v := .bool _) (q0 rfl)) rfl rfl ?_
      refine xVF (e_mv (v := .slice _ _ _) (q0 rfl)) rfl rfl rfl rfl ?_
      refine xVF (e_len Try.underlying49 (q1 rfl)) rfl rfl rfl rfl ?_
      refine xVF (e_mv (v := .slice _ _ _) (q0 rfl)) rfl rfl rfl rfl ?_
      refine xVF (e_len Try.underlying25 (q1 rfl)) rfl rfl rfl rfl ?_
      refine xVF (e_add (q1 rfl) (q0 rfl) (fun _ => ⟨rfl, by omega, by omega⟩)) rfl rfl rfl rfl ?_
      refine xVF (e_gt (q1 rfl) (q1 rfl)) rfl rfl rfl rfl ?_
      refine xV (e_or (q0 rfl) rfl (fun h => by first | rfl | (rw [h]; rfl))) rfl rfl ?_
      refine XN ?_
      refine thenJ_normal ?_
      refine H_cond rfl (fun h3 => ?_) (fun h3 => ?_)
      · exfalso
        have e1 := hS.first x0 hx0
        simp [e1] at h3
        rcases h3 with ((h3 | h3) | h3) | h3
        · omega
        · omega
        · exact absurd h3 (List.length_pos_iff.1 hne)
        · omega
      · refine H_skip ?_
        refine thenJ_normal ?_
        refine H_seq ?_
        refine H_seq ?_
        refine R0 ?_
        refine xV (e_as (v := .int _ _) (q0 rfl)) rfl rfl ?_
        refine XN ?_
        refine thenJ_normal ?_
        refine H_block ?_
        refine H_loop [6, 9, 10, 11, 12, 13, 73, 74, 75, 76, 77, 78, 79, 80, 81, 82, 83, 84, 85, 86, 87, 88, 89, 90, 91, 92, 93, 94, 95, 96, 97, 98, 99, 100, 101, 102, 103, 104, 105, 106, 107, 108, 109, 110, 111, 112, 113, 114, 115, 116, 117, 118, 119, 120, 121, 122, 123, 124, 125, 126, 127, 128, 129, 130, 131, 132, 133, 134, 135, 136, 137, 138, 139, 140, 141, 142, 143, 144, 145, 146, 147, 148, 149, 150, 151, 152, 153, 154, 155, 156, 157, 158, 159, 160, 161, 162, 163, 164, 165, 166, 167] (fun k : Nat => [(9, .int .i64 k)]) (fun _ => [lvRow (some ⟨sb, 0, none⟩) s2 S, box b3 24 (f.cells a)]) (fun k => k ≤ S.length) (fun k => S.length - k) 0 ⟨rfl, trivial⟩ (fun w hw => hw) rfl (Nat.zero_le _) ?_
        rintro k g hk
        refine H_seq ?_
        refine H_seq ?_
        refine R0 ?_
        refine xV (e_mv (v := .int _ _) (q0 rfl)) rfl rfl ?_
        refine xV (e_mv (v := .slice _ _ _) (q0 rfl)) rfl rfl ?_
        refine xV (e_len Try.underlying49 (q0 rfl)) rfl rfl ?_
        refine xV (e_lt (q0 rfl) (q0 rfl)) rfl rfl ?_
        refine XN ?_
        refine thenJ_normal ?_
        refine H_cond rfl (fun hlt => ?_) (fun hlt => ?_)
        · have hlt' : k < S.length := by simpa using hlt
          obtain ⟨y, hyk⟩ : ∃ y, S[k]? = some y := ⟨_, List.getElem?_eq_getElem hlt'⟩
          obtain ⟨hy0, hyM, hyv, hyc0, hycM⟩ := hS.each k y hyk
          refine H_skip ?_
          refine thenJ_normal ?_
          refine H_seq ?_
          refine H_block ?_
          refine H_seq ?_
          refine H_seq ?_
          refine H_cut [79, 80, 81, 82, 83, 84, 85, 86, 87, 88, 89, 90, 91, 92, 93, 94, 95, 96, 97, 98, 99, 100, 101, 102, 103, 104, 105, 106, 107, 108, 109, 110, 111, 112, 113, 114, 115, 116, 117, 118, 119, 120, 121, 122, 123, 124, 125, 126, 127, 128, 129] (fun _ : Unit => [(129, .bool false)]) (fun _ => [lvRow (some ⟨sb, 0, none⟩) s2 S, box b3 24 (f.cells a)]) (fun _ => True) ?_ ?_
          · have _ht : True := trivial
            cases k with
            | zero =>
              refine R1 rfl (by decide +kernel) ?_
              refine xV (e_mv (v := .slice _ _ _) (q0 rfl)) rfl rfl ?_
              refine xV (e_mv (v := .int _ _) (q0 rfl)) rfl rfl ?_
              refine xV (e_idx _ Try.underlying49 Try.sizeOf63 (q0 rfl) (q0 rfl) (fun _ => ⟨rfl, by omega⟩)) rfl rfl ?_
              refine xV (e_fld Try.underlying63 rfl Try.sizeOf3 rfl (q0 rfl)) rfl rfl ?_
              refine xV (eL Try.isAgg3 (q0 rfl)) rfl rfl ?_
              refine xV (e_lt (q0 rfl) (q0 rfl)) rfl rfl ?_
              refine xV (e_mv (v := .bool _) (q0 rfl)) rfl rfl ?_
              refine xVF (e_mv (v := .slice _ _ _) (q0 rfl)) rfl rfl rfl rfl ?_
              refine xVF (e_mv (v := .int _ _) (q0 rfl)) rfl rfl rfl rfl ?_
              refine xVF (e_idx _ Try.underlying49 Try.sizeOf63 (q1 rfl) (q1 rfl) (fun _ => ⟨rfl, by omega⟩)) rfl rfl rfl rfl ?_
              refine xVF (e_fld Try.underlying63 rfl Try.sizeOf3 rfl (q1 rfl)) rfl rfl rfl rfl ?_
              refine xVF (eL Try.isAgg3 (q1 rfl)) rfl rfl rfl rfl ?_
              refine xVF (e_fld Try.underlying24 rfl Try.sizeOf22 rfl (q0 rfl)) rfl rfl rfl rfl ?_
              refine xVF (e_ld (v := .slice (some ⟨tb, toff, none⟩) a.tn a.tc) Try.isAgg22 (q1 rfl) (bx 1 (i := 4) rfl (by show some (Value.slice a.tA a.tn a.tc) = _; rw [htA]))) rfl rfl rfl rfl ?_
              refine xVF (e_mv (v := .int _ _) (q0 rfl)) rfl rfl rfl rfl ?_
              refine xVF (e_idx tk Try.underlying22 Try.sizeOf3 (q1 rfl) (q1 rfl) (fun _ => ⟨rfl, hpt⟩)) rfl rfl rfl rfl ?_
              refine xVF (eL Try.isAgg3 (q1 rfl)) rfl rfl rfl rfl ?_
              refine xVF (e_gt (q1 rfl) (q1 rfl)) rfl rfl rfl rfl ?_
              refine xV (e_or (q0 rfl) rfl (fun h => by first | rfl | (rw [h]; rfl))) rfl rfl ?_
              refine xV (e_mv (v := .bool _) (q0 rfl)) rfl rfl ?_
              refine xVF (e_mv (v := .int _ _) (q0 rfl)) rfl rfl rfl rfl ?_
              refine xVF (e_gt (q1 rfl) (q0 rfl)) rfl rfl rfl rfl ?_
              refine xVF (e_mv (v := .bool _) (q1 rfl)) rfl rfl rfl rfl ?_
              refine xVT2 (e_dead (v := .slice none 0 0) (by simp)) rfl rfl rfl rfl ?_
              refine xVT2 (e_dead (v := .int .i64 0) (by simp)) rfl rfl rfl rfl ?_
              refine xVT2 (e_dead (v := .pointer none) (by simp)) rfl rfl rfl rfl ?_
              refine xVT2 (e_dead (v := .pointer none) (by simp)) rfl rfl rfl rfl ?_
              refine xVT2 (e_dead (v := .int .i64 0) (by simp)) rfl rfl rfl rfl ?_
              refine xVT2 (e_dead (v := .slice none 0 0) (by simp)) rfl rfl rfl rfl ?_
              refine xVT2 (e_dead (v := .int .i64 0) (by simp)) rfl rfl rfl rfl ?_
              refine xVT2 (e_dead (v := .int .i64 0) (by simp)) rfl rfl rfl rfl ?_
              refine xVT2 (e_dead (v := .pointer none) (by simp)) rfl rfl rfl rfl ?_
              refine xVT2 (e_dead (v := .pointer none) (by simp)) rfl rfl rfl rfl ?_
              refine xVT2 (e_dead (v := .int .i64 0) (by simp)) rfl rfl rfl rfl ?_
              refine xVT2 (e_dead (v := .bool false) (by simp)) rfl rfl rfl rfl ?_
              refine xVT2 (e_dead (v := .bool false) (by simp)) rfl rfl rfl rfl ?_
              refine xVF2 (e_dead (v := .slice none 0 0) (by simp)) rfl rfl rfl rfl ?_
              refine xVF2 (e_dead (v := .int .i64 0) (by simp)) rfl rfl rfl rfl ?_
              refine xVF2 (e_dead (v := .pointer none) (by simp)) rfl rfl rfl rfl ?_
              refine xVF2 (e_dead (v := .pointer none) (by simp)) rfl rfl rfl rfl ?_
              refine xVF2 (e_dead (v := .int .i64 0) (by simp)) rfl rfl rfl rfl ?_
              refine xVF2 (e_dead (v := .slice none 0 0) (by simp)) rfl rfl rfl rfl ?_
              refine xVF2 (e_dead (v := .int .i64 0) (by simp)) rfl rfl rfl rfl ?_
              refine xVF2 (e_dead (v := .int .i64 0) (by simp)) rfl rfl rfl rfl ?_
              refine xVF2 (e_dead (v := .pointer none) (by simp)) rfl rfl rfl rfl ?_
              refine xVF2 (e_dead (v := .pointer none) (by simp)) rfl rfl rfl rfl ?_
              refine xVF2 (e_dead (v := .int .i64 0) (by simp)) rfl rfl rfl rfl ?_
              refine xVF2 (e_dead (v := .bool false) (by simp)) rfl rfl rfl rfl ?_
              refine xVT2 (e_dead (v := .bool false) (by simp)) rfl rfl rfl rfl ?_
              refine xVF (e_and (q1 rfl) rfl (fun h => by first | rfl | (rw [h]; rfl))) rfl rfl rfl rfl ?_
              refine xV (e_or (q0 rfl) rfl (fun h => by first | rfl | (rw [h]; rfl))) rfl rfl ?_
              refine XN ?_
              exact cutJ_normal () (by repeat (first | exact agree_self | exact agree_over | refine agree_upd rfl ?_ | refine agree_updL rfl ?_ | refine agree_over2 rfl ?_)) ⟨by show Value.bool _ = Value.bool false; simp; omega, trivial⟩ (fun w hw => hw) rfl trivial
            | succ k =>
              obtain ⟨z, hzk⟩ : ∃ z, S[k]? = some z := ⟨_, List.getElem?_eq_getElem (by omega)⟩
              have hnx := hS.next k y z hzk hyk
              refine R1 rfl (by decide +kernel) ?_
              refine xV (e_mv (v := .slice _ _ _) (q0 rfl)) rfl rfl ?_
              refine xV (e_mv (v := .int _ _) (q0 rfl)) rfl rfl ?_
              refine xV (e_idx _ Try.underlying49 Try.sizeOf63 (q0 rfl) (q0 rfl) (fun _ => ⟨rfl, by omega⟩)) rfl rfl ?_
              refine xV (e_fld Try.underlying63 rfl Try.sizeOf3 rfl (q0 rfl)) rfl rfl ?_
              refine xV (eL Try.isAgg3 (q0 rfl)) rfl rfl ?_
              refine xV (e_lt (q0 rfl) (q0 rfl)) rfl rfl ?_
              refine xV (e_mv (v := .bool _) (q0 rfl)) rfl rfl ?_
              refine xVF (e_mv (v := .slice _ _ _) (q0 rfl)) rfl rfl rfl rfl ?_
              refine xVF (e_mv (v := .int _ _) (q0 rfl)) rfl rfl rfl rfl ?_
              refine xVF (e_idx _ Try.underlying49 Try.sizeOf63 (q1 rfl) (q1 rfl) (fun _ => ⟨rfl, by omega⟩)) rfl rfl rfl rfl ?_
              refine xVF (e_fld Try.underlying63 rfl Try.sizeOf3 rfl (q1 rfl)) rfl rfl rfl rfl ?_
              refine xVF (eL Try.isAgg3 (q1 rfl)) rfl rfl rfl rfl ?_
              refine xVF (e_fld Try.underlying24 rfl Try.sizeOf22 rfl (q0 rfl)) rfl rfl rfl rfl ?_
              refine xVF (e_ld (v := .slice (some ⟨tb, toff, none⟩) a.tn a.tc) Try.isAgg22 (q1 rfl) (bx 1 (i := 4) rfl (by show some (Value.slice a.tA a.tn a.tc) = _; rw [htA]))) rfl rfl rfl rfl ?_
              refine xVF (e_mv (v := .int _ _) (q0 rfl)) rfl rfl rfl rfl ?_
              refine xVF (e_idx tk Try.underlying22 Try.sizeOf3 (q1 rfl) (q1 rfl) (fun _ => ⟨rfl, hpt⟩)) rfl rfl rfl rfl ?_
              refine xVF (eL Try.isAgg3 (q1 rfl)) rfl rfl rfl rfl ?_
              refine xVF (e_gt (q1 rfl) (q1 rfl)) rfl rfl rfl rfl ?_
              refine xV (e_or (q0 rfl) rfl (fun h => by first | rfl | (rw [h]; rfl))) rfl rfl ?_
              refine xV (e_mv (v := .bool _) (q0 rfl)) rfl rfl ?_
              refine xVF (e_mv (v := .int _ _) (q0 rfl)) rfl rfl rfl rfl ?_
              refine xVF (e_gt (q1 rfl) (q0 rfl)) rfl rfl rfl rfl ?_
              refine xVF (e_mv (v := .bool _) (q1 rfl)) rfl rfl rfl rfl ?_
              refine xVT2 (e_mv (v := .slice _ _ _) (q0 rfl)) rfl rfl rfl rfl ?_
              refine xVT2 (e_mv (v := .int _ _) (q0 rfl)) rfl rfl rfl rfl ?_
              refine xVT2 (e_idx _ Try.underlying49 Try.sizeOf63 (q1 rfl) (q1 rfl) (fun _ => ⟨rfl, by omega⟩)) rfl rfl rfl rfl ?_
              refine xVT2 (e_fld Try.underlying63 rfl Try.sizeOf3 rfl (q1 rfl)) rfl rfl rfl rfl ?_
              refine xVT2 (eL Try.isAgg3 (q1 rfl)) rfl rfl rfl rfl ?_
              refine xVT2 (e_mv (v := .slice _ _ _) (q0 rfl)) rfl rfl rfl rfl ?_
              refine xVT2 (e_mv (v := .int _ _) (q0 rfl)) rfl rfl rfl rfl ?_
              refine xVT2 (e_sub (q1 rfl) (q0 rfl) (fun _ => ⟨rfl, by omega, by omega⟩)) rfl rfl rfl rfl ?_
              refine xVT2 (e_idx k Try.underlying49 Try.sizeOf63 (q1 rfl) (q1 rfl) (fun _ => ⟨by omega, by omega⟩)) rfl rfl rfl rfl ?_
              refine xVT2 (e_fld Try.underlying63 rfl Try.sizeOf3 rfl (q1 rfl)) rfl rfl rfl rfl ?_
              refine xVT2 (eL Try.isAgg3 (q1 rfl)) rfl rfl rfl rfl ?_
              refine xVT2 (e_le (q1 rfl) (q1 rfl)) rfl rfl rfl rfl ?_
              refine xVT2 (e_mv (v := .bool _) (q1 rfl)) rfl rfl rfl rfl ?_
              refine xVF2 (e_mv (v := .slice _ _ _) (q0 rfl)) rfl rfl rfl rfl ?_
              refine xVF2 (e_mv (v := .int _ _) (q0 rfl)) rfl rfl rfl rfl ?_
              refine xVF2 (e_idx _ Try.underlying49 Try.sizeOf63 (q1 rfl) (q1 rfl) (fun _ => ⟨rfl, by omega⟩)) rfl rfl rfl rfl ?_
              refine xVF2 (e_fld Try.underlying63 rfl Try.sizeOf3 rfl (q1 rfl)) rfl rfl rfl rfl ?_
              refine xVF2 (eL Try.isAgg3 (q1 rfl)) rfl rfl rfl rfl ?_
              refine xVF2 (e_mv (v := .slice _ _ _) (q0 rfl)) rfl rfl rfl rfl ?_
              refine xVF2 (e_mv (v := .int _ _) (q0 rfl)) rfl rfl rfl rfl ?_
              refine xVF2 (e_sub (q1 rfl) (q0 rfl) (fun _ => ⟨rfl, by omega, by omega⟩)) rfl rfl rfl rfl ?_
              refine xVF2 (e_idx k Try.underlying49 Try.sizeOf63 (q1 rfl) (q1 rfl) (fun _ => ⟨by omega, by omega⟩)) rfl rfl rfl rfl ?_
              refine xVF2 (e_fld Try.underlying63 rfl Try.sizeOf3 rfl (q1 rfl)) rfl rfl rfl rfl ?_
              refine xVF2 (eL Try.isAgg3 (q1 rfl)) rfl rfl rfl rfl ?_
              refine xVF2 (e_eq (q1 rfl) (q1 rfl)) rfl rfl rfl rfl ?_
              refine xVT2 (e_or (q1 rfl) rfl (fun h => by first | rfl | (rw [h]; rfl))) rfl rfl rfl rfl ?_
              refine xVF (e_and (q1 rfl) rfl (fun h => by first | rfl | (rw [h]; rfl))) rfl rfl rfl rfl ?_
              refine xV (e_or (q0 rfl) rfl (fun h => by first | rfl | (rw [h]; rfl))) rfl rfl ?_
              refine XN ?_
              exact cutJ_normal () (by repeat (first | exact agree_self | exact agree_over | refine agree_upd rfl ?_ | refine agree_updL rfl ?_ | refine agree_over2 rfl ?_)) ⟨by show Value.bool _ = Value.bool false; simp; omega, trivial⟩ (fun w hw => hw) rfl trivial
          · intro _ g2 _
            refine thenJ_normal ?_
            refine H_cond rfl (fun hb => ?_) (fun hb => ?_)
            · cases hb
            · obtain ⟨sp, hsp⟩ : ∃ sp, sp = (stAtT f xs y.at_).spots := ⟨_, rfl⟩
              have hspl : sp.length = nbOf f := by rw [hsp]; exact (st_ainv hok xs y.at_).2
              have hspa : ∀ b, b < nbOf f → atErr f b y.at_ = 0 ∧ sp[b]? = some (atOf f xs b y.at_) := fun b hb => by rw [hsp]; exact at_spot hok hb ⟨hy0, hyM⟩ xs
              have hcn : (countP sp 4 tk : Int) = y.count := by rw [hsp]; exact hyv
              clear hsp
              refine H_skip ?_
              refine thenJ_normal ?_
              refine H_seq ?_
              refine R0 ?_
              refine xV (e_as (v := .int _ _) (q0 rfl)) rfl rfl ?_
              refine XN ?_
              refine thenJ_normal ?_
              refine H_seq ?_
              refine H_seq ?_
              refine R0 ?_
              refine xV (e_as (v := .int _ _) (q0 rfl)) rfl rfl ?_
              refine XN ?_
              refine thenJ_normal ?_
              refine H_block ?_
              refine H_loop [6, 10, 11, 12, 13, 130, 131, 132, 133, 134, 135, 136, 137, 138, 139, 140, 141, 142, 143, 144, 145, 146, 147, 148, 149, 150, 151, 152, 153, 154, 155, 156, 157, 158, 159, 160] (fun b : Nat => [(11, .int .i64 b), (10, .int .i64 (countP (sp.take b) 4 tk))]) (fun _ => [lvRow (some ⟨sb, 0, none⟩) s2 S, box b3 24 (f.cells a)]) (fun b => b ≤ nbOf f ∧ countP (sp.take b) 4 tk ≤ b) (fun b => nbOf f - b) 0 ⟨rfl, rfl, trivial⟩ (fun w hw => hw) rfl ⟨Nat.zero_le _, Nat.le_refl _⟩ ?_
              rintro b g3 ⟨hbn, hbc⟩
              refine H_seq ?_
              refine H_seq ?_
              refine R0 ?_
              refine xV (e_mv (v := .int _ _) (q0 rfl)) rfl rfl ?_
              refine xV (e_fld Try.underlying24 rfl Try.sizeOf3 rfl (q0 rfl)) rfl rfl ?_
              refine xV (eL Try.isAgg3 (q0 rfl)) rfl rfl ?_
              refine xV (e_lt (q0 rfl) (q0 rfl)) rfl rfl ?_
              refine XN ?_
              refine thenJ_normal ?_
              refine H_cond rfl (fun hlb => ?_) (fun hlb => ?_)
              · have hlb' : b < nbOf f := by simp at hlb; omega
                obtain ⟨hae, hab⟩ := hspa b hlb'
                have hs := countP_snoc sp 4 tk b _ hab
                refine H_skip ?_
                refine thenJ_normal ?_
                refine H_seq ?_
                refine H_block ?_
                refine H_seq ?_
                refine RA rfl (by decide +kernel) ?_
                refine aV 0 (by decide +kernel) rfl (eS Try.isAgg24 Try.sizeOf24 (q0 rfl)) rfl ?_
                refine aV 1 (by decide +kernel) rfl (e_mv (v := .slice _ _ _) (q0 rfl)) rfl ?_
                refine aV 2 (by decide +kernel) rfl (e_mv (v := .int _ _) (q0 rfl)) rfl ?_
                refine aV 3 (by decide +kernel) rfl (e_mv (v := .slice _ _ _) (q0 rfl)) rfl ?_
                refine aV 4 (by decide +kernel) rfl (e_mv (v := .int _ _) (q0 rfl)) rfl ?_
                refine aV 5 (by decide +kernel) rfl (e_idx _ Try.underlying49 Try.sizeOf63 (q0 rfl) (q0 rfl) (fun _ => ⟨rfl, by omega⟩)) rfl ?_
                refine aV 6 (by decide +kernel) rfl (e_fld Try.underlying63 rfl Try.sizeOf3 rfl (q0 rfl)) rfl ?_
                refine aV 7 (by decide +kernel) rfl (eL Try.isAgg3 (q0 rfl)) rfl ?_
                refine aC 8 (by decide +kernel) rfl (en Try.call22 (ha4 (q0 rfl) (q0 rfl) (q0 rfl) (q0 rfl))) (fun _ w hw => at_w f a A n c xs b y.at_ w (hf.mem hw) (hx.mem hw) (by omega) hpl) rfl ?_
                refine aV 9 (by decide +kernel) rfl (e_mv (q0 rfl)) rfl ?_
                refine aV 10 (by decide +kernel) rfl (e_ext (q0 rfl) rfl) rfl ?_
                refine aV 11 (by decide +kernel) rfl (e_ext (q0 rfl) rfl) rfl ?_
                refine rdy1 (i := 12) (by decide +kernel) (sub_drop 0) ?_
                refine aL rfl (f_alloc Try.zeroValue41 rfl fun b12 => ?_)
                refine rdy1 (i := 13) (by decide +kernel) (sub_drop 1) ?_
                refine aL rfl (f_st (v := .agg _) rfl rfl Try.sizeOf41 ?_)
                refine aRL (sub_drop 1) ?_
                refine aV 14 (by decide +kernel) rfl (e_as (v := .int _ _) (q0 rfl)) rfl ?_
                refine aZ (by decide +kernel) (sub_drop 0) ?_
                refine thenJ_normal ?_
                refine H_seq ?_
                refine H_seq ?_
                refine R0 ?_
                refine xV (e_mv (v := .int _ _) (q0 rfl)) rfl rfl ?_
                refine xV (e_ne (q0 rfl) (q0 rfl)) rfl rfl ?_
                refine XN ?_
                refine thenJ_normal ?_
                refine H_cond rfl (fun h5 => ?_) (fun h5 => ?_)
                · exact absurd hae (by simpa using h5)
                · refine H_skip ?_
                  refine thenJ_normal ?_
                  refine H_seq ?_
                  refine R0 ?_
                  refine xV (e_fld Try.underlying41 rfl Try.sizeOf3 rfl (q0 rfl)) rfl rfl ?_
                  refine xV (eL Try.isAgg3 (q0 rfl)) rfl rfl ?_
                  refine xV (e_eq (q0 rfl) (q0 rfl)) rfl rfl ?_
                  refine xV (e_mv (v := .bool _) (q0 rfl)) rfl rfl ?_
                  refine xVT (e_fld Try.underlying41 rfl Try.sizeOf3 rfl (q0 rfl)) rfl rfl rfl rfl ?_
                  refine xVT (eL Try.isAgg3 (q1 rfl)) rfl rfl rfl rfl ?_
                  refine xVT (e_mv (v := .int _ _) (q0 rfl)) rfl rfl rfl rfl ?_
                  refine xVT (e_eq (q1 rfl) (q1 rfl)) rfl rfl rfl rfl ?_
                  refine xV (e_and (q0 rfl) rfl (fun h => by first | rfl | (rw [h]; rfl))) rfl rfl ?_
                  refine XN ?_
                  refine thenJ_normal ?_
                  refine H_cond rfl (fun hc => ?_) (fun hc => ?_)
                  · have hs2 : countP (sp.take (b + 1)) 4 tk = countP (sp.take b) 4 tk + 1 := by rw [hs, if_pos (by unfold atP; exact hc)]
                    refine R0 ?_
                    refine xV (e_mv (v := .int _ _) (q0 rfl)) rfl rfl ?_
                    refine xV (e_add (q0 rfl) (q0 rfl) (fun _ => ⟨rfl, by omega, by omega⟩)) rfl rfl ?_
                    refine xV (e_as (v := .int _ _) (q0 rfl)) rfl rfl ?_
                    refine XN ?_
                    refine blockJ_normal ?_
                    refine thenJ_normal ?_
                    refine R0 ?_
                    refine xV (e_mv (v := .int _ _) (q0 rfl)) rfl rfl ?_
                    refine xV (e_add (q0 rfl) (q0 rfl) (fun _ => ⟨rfl, by omega, by omega⟩)) rfl rfl ?_
                    refine xV (e_as (v := .int _ _) (q0 rfl)) rfl rfl ?_
                    refine XN ?_
                    exact loopJ_normal (b + 1) (by repeat (first | exact agree_self | exact agree_over | refine agree_upd rfl ?_ | refine agree_updL rfl ?_ | refine agree_over2 rfl ?_)) ⟨rfl, by show _ = Value.int .i64 (countP (sp.take (b + 1)) 4 tk : Int); rw [hs2]; rfl, trivial⟩ (fun w hw => hw.tail) rfl ⟨by omega, by omega⟩ (by show nbOf f - (b + 1) < nbOf f - b; omega)
                  · have hs2 : countP (sp.take (b + 1)) 4 tk = countP (sp.take b) 4 tk := by rw [hs, if_neg (by unfold atP; rw [hc]; decide), Nat.add_zero]
                    refine H_skip ?_
                    refine blockJ_normal ?_
                    refine thenJ_normal ?_
                    refine R0 ?_
                    refine xV (e_mv (v := .int _ _) (q0 rfl)) rfl rfl ?_
                    refine xV (e_add (q0 rfl) (q0 rfl) (fun _ => ⟨rfl, by omega, by omega⟩)) rfl rfl ?_
                    refine xV (e_as (v := .int _ _) (q0 rfl)) rfl rfl ?_
                    refine XN ?_
                    exact loopJ_normal (b + 1) (by repeat (first | exact agree_self | exact agree_over | refine agree_upd rfl ?_ | refine agree_updL rfl ?_ | refine agree_over2 rfl ?_)) ⟨rfl, by show _ = Value.int .i64 (countP (sp.take (b + 1)) 4 tk : Int); rw [hs2]; rfl, trivial⟩ (fun w hw => hw.tail) rfl ⟨by omega, by omega⟩ (by show nbOf f - (b + 1) < nbOf f - b; omega)
              · have hend : b = nbOf f := by simp at hlb; omega
                subst hend
                rw [← hspl, List.take_length]
                refine H_exit ?_
                refine thenJ_exit ?_
                refine loopJ_exit ?_
                refine blockJ_hit ?_
                refine thenJ_normal ?_
                refine H_seq ?_
                refine R0 ?_
                refine xV (e_mv (v := .int _ _) (q0 rfl)) rfl rfl ?_
                refine xV (e_mv (v := .slice _ _ _) (q0 rfl)) rfl rfl ?_
                refine xV (e_mv (v := .int _ _) (q0 rfl)) rfl rfl ?_
                refine xV (e_idx _ Try.underlying49 Try.sizeOf63 (q0 rfl) (q0 rfl) (fun _ => ⟨rfl, by omega⟩)) rfl rfl ?_
                refine xV (e_fld Try.underlying63 rfl Try.sizeOf3 rfl (q0 rfl)) rfl rfl ?_
                refine xV (eL Try.isAgg3 (q0 rfl)) rfl rfl ?_
                refine xV (e_ne (q0 rfl) (q0 rfl)) rfl rfl ?_
                refine XN ?_
                refine thenJ_normal ?_
                refine H_cond rfl (fun hb2 => ?_) (fun hb2 => ?_)
                · exfalso
                  simp [hcn] at hb2
                · refine H_skip ?_
                  refine blockJ_normal ?_
                  refine thenJ_normal ?_
                  refine R0 ?_
                  refine xV (e_mv (v := .int _ _) (q0 rfl)) rfl rfl ?_
                  refine xV (e_add (q0 rfl) (q0 rfl) (fun _ => ⟨rfl, by omega, by omega⟩)) rfl rfl ?_
                  refine xV (e_as (v := .int _ _) (q0 rfl)) rfl rfl ?_
                  refine XN ?_
                  exact loopJ_normal (k + 1) (by repeat (first | exact agree_self | exact agree_over | refine agree_upd rfl ?_ | refine agree_updL rfl ?_ | refine agree_over2 rfl ?_)) ⟨rfl, trivial⟩ (fun w hw => hw) rfl (by show k + 1 ≤ _; omega) (by show S.length - (k + 1) < S.length - k; omega)
        · refine H_exit ?_
          refine thenJ_exit ?_
          refine loopJ_exit ?_
          refine blockJ_hit ?_
          refine thenJ_normal ?_
          refine H_seq ?_
          refine R0 ?_
          refine xC (en Try.call13 (ha0)) (fun _ w _ => awake_w w) rfl rfl ?_
          refine xV (e_as (v := .bool _) (q0 rfl)) rfl rfl ?_
          refine XN ?_
          refine thenJ_normal ?_
          refine H_ret ?_
          exact ret1 (v := .bool _) rfl rfl rfl fun w' hw => ⟨rfl, hw.1⟩

end Go.Proofs.Cus
