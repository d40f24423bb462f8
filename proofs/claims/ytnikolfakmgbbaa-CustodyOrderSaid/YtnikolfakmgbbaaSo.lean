/-
  Plain facts: the order of events; the set of events (no program in sight).
-/
import Derived.Test.YtnikolfakmgbbaaSpec
import Derived.Sort.Statements
namespace Go.Proofs.Cus
open Go.Sort

deriving instance DecidableEq, Inhabited for Ev

def cmpI (a b : Int) : Int := if a < b then -1 else if b < a then 1 else 0
def lexCmp : List Int → List Int → Int
  | a :: l, b :: r => if cmpI a b ≠ 0 then cmpI a b else lexCmp l r
  | _, _ => 0
def Ev.keys (e : Ev) : List Int := [e.at_, e.device, e.seq, e.late, e.kind, e.bike, e.place, e.rider, e.ride]
def evCmp (a b : Ev) : Int := lexCmp a.keys b.keys
def orI (l : List Int) : Int := (l.find? (fun x => decide (x ≠ 0))).getD 0
def setCmp (a b : Ev) : Int := orI [cmpI a.device b.device, cmpI a.seq b.seq, evCmp a b]
def lexLt : List Int → List Int → Bool
  | a :: l, b :: r => if a ≠ b then decide (a < b) else lexLt l r
  | _, _ => false
def evLess (a b : Ev) : Bool := lexLt a.keys b.keys
def sameNum (a b : Ev) : Bool := [a.device, a.seq] == [b.device, b.seq]

theorem lexLt_irrefl : ∀ l, lexLt l l = false
  | [] => rfl
  | a :: l => by simp [lexLt, lexLt_irrefl l]
theorem lexLt_trans : ∀ {a b c : List Int}, a.length = b.length → b.length = c.length → lexLt a b = true → lexLt b c = true → lexLt a c = true
  | [], [], [], _, _, h, _ => by simp [lexLt] at h
  | x :: a, y :: b, z :: c, h1, h2, h3, h4 => by
    simp only [List.length_cons, Nat.add_right_cancel_iff] at h1 h2
    simp only [lexLt] at h3 h4 ⊢
    by_cases e1 : x = y
    · subst e1
      simp only [ne_eq, not_true, if_false] at h3
      by_cases e2 : x = z
      · subst e2
        simp only [ne_eq, not_true, if_false] at h4 ⊢
        exact lexLt_trans h1 h2 h3 h4
      · simp only [ne_eq, e2, not_false_eq_true, if_true] at h4 ⊢
        exact h4
    · simp only [ne_eq, e1, not_false_eq_true, if_true, decide_eq_true_eq] at h3
      by_cases e2 : y = z
      · subst e2
        simp only [ne_eq, e1, not_false_eq_true, if_true, decide_eq_true_eq]
        exact h3
      · simp only [ne_eq, e2, not_false_eq_true, if_true, decide_eq_true_eq] at h4
        have e3 : x ≠ z := by omega
        simp only [ne_eq, e3, not_false_eq_true, if_true, decide_eq_true_eq]
        omega
  | [], [], _ :: _, _, h, _, _ => by simp at h
  | [], _ :: _, _, h, _, _, _ => by simp at h
  | _ :: _, [], _, h, _, _, _ => by simp at h
  | _ :: _, _ :: _, [], _, h, _, _ => by simp at h
theorem lexLt_total : ∀ {a b : List Int}, a.length = b.length → lexLt a b = false → lexLt b a = false → a = b
  | [], [], _, _, _ => rfl
  | x :: a, y :: b, h1, h2, h3 => by
    simp only [List.length_cons, Nat.add_right_cancel_iff] at h1
    simp only [lexLt] at h2 h3
    by_cases e : x = y
    · subst e
      simp only [ne_eq, not_true, if_false] at h2 h3
      rw [lexLt_total h1 h2 h3]
    · simp only [ne_eq, e, not_false_eq_true, if_true, decide_eq_false_iff_not, Ne.symm e] at h2 h3
      omega
  | [], _ :: _, h, _, _ => by simp at h
  | _ :: _, [], h, _, _ => by simp at h
theorem swo_key {α : Type} (key : α → List Int) (n : Nat) (hn : ∀ x, (key x).length = n) : SWO (fun x y => lexLt (key x) (key y)) where
  irrefl x := lexLt_irrefl _
  trans x y z h1 h2 := lexLt_trans (by rw [hn, hn]) (by rw [hn, hn]) h1 h2
  ntrans x y z h1 h2 := by
    cases h : lexLt (key x) (key z) with
    | false => rfl
    | true =>
      cases h3 : lexLt (key y) (key x) with
      | true =>
        have := lexLt_trans (by rw [hn, hn]) (by rw [hn, hn]) h3 h
        rw [h2] at this; cases this
      | false =>
        have := lexLt_total (by rw [hn, hn]) h1 h3
        rw [this] at h
        rw [h2] at h; cases h
theorem lexCmp_lt : ∀ (a b : List Int), decide (lexCmp a b < 0) = lexLt a b
  | [], [] => rfl
  | [], _ :: _ => rfl
  | _ :: _, [] => rfl
  | x :: a, y :: b => by
    simp only [lexCmp, lexLt, cmpI]
    by_cases h1 : x < y
    · have : x ≠ y := by omega
      simp [h1, this]
    · by_cases h2 : y < x
      · have : x ≠ y := by omega
        simp [h1, h2, this]
      · have : x = y := by omega
        subst this
        simp [lexCmp_lt a b]
def Ev.keys2 (e : Ev) : List Int := e.device :: e.seq :: e.keys
theorem setCmp_lt (a b : Ev) : decide (setCmp a b < 0) = lexLt a.keys2 b.keys2 := by
  have h3 := lexCmp_lt a.keys b.keys
  simp only [setCmp, Ev.keys2, lexLt, orI, evCmp, cmpI]
  by_cases h1 : a.device < b.device
  · have : a.device ≠ b.device := by omega
    simp [h1, this]
  · by_cases h2 : b.device < a.device
    · have : a.device ≠ b.device := by omega
      simp [h1, h2, this]
    · have : a.device = b.device := by omega
      simp only [this, Int.lt_irrefl, if_false, ne_eq, not_true]
      by_cases h4 : a.seq < b.seq
      · have : a.seq ≠ b.seq := by omega
        simp [h4, this]
      · by_cases h5 : b.seq < a.seq
        · have : a.seq ≠ b.seq := by omega
          simp [h4, h5, this]
        · have : a.seq = b.seq := by omega
          simp only [this, Int.lt_irrefl, if_false, ne_eq, not_true]
          rw [← h3]
          by_cases h6 : lexCmp a.keys b.keys = 0 <;> simp [h6]
theorem keys_inj {a b : Ev} (h : a.keys = b.keys) : a = b := by
  cases a; cases b
  simp only [Ev.keys, List.cons.injEq, and_true] at h
  obtain ⟨rfl, rfl, rfl, rfl, rfl, rfl, rfl, rfl, rfl⟩ := h
  rfl
theorem keys2_inj {a b : Ev} (h : a.keys2 = b.keys2) : a = b := keys_inj (by simp only [Ev.keys2, List.cons.injEq] at h; exact h.2.2)

theorem less_irrefl (a : Ev) : evLess a a = false := lexLt_irrefl _
theorem less_trans {a b c : Ev} (h1 : evLess a b = true) (h2 : evLess b c = true) : evLess a c = true := lexLt_trans (a := a.keys) (b := b.keys) (c := c.keys) rfl rfl h1 h2
theorem less_total {a b : Ev} (h1 : evLess a b = false) (h2 : evLess b a = false) : a = b := keys_inj (lexLt_total rfl h1 h2)
theorem less_asymm {a b : Ev} (h1 : evLess a b = true) : evLess b a = false := by
  cases h : evLess b a with
  | false => rfl
  | true => have := less_trans h1 h; rw [less_irrefl] at this; cases this
theorem same_iff {a b : Ev} : sameNum a b = true ↔ a.device = b.device ∧ a.seq = b.seq := by simp [sameNum]
theorem same_refl (a : Ev) : sameNum a a = true := same_iff.2 ⟨rfl, rfl⟩
theorem same_symm {a b : Ev} (h : sameNum a b = true) : sameNum b a = true := by rw [same_iff] at *; omega
theorem same_trans {a b c : Ev} (h : sameNum a b = true) (h2 : sameNum b c = true) : sameNum a c = true := by rw [same_iff] at *; omega
theorem same_comm (a b : Ev) : sameNum a b = sameNum b a := by
  cases h : sameNum a b with
  | true => rw [same_symm h]
  | false => cases h2 : sameNum b a with
    | false => rfl
    | true => rw [same_symm h2] at h; cases h

/-- s is the set of the events of l -/
structure IsSet (l s : List Ev) : Prop where
  sorted : s.Pairwise (fun a b => evLess a b = true)
  mem : ∀ e, e ∈ s ↔ e ∈ l ∧ ∀ e' ∈ l, sameNum e e' = true → evLess e' e = false
theorem strict_unique : ∀ {s t : List Ev}, s.Pairwise (fun a b => evLess a b = true) → t.Pairwise (fun a b => evLess a b = true) → (∀ e, e ∈ s ↔ e ∈ t) → s = t
  | [], [], _, _, _ => rfl
  | [], b :: t, _, _, h => by have := (h b).2 (by simp); simp at this
  | a :: s, [], _, _, h => by have := (h a).1 (by simp); simp at this
  | a :: s, b :: t, hs, ht, h => by
    rw [List.pairwise_cons] at hs ht
    have hab : a = b := by
      have h1 := (h a).1 (by simp)
      have h2 := (h b).2 (by simp)
      rcases List.mem_cons.1 h1 with h1 | h1
      · exact h1
      · rcases List.mem_cons.1 h2 with h2 | h2
        · exact h2.symm
        · have := less_asymm (ht.1 a h1)
          rw [hs.1 b h2] at this; cases this
    subst hab
    congr 1
    refine strict_unique hs.2 ht.2 fun e => ?_
    have he := h e
    simp only [List.mem_cons] at he
    constructor
    · intro hm
      rcases he.1 (.inr hm) with rfl | h3
      · have := hs.1 e hm; rw [less_irrefl] at this; cases this
      · exact h3
    · intro hm
      rcases he.2 (.inr hm) with rfl | h3
      · have := ht.1 e hm; rw [less_irrefl] at this; cases this
      · exact h3
theorem IsSet.unique {l s t : List Ev} (h1 : IsSet l s) (h2 : IsSet l t) : s = t := strict_unique h1.sorted h2.sorted fun e => by rw [h1.mem, h2.mem]
theorem IsSet.congr {l m s : List Ev} (h : IsSet l s) (hm : ∀ e, e ∈ l ↔ e ∈ m) : IsSet m s := ⟨h.sorted, fun e => by rw [h.mem, hm]; simp only [hm]⟩

/-! the program's way -/
def compactGo {α : Type} (eq : α → α → Bool) : α → List α → List α
  | _, [] => []
  | p, y :: ys => if eq y p = true then compactGo eq y ys else y :: compactGo eq y ys
def compactF {α : Type} (eq : α → α → Bool) : List α → List α
  | [] => []
  | x :: xs => x :: compactGo eq x xs
def le1 (a b : Ev) : Bool := !lexLt b.keys2 a.keys2
def le2 (a b : Ev) : Bool := !lexLt b.keys a.keys
def setOf (l : List Ev) : List Ev := (compactF sameNum (l.mergeSort le1)).mergeSort le2

theorem le1_num {a b : Ev} (h : le1 a b = true) : a.device < b.device ∨ (a.device = b.device ∧ a.seq ≤ b.seq) := by
  simp only [le1, Ev.keys2, lexLt, Bool.not_eq_true'] at h
  by_cases h1 : b.device = a.device
  · by_cases h2 : b.seq = a.seq
    · omega
    · simp only [h1, h2, ne_eq, not_true, if_false, not_false_eq_true, if_true, decide_eq_false_iff_not] at h; omega
  · simp only [h1, ne_eq, not_false_eq_true, if_true, decide_eq_false_iff_not] at h; omega
theorem le1_same {a b : Ev} (h : le1 a b = true) (hs : sameNum a b = true) : evLess b a = false := by
  rw [same_iff] at hs
  simpa [le1, Ev.keys2, lexLt, hs.1, hs.2, evLess] using h
theorem mem_compactGo {e : Ev} : ∀ (xs : List Ev) (p : Ev), (p :: xs).Pairwise (fun a b => le1 a b = true) →
    (e ∈ compactGo sameNum p xs ↔ e ∈ xs ∧ sameNum e p = false ∧ ∀ e' ∈ xs, sameNum e e' = true → evLess e' e = false)
  | [], p, _ => by simp [compactGo]
  | y :: ys, p, hp => by
    have hp' := hp
    rw [List.pairwise_cons] at hp
    have hy := hp.2
    rw [List.pairwise_cons] at hy
    have ih := mem_compactGo (e := e) ys y hp.2
    simp only [compactGo]
    by_cases hs : sameNum y p = true
    · rw [if_pos hs, ih]
      constructor
      · rintro ⟨h1, h2, h3⟩
        refine ⟨List.mem_cons_of_mem _ h1, ?_, fun e' he' hse => ?_⟩
        · cases h : sameNum e p with
          | false => rfl
          | true => rw [same_trans h (same_symm hs)] at h2; cases h2
        · rcases List.mem_cons.1 he' with rfl | he'
          · rw [hse] at h2; cases h2
          · exact h3 e' he' hse
      · rintro ⟨h1, h2, h3⟩
        have hne : e ≠ y := fun h => by subst h; rw [hs] at h2; cases h2
        refine ⟨(List.mem_cons.1 h1).resolve_left hne, ?_, fun e' he' => h3 e' (List.mem_cons_of_mem _ he')⟩
        cases h : sameNum e y with
        | false => rfl
        | true => rw [same_trans h hs] at h2; cases h2
    · rw [if_neg hs, List.mem_cons, ih]
      constructor
      · rintro (rfl | ⟨h1, h2, h3⟩)
        · refine ⟨by simp, by simpa using hs, fun e' he' hse => ?_⟩
          rcases List.mem_cons.1 he' with rfl | he'
          · exact less_irrefl _
          · exact le1_same (hy.1 e' he') hse
        · refine ⟨List.mem_cons_of_mem _ h1, ?_, fun e' he' hse => ?_⟩
          · cases h : sameNum e p with
            | false => rfl
            | true =>
              have a1 := le1_num (hp.1 y (by simp))
              have a2 := le1_num (hy.1 e h1)
              rw [same_iff] at h
              exact absurd (same_iff.2 (by omega)) hs
          · rcases List.mem_cons.1 he' with rfl | he'
            · rw [hse] at h2; cases h2
            · exact h3 e' he' hse
      · rintro ⟨h1, h2, h3⟩
        rcases List.mem_cons.1 h1 with h1 | h1
        · exact .inl h1
        · cases h : sameNum e y with
          | false => exact .inr ⟨h1, rfl, fun e' he' => h3 e' (List.mem_cons_of_mem _ he')⟩
          | true => exact .inl (less_total (le1_same (hy.1 e h1) (same_symm h)) (h3 y (by simp) h))
theorem compactGo_apart : ∀ (xs : List Ev) (p : Ev), (p :: xs).Pairwise (fun a b => le1 a b = true) → (compactGo sameNum p xs).Pairwise (fun a b => sameNum b a = false)
  | [], p, _ => by simp [compactGo]
  | y :: ys, p, hp => by
    rw [List.pairwise_cons] at hp
    simp only [compactGo]
    split
    · exact compactGo_apart ys y hp.2
    · refine List.pairwise_cons.2 ⟨fun e he => ((mem_compactGo ys y hp.2).1 he).2.1, compactGo_apart ys y hp.2⟩
theorem le_trans_of {key : Ev → List Int} {n : Nat} (hn : ∀ x, (key x).length = n) (a b c : Ev) (h1 : (!lexLt (key b) (key a)) = true) (h2 : (!lexLt (key c) (key b)) = true) : (!lexLt (key c) (key a)) = true := by
  simp only [Bool.not_eq_true'] at *
  exact (swo_key key n hn).ntrans c b a h2 h1
theorem le_total_of {key : Ev → List Int} {n : Nat} (hn : ∀ x, (key x).length = n) (a b : Ev) : ((!lexLt (key b) (key a)) || (!lexLt (key a) (key b))) = true := by
  cases h : lexLt (key b) (key a) with
  | false => rfl
  | true =>
    cases h2 : lexLt (key a) (key b) with
    | false => rfl
    | true =>
      have := (swo_key key n hn).trans a b a h2 h
      simp only [lexLt_irrefl] at this; cases this
theorem set_isSet (l : List Ev) : IsSet l (setOf l) := by
  have hp1 : (l.mergeSort le1).Perm l := List.mergeSort_perm _ _
  have hs1 : (l.mergeSort le1).Pairwise (fun a b => le1 a b = true) := List.pairwise_mergeSort (le_trans_of (key := Ev.keys2) (n := 11) (fun _ => rfl)) (le_total_of (key := Ev.keys2) (n := 11) (fun _ => rfl)) l
  have hmem : ∀ e, e ∈ compactF sameNum (l.mergeSort le1) ↔ e ∈ l ∧ ∀ e' ∈ l, sameNum e e' = true → evLess e' e = false := by
    intro e
    have hm : ∀ x, x ∈ l ↔ x ∈ l.mergeSort le1 := fun x => (hp1.mem_iff).symm
    simp only [hm]
    revert hs1
    generalize l.mergeSort le1 = s
    intro hs1
    cases s with
    | nil => simp [compactF]
    | cons x xs =>
      simp only [compactF, List.mem_cons, mem_compactGo xs x hs1]
      have hx := (List.pairwise_cons.1 hs1).1
      constructor
      · rintro (rfl | ⟨h1, h2, h3⟩)
        · refine ⟨.inl rfl, fun e' he' hse => ?_⟩
          rcases he' with rfl | he'
          · exact less_irrefl _
          · exact le1_same (hx e' he') hse
        · refine ⟨.inr h1, fun e' he' hse => ?_⟩
          rcases he' with rfl | he'
          · rw [hse] at h2; cases h2
          · exact h3 e' he' hse
      · rintro ⟨h1, h3⟩
        rcases h1 with h1 | h1
        · exact .inl h1
        · cases h : sameNum e x with
          | false => exact .inr ⟨h1, rfl, fun e' he' => h3 e' (.inr he')⟩
          | true => exact .inl (less_total (le1_same (hx e h1) (same_symm h)) (h3 x (.inl rfl) h))
  have hnd : (compactF sameNum (l.mergeSort le1)).Pairwise (fun a b => sameNum b a = false) := by
    cases hs : l.mergeSort le1 with
    | nil => simp [compactF]
    | cons x xs =>
      rw [hs] at hs1
      exact List.pairwise_cons.2 ⟨fun e he => ((mem_compactGo xs x hs1).1 he).2.1, compactGo_apart xs x hs1⟩
  have hp2 : (setOf l).Perm (compactF sameNum (l.mergeSort le1)) := List.mergeSort_perm _ _
  have hs2 : (setOf l).Pairwise (fun a b => le2 a b = true) := List.pairwise_mergeSort (le_trans_of (key := Ev.keys) (n := 9) (fun _ => rfl)) (le_total_of (key := Ev.keys) (n := 9) (fun _ => rfl)) _
  have hnd2 : (setOf l).Pairwise (fun a b => a ≠ b) := by
    have : (compactF sameNum (l.mergeSort le1)).Nodup := hnd.imp fun {a b} h e => by subst e; rw [same_refl] at h; cases h
    exact hp2.nodup_iff.2 this
  refine ⟨(hs2.and hnd2).imp fun {a b} ⟨h1, h2⟩ => ?_, fun e => by rw [hp2.mem_iff, hmem]⟩
  cases h : evLess a b with
  | true => rfl
  | false =>
    have h3 : evLess b a = false := by simpa [le2, evLess] using h1
    exact absurd (less_total h h3) h2

/-! the reference's way -/
def scanStep (s : List Ev × Ev) (x : Ev) : List Ev × Ev := if x.device ≠ s.2.device ∨ x.seq ≠ s.2.seq then (s.1 ++ [x], s.2) else if evLess x s.2 = true then (s.1, x) else s
def withE (l : List Ev) (e : Ev) : List Ev :=
  let s := l.foldl scanStep ([], e)
  s.1.takeWhile (fun x => evLess x s.2) ++ s.2 :: s.1.dropWhile (fun x => evLess x s.2)
def refSet (l : List Ev) : List Ev := l.foldl withE []

theorem scan_fst : ∀ (l : List Ev) (o : List Ev) (e : Ev), (l.foldl scanStep (o, e)).1 = o ++ l.filter (fun x => !sameNum x e) ∧ sameNum (l.foldl scanStep (o, e)).2 e = true ∧ (∀ x ∈ l, sameNum x e = true → evLess x (l.foldl scanStep (o, e)).2 = false) ∧ evLess e (l.foldl scanStep (o, e)).2 = false ∧ ((l.foldl scanStep (o, e)).2 = e ∨ (l.foldl scanStep (o, e)).2 ∈ l)
  | [], o, e => by simp [same_refl, less_irrefl]
  | x :: l, o, e => by
    simp only [List.foldl_cons]
    by_cases h : sameNum x e = true
    · have h' := same_iff.1 h
      by_cases hl : evLess x e = true
      · have hst : scanStep (o, e) x = (o, x) := by simp [scanStep, h'.1, h'.2, hl]
        rw [hst]
        obtain ⟨a1, a2, a3, a4, a5⟩ := scan_fst l o x
        refine ⟨?_, same_trans a2 h, fun y hy hs => ?_, ?_, ?_⟩
        · rw [a1]
          have : (l.filter fun y => !sameNum y x) = l.filter fun y => !sameNum y e := List.filter_congr fun y _ => by
            have : sameNum y x = sameNum y e := by
              cases hq : sameNum y e with
              | true => exact same_trans hq (same_symm h)
              | false => cases hr : sameNum y x with
                | false => rfl
                | true => rw [same_trans hr h] at hq; cases hq
            rw [this]
          simp [h, this]
        · rcases List.mem_cons.1 hy with rfl | hy
          · exact a4
          · exact a3 y hy (same_trans hs (same_symm h))
        · cases hq : evLess e (l.foldl scanStep (o, x)).2 with
          | false => rfl
          | true => rw [less_trans hl hq] at a4; cases a4
        · rcases a5 with a5 | a5
          · exact .inr (by rw [a5]; simp)
          · exact .inr (List.mem_cons_of_mem _ a5)
      · have hst : scanStep (o, e) x = (o, e) := by simp [scanStep, h'.1, h'.2, hl]
        rw [hst]
        obtain ⟨a1, a2, a3, a4, a5⟩ := scan_fst l o e
        refine ⟨by rw [a1]; simp [h], a2, fun y hy hs => ?_, a4, ?_⟩
        · rcases List.mem_cons.1 hy with rfl | hy
          · cases hq : evLess y (l.foldl scanStep (o, e)).2 with
            | false => rfl
            | true =>
              have := (swo_key Ev.keys 9 (fun _ => rfl)).ntrans y e (l.foldl scanStep (o, e)).2 (by simpa [evLess] using hl) a4
              rw [show lexLt y.keys (l.foldl scanStep (o, e)).2.keys = evLess y (l.foldl scanStep (o, e)).2 from rfl, hq] at this
              cases this
          · exact a3 y hy hs
        · rcases a5 with a5 | a5
          · exact .inl a5
          · exact .inr (List.mem_cons_of_mem _ a5)
    · have h' : x.device ≠ e.device ∨ x.seq ≠ e.seq := by
        by_cases hd : x.device = e.device
        · exact .inr fun hs => h (same_iff.2 ⟨hd, hs⟩)
        · exact .inl hd
      have hst : scanStep (o, e) x = (o ++ [x], e) := by simp only [scanStep]; rw [if_pos h']
      rw [hst]
      obtain ⟨a1, a2, a3, a4, a5⟩ := scan_fst l (o ++ [x]) e
      refine ⟨by rw [a1]; simp [h], a2, fun y hy hs => ?_, a4, ?_⟩
      · rcases List.mem_cons.1 hy with rfl | hy
        · exact absurd hs h
        · exact a3 y hy hs
      · rcases a5 with a5 | a5
        · exact .inl a5
        · exact .inr (List.mem_cons_of_mem _ a5)
theorem takeWhile_dropWhile_sorted : ∀ (o : List Ev) (e : Ev), o.Pairwise (fun a b => evLess a b = true) → (∀ x ∈ o, x ≠ e) → (o.takeWhile (fun x => evLess x e) ++ e :: o.dropWhile (fun x => evLess x e)).Pairwise (fun a b => evLess a b = true)
  | [], e, _, _ => by simp
  | x :: o, e, hp, hne => by
    have hp' := hp
    rw [List.pairwise_cons] at hp
    by_cases h : evLess x e = true
    · simp only [List.takeWhile_cons, List.dropWhile_cons, h, if_true, List.cons_append]
      refine List.pairwise_cons.2 ⟨fun y hy => ?_, takeWhile_dropWhile_sorted o e hp.2 (fun y hy => hne y (List.mem_cons_of_mem _ hy))⟩
      simp only [List.mem_append, List.mem_cons] at hy
      rcases hy with hy | rfl | hy
      · exact hp.1 y ((List.takeWhile_sublist _).mem hy)
      · exact h
      · exact hp.1 y ((List.dropWhile_sublist _).mem hy)
    · simp only [List.takeWhile_cons, List.dropWhile_cons, h, List.nil_append]
      have hex : evLess e x = true := by
        cases hq : evLess e x with
        | true => rfl
        | false => exact absurd (less_total (by simpa using h) hq) (hne x (by simp))
      refine List.pairwise_cons.2 ⟨fun y hy => ?_, hp'⟩
      rcases List.mem_cons.1 hy with rfl | hy
      · exact hex
      · exact less_trans hex (hp.1 y hy)
theorem with_isSet {m l : List Ev} (h : IsSet m l) (e : Ev) : IsSet (m ++ [e]) (withE l e) := by
  obtain ⟨a1, a2, a3, a4, a5⟩ := scan_fst l [] e
  simp only [withE]
  revert a1 a2 a3 a4 a5
  generalize l.foldl scanStep ([], e) = s
  obtain ⟨o, x⟩ := s
  intro a1 a2 a3 a4 a5
  simp only [List.nil_append] at a1 a2 a3 a4 a5 ⊢
  subst a1
  have hne : ∀ y ∈ l.filter (fun x => !sameNum x e), y ≠ x := fun y hy hyx => by
    subst hyx
    simp [a2] at hy
  refine ⟨takeWhile_dropWhile_sorted _ _ (h.sorted.filter _) hne, fun y => ?_⟩
  have hmem : (y ∈ (l.filter fun x => !sameNum x e).takeWhile (fun z => evLess z x) ++ x :: (l.filter fun x => !sameNum x e).dropWhile (fun z => evLess z x)) ↔ (y ∈ l ∧ sameNum y e = false) ∨ y = x := by
    have h1 : ∀ (p : Ev → Bool) (o : List Ev), y ∈ o.takeWhile p ∨ y ∈ o.dropWhile p ↔ y ∈ o := fun p o => by
      rw [← List.mem_append, List.takeWhile_append_dropWhile]
    have := h1 (fun z => evLess z x) (l.filter fun x => !sameNum x e)
    simp only [List.mem_filter, Bool.not_eq_true'] at this
    simp only [List.mem_append, List.mem_cons]
    constructor
    · rintro (h | h | h)
      · exact .inl (this.1 (.inl h))
      · exact .inr h
      · exact .inl (this.1 (.inr h))
    · rintro (h | h)
      · rcases this.2 h with h | h
        · exact .inl h
        · exact .inr (.inr h)
      · exact .inr (.inl h)
  rw [hmem]
  simp only [List.mem_append, List.mem_singleton, h.mem]
  constructor
  · rintro (⟨⟨h1, h2⟩, h3⟩ | rfl)
    · refine ⟨.inl h1, fun e' he' hs => ?_⟩
      rcases he' with he' | rfl
      · exact h2 e' he' hs
      · rw [hs] at h3; cases h3
    · refine ⟨?_, fun e' he' hs => ?_⟩
      · rcases a5 with a5 | a5
        · exact .inr a5
        · exact .inl ((h.mem y).1 a5).1
      · rcases he' with he' | rfl
        · -- the least of m with this number lies in l
          have hse : sameNum e' e = true := same_trans (same_symm hs) a2
          -- take the element of l below e'
          have key : ∃ q ∈ l, sameNum q e' = true ∧ evLess e' q = false := by
            have : ∀ (n : Nat) (z : Ev), z ∈ m → sameNum z e' = true → evLess e' z = false → (m.filter fun q => evLess q z).length ≤ n → ∃ q ∈ l, sameNum q e' = true ∧ evLess e' q = false := by
              intro n
              induction n with
              | zero =>
                intro z hz hzs hzl hn
                refine ⟨z, (h.mem z).2 ⟨hz, fun e2 he2 hs2 => ?_⟩, hzs, hzl⟩
                cases hq : evLess e2 z with
                | false => rfl
                | true =>
                  have : e2 ∈ m.filter fun q => evLess q z := List.mem_filter.2 ⟨he2, hq⟩
                  rw [List.eq_nil_of_length_eq_zero (Nat.le_zero.1 hn)] at this
                  cases this
              | succ n ih =>
                intro z hz hzs hzl hn
                by_cases hex : ∃ e2 ∈ m, sameNum z e2 = true ∧ evLess e2 z = true
                · obtain ⟨e2, he2, hs2, hl2⟩ := hex
                  refine ih e2 he2 (same_trans (same_symm hs2) hzs) ?_ ?_
                  · cases hq : evLess e' e2 with
                    | false => rfl
                    | true => rw [less_trans hq hl2] at hzl; cases hzl
                  · have hlt : (m.filter fun q => evLess q e2).length < (m.filter fun q => evLess q z).length := by
                      have hsub : (m.filter fun q => evLess q e2) = (m.filter fun q => evLess q z).filter fun q => evLess q e2 := by
                        rw [List.filter_filter]
                        refine List.filter_congr fun q _ => ?_
                        cases hq : evLess q e2 with
                        | false => simp
                        | true => simp [less_trans hq hl2]
                      rw [hsub]
                      exact List.length_filter_lt_length_iff_exists.2 ⟨e2, List.mem_filter.2 ⟨he2, hl2⟩, by rw [less_irrefl]; decide⟩
                    omega
                · refine ⟨z, (h.mem z).2 ⟨hz, fun e2 he2 hs2 => ?_⟩, hzs, hzl⟩
                  cases hq : evLess e2 z with
                  | false => rfl
                  | true => exact absurd ⟨e2, he2, hs2, hq⟩ hex
            exact this _ e' he' (same_refl _) (less_irrefl _) (Nat.le_refl _)
          obtain ⟨q, hq, hqs, hql⟩ := key
          have h1 := a3 q hq (same_trans hqs hse)
          cases h2 : evLess e' y with
          | false => rfl
          | true =>
            have := (swo_key Ev.keys 9 (fun _ => rfl)).ntrans e' q y hql h1
            rw [show lexLt e'.keys y.keys = evLess e' y from rfl, h2] at this
            cases this
        · exact a4
  · rintro ⟨h1, h2⟩
    cases hs : sameNum y e with
    | false =>
      rcases h1 with h1 | rfl
      · exact .inl ⟨⟨h1, fun e' he' => h2 e' (.inl he')⟩, rfl⟩
      · rw [same_refl] at hs; cases hs
    | true =>
      refine .inr (less_total ?_ ?_)
      · rcases h1 with h1 | rfl
        · exact a3 y ((h.mem y).2 ⟨h1, fun e' he' => h2 e' (.inl he')⟩) hs
        · exact a4
      · rcases a5 with rfl | a5
        · exact h2 x (.inr rfl) hs
        · exact h2 x (.inl ((h.mem x).1 a5).1) (same_trans hs (same_symm a2))
theorem refSet_isSet (l : List Ev) : IsSet l (refSet l) := by
  have : ∀ (l m s : List Ev), IsSet m s → IsSet (m ++ l) (l.foldl withE s) := by
    intro l
    induction l with
    | nil => intro m s h; simpa using h
    | cons x l ih =>
      intro m s h
      have := ih (m ++ [x]) (withE s x) (with_isSet h x)
      simpa using this
  have := this l [] [] ⟨by simp, by simp⟩
  simpa [refSet] using this
theorem refSet_eq (l : List Ev) : refSet l = setOf l := (refSet_isSet l).unique (set_isSet l)

end Go.Proofs.Cus
