import Derived.Sort.Statements
set_option linter.unusedVariables false
set_option linter.unusedSimpArgs false
/-
  Plain functions: fleets, events, their errors and their order (no program in sight).
-/
namespace Go.Proofs.Cus

structure Ev where
  device : Int
  seq : Int
  at_ : Int
  late : Int
  kind : Int
  bike : Int
  place : Int
  rider : Int
  ride : Int
structure Fl where
  bikes : Int
  riders : Int
  devices : Int
  docks : List Int
  trucks : List Int

def within (n low high : Int) : Bool := decide (low ≤ n) && decide (n ≤ high)
def allIn (l : List Int) (most : Int) : Bool := l.all fun n => within n 1 most
def flErr (f : Fl) : Int :=
  if ((!within f.bikes 1 128 || !within f.riders 1 128) || !within f.devices 1 256) = true then 1
  else if 32 < f.docks.length ∨ 8 < f.trucks.length then 8
  else if (!allIn f.docks 32 || !allIn f.trucks 32) = true then 1 else 0
def placed (f : Fl) (e : Ev) : Bool :=
  if e.kind = 1 then (decide (0 ≤ e.place) && decide (e.place.tdiv 32 < f.docks.length)) && decide (e.place.tmod 32 < f.docks.getD (e.place.tdiv 32).toNat 0)
  else if e.kind = 2 then within e.place 0 63
  else if e.kind = 7 then within e.place 0 ((f.trucks.length : Int) - 1)
  else decide (e.place = 0)
def named (f : Fl) (e : Ev) : Bool :=
  (if e.kind = 3 then within e.rider 0 (f.riders - 1) else decide (e.rider = 0)) && (if e.kind = 3 ∨ e.kind = 4 then within e.ride 1 1000000 else decide (e.ride = 0))
def evErr (f : Fl) (e : Ev) : Int :=
  if flErr f ≠ 0 then flErr f
  else if ((((!within e.device 0 (f.devices - 1) || !within e.seq 1 1048576) || decide (e.at_ < 0)) || decide (e.late < e.at_)) || decide (4294943999 < e.late)) = true then 1
  else if within e.kind 1 10 = false then 14
  else if (!within e.bike 0 (f.bikes - 1) || (decide (e.kind = 10) && !decide (e.bike = 0))) = true then 1
  else if placed f e = false then 7
  else if named f e = false then 1 else 0

end Go.Proofs.Cus

/-
  Plain facts: the order of events; the set of events (no program in sight).
-/
namespace Go.Proofs.Cus
open Go.Sort

deriving instance DecidableEq, Inhabited for Ev

def cmpI (a b : Int) : Int := if a < b then -1 else if b < a then 1 else 0
def lexCmp : List Int → List Int → Int
  | a :: l, b :: r => if cmpI a b ≠ 0 then cmpI a b else lexCmp l r
  | _, _ => 0
def Ev.keys (e : Ev) : List Int := [e.at_, e.device, e.seq, e.late, e.kind, e.bike, e.place, e.rider, e.ride]
def evCmp (a b : Ev) : Int := lexCmp a.keys b.keys
def orI (l : List Int) : Int := (l.find? (fun x => decide (x ≠ 0))).getD 0
def setCmp (a b : Ev) : Int := orI [cmpI a.device b.device, cmpI a.seq b.seq, evCmp a b]
def lexLt : List Int → List Int → Bool
  | a :: l, b :: r => if a ≠ b then decide (a < b) else lexLt l r
  | _, _ => false
def evLess (a b : Ev) : Bool := lexLt a.keys b.keys
def sameNum (a b : Ev) : Bool := [a.device, a.seq] == [b.device, b.seq]

theorem lexLt_irrefl : ∀ l, lexLt l l = false
  | [] => rfl
  | a :: l => by simp [lexLt, lexLt_irrefl l]
theorem lexLt_trans : ∀ {a b c : List Int}, a.length = b.length → b.length = c.length → lexLt a b = true → lexLt b c = true → lexLt a c = true
  | [], [], [], _, _, h, _ => by simp [lexLt] at h
  | x :: a, y :: b, z :: c, h1, h2, h3, h4 => by
    simp only [List.length_cons, Nat.add_right_cancel_iff] at h1 h2
    simp only [lexLt] at h3 h4 ⊢
    by_cases e1 : x = y
    · subst e1
      simp only [ne_eq, not_true, if_false] at h3
      by_cases e2 : x = z
      · subst e2
        simp only [ne_eq, not_true, if_false] at h4 ⊢
        exact lexLt_trans h1 h2 h3 h4
      · simp only [ne_eq, e2, not_false_eq_true, if_true] at h4 ⊢
        exact h4
    · simp only [ne_eq, e1, not_false_eq_true, if_true, decide_eq_true_eq] at h3
      by_cases e2 : y = z
      · subst e2
        simp only [ne_eq, e1, not_false_eq_true, if_true, decide_eq_true_eq]
        exact h3
      · simp only [ne_eq, e2, not_false_eq_true, if_true, decide_eq_true_eq] at h4
        have e3 : x ≠ z := by omega
        simp only [ne_eq, e3, not_false_eq_true, if_true, decide_eq_true_eq]
        omega
  | [], [], _ :: _, _, h, _, _ => by simp at h
  | [], _ :: _, _, h, _, _, _ => by simp at h
  | _ :: _, [], _, h, _, _, _ => by simp at h
  | _ :: _, _ :: _, [], _, h, _, _ => by simp at h
theorem lexLt_total : ∀ {a b : List Int}, a.length = b.length → lexLt a b = false → lexLt b a = false → a = b
  | [], [], _, _, _ => rfl
  | x :: a, y :: b, h1, h2, h3 => by
    simp only [List.length_cons, Nat.add_right_cancel_iff] at h1
    simp only [lexLt] at h2 h3
    by_cases e : x = y
    · subst e
      simp only [ne_eq, not_true, if_false] at h2 h3
      rw [lexLt_total h1 h2 h3]
    · simp only [ne_eq, e, not_false_eq_true, if_true, decide_eq_false_iff_not, Ne.symm e] at h2 h3
      omega
  | [], _ :: _, h, _, _ => by simp at h
  | _ :: _, [], h, _, _ => by simp at h
theorem swo_key {α : Type} (key : α → List Int) (n : Nat) (hn : ∀ x, (key x).length = n) : SWO (fun x y => lexLt (key x) (key y)) where
  irrefl x := lexLt_irrefl _
  trans x y z h1 h2 := lexLt_trans (by rw [hn, hn]) (by rw [hn, hn]) h1 h2
  ntrans x y z h1 h2 := by
    cases h : lexLt (key x) (key z) with
    | false => rfl
    | true =>
      cases h3 : lexLt (key y) (key x) with
      | true =>
        have := lexLt_trans (by rw [hn, hn]) (by rw [hn, hn]) h3 h
        rw [h2] at this; cases this
      | false =>
        have := lexLt_total (by rw [hn, hn]) h1 h3
        rw [this] at h
        rw [h2] at h; cases h
theorem lexCmp_lt : ∀ (a b : List Int), decide (lexCmp a b < 0) = lexLt a b
  | [], [] => rfl
  | [], _ :: _ => rfl
  | _ :: _, [] => rfl
  | x :: a, y :: b => by
    simp only [lexCmp, lexLt, cmpI]
    by_cases h1 : x < y
    · have : x ≠ y := by omega
      simp [h1, this]
    · by_cases h2 : y < x
      · have : x ≠ y := by omega
        simp [h1, h2, this]
      · have : x = y := by omega
        subst this
        simp [lexCmp_lt a b]
def Ev.keys2 (e : Ev) : List Int := e.device :: e.seq :: e.keys
theorem setCmp_lt (a b : Ev) : decide (setCmp a b < 0) = lexLt a.keys2 b.keys2 := by
  have h3 := lexCmp_lt a.keys b.keys
  simp only [setCmp, Ev.keys2, lexLt, orI, evCmp, cmpI]
  by_cases h1 : a.device < b.device
  · have : a.device ≠ b.device := by omega
    simp [h1, this]
  · by_cases h2 : b.device < a.device
    · have : a.device ≠ b.device := by omega
      simp [h1, h2, this]
    · have : a.device = b.device := by omega
      simp only [this, Int.lt_irrefl, if_false, ne_eq, not_true]
      by_cases h4 : a.seq < b.seq
      · have : a.seq ≠ b.seq := by omega
        simp [h4, this]
      · by_cases h5 : b.seq < a.seq
        · have : a.seq ≠ b.seq := by omega
          simp [h4, h5, this]
        · have : a.seq = b.seq := by omega
          simp only [this, Int.lt_irrefl, if_false, ne_eq, not_true]
          rw [← h3]
          by_cases h6 : lexCmp a.keys b.keys = 0 <;> simp [h6]
theorem keys_inj {a b : Ev} (h : a.keys = b.keys) : a = b := by
  cases a; cases b
  simp only [Ev.keys, List.cons.injEq, and_true] at h
  obtain ⟨rfl, rfl, rfl, rfl, rfl, rfl, rfl, rfl, rfl⟩ := h
  rfl
theorem keys2_inj {a b : Ev} (h : a.keys2 = b.keys2) : a = b := keys_inj (by simp only [Ev.keys2, List.cons.injEq] at h; exact h.2.2)

theorem less_irrefl (a : Ev) : evLess a a = false := lexLt_irrefl _
theorem less_trans {a b c : Ev} (h1 : evLess a b = true) (h2 : evLess b c = true) : evLess a c = true := lexLt_trans (a := a.keys) (b := b.keys) (c := c.keys) rfl rfl h1 h2
theorem less_total {a b : Ev} (h1 : evLess a b = false) (h2 : evLess b a = false) : a = b := keys_inj (lexLt_total rfl h1 h2)
theorem less_asymm {a b : Ev} (h1 : evLess a b = true) : evLess b a = false := by
  cases h : evLess b a with
  | false => rfl
  | true => have := less_trans h1 h; rw [less_irrefl] at this; cases this
theorem same_iff {a b : Ev} : sameNum a b = true ↔ a.device = b.device ∧ a.seq = b.seq := by simp [sameNum]
theorem same_refl (a : Ev) : sameNum a a = true := same_iff.2 ⟨rfl, rfl⟩
theorem same_symm {a b : Ev} (h : sameNum a b = true) : sameNum b a = true := by rw [same_iff] at *; omega
theorem same_trans {a b c : Ev} (h : sameNum a b = true) (h2 : sameNum b c = true) : sameNum a c = true := by rw [same_iff] at *; omega
theorem same_comm (a b : Ev) : sameNum a b = sameNum b a := by
  cases h : sameNum a b with
  | true => rw [same_symm h]
  | false => cases h2 : sameNum b a with
    | false => rfl
    | true => rw [same_symm h2] at h; cases h

/-- s is the set of the events of l -/
structure IsSet (l s : List Ev) : Prop where
  sorted : s.Pairwise (fun a b => evLess a b = true)
  mem : ∀ e, e ∈ s ↔ e ∈ l ∧ ∀ e' ∈ l, sameNum e e' = true → evLess e' e = false
theorem strict_unique : ∀ {s t : List Ev}, s.Pairwise (fun a b => evLess a b = true) → t.Pairwise (fun a b => evLess a b = true) → (∀ e, e ∈ s ↔ e ∈ t) → s = t
  | [], [], _, _, _ => rfl
  | [], b :: t, _, _, h => by have := (h b).2 (by simp); simp at this
  | a :: s, [], _, _, h => by have := (h a).1 (by simp); simp at this
  | a :: s, b :: t, hs, ht, h => by
    rw [List.pairwise_cons] at hs ht
    have hab : a = b := by
      have h1 := (h a).1 (by simp)
      have h2 := (h b).2 (by simp)
      rcases List.mem_cons.1 h1 with h1 | h1
      · exact h1
      · rcases List.mem_cons.1 h2 with h2 | h2
        · exact h2.symm
        · have := less_asymm (ht.1 a h1)
          rw [hs.1 b h2] at this; cases this
    subst hab
    congr 1
    refine strict_unique hs.2 ht.2 fun e => ?_
    have he := h e
    simp only [List.mem_cons] at he
    constructor
    · intro hm
      rcases he.1 (.inr hm) with rfl | h3
      · have := hs.1 e hm; rw [less_irrefl] at this; cases this
      · exact h3
    · intro hm
      rcases he.2 (.inr hm) with rfl | h3
      · have := ht.1 e hm; rw [less_irrefl] at this; cases this
      · exact h3
theorem IsSet.unique {l s t : List Ev} (h1 : IsSet l s) (h2 : IsSet l t) : s = t := strict_unique h1.sorted h2.sorted fun e => by rw [h1.mem, h2.mem]
theorem IsSet.congr {l m s : List Ev} (h : IsSet l s) (hm : ∀ e, e ∈ l ↔ e ∈ m) : IsSet m s := ⟨h.sorted, fun e => by rw [h.mem, hm]; simp only [hm]⟩

/-! the program's way -/
def compactGo {α : Type} (eq : α → α → Bool) : α → List α → List α
  | _, [] => []
  | p, y :: ys => if eq y p = true then compactGo eq y ys else y :: compactGo eq y ys
def compactF {α : Type} (eq : α → α → Bool) : List α → List α
  | [] => []
  | x :: xs => x :: compactGo eq x xs
def le1 (a b : Ev) : Bool := !lexLt b.keys2 a.keys2
def le2 (a b : Ev) : Bool := !lexLt b.keys a.keys
def setOf (l : List Ev) : List Ev := (compactF sameNum (l.mergeSort le1)).mergeSort le2

theorem le1_num {a b : Ev} (h : le1 a b = true) : a.device < b.device ∨ (a.device = b.device ∧ a.seq ≤ b.seq) := by
  simp only [le1, Ev.keys2, lexLt, Bool.not_eq_true'] at h
  by_cases h1 : b.device = a.device
  · by_cases h2 : b.seq = a.seq
    · omega
    · simp only [h1, h2, ne_eq, not_true, if_false, not_false_eq_true, if_true, decide_eq_false_iff_not] at h; omega
  · simp only [h1, ne_eq, not_false_eq_true, if_true, decide_eq_false_iff_not] at h; omega
theorem le1_same {a b : Ev} (h : le1 a b = true) (hs : sameNum a b = true) : evLess b a = false := by
  rw [same_iff] at hs
  simpa [le1, Ev.keys2, lexLt, hs.1, hs.2, evLess] using h
theorem mem_compactGo {e : Ev} : ∀ (xs : List Ev) (p : Ev), (p :: xs).Pairwise (fun a b => le1 a b = true) →
    (e ∈ compactGo sameNum p xs ↔ e ∈ xs ∧ sameNum e p = false ∧ ∀ e' ∈ xs, sameNum e e' = true → evLess e' e = false)
  | [], p, _ => by simp [compactGo]
  | y :: ys, p, hp => by
    have hp' := hp
    rw [List.pairwise_cons] at hp
    have hy := hp.2
    rw [List.pairwise_cons] at hy
    have ih := mem_compactGo (e := e) ys y hp.2
    simp only [compactGo]
    by_cases hs : sameNum y p = true
    · rw [if_pos hs, ih]
      constructor
      · rintro ⟨h1, h2, h3⟩
        refine ⟨List.mem_cons_of_mem _ h1, ?_, fun e' he' hse => ?_⟩
        · cases h : sameNum e p with
          | false => rfl
          | true => rw [same_trans h (same_symm hs)] at h2; cases h2
        · rcases List.mem_cons.1 he' with rfl | he'
          · rw [hse] at h2; cases h2
          · exact h3 e' he' hse
      · rintro ⟨h1, h2, h3⟩
        have hne : e ≠ y := fun h => by subst h; rw [hs] at h2; cases h2
        refine ⟨(List.mem_cons.1 h1).resolve_left hne, ?_, fun e' he' => h3 e' (List.mem_cons_of_mem _ he')⟩
        cases h : sameNum e y with
        | false => rfl
        | true => rw [same_trans h hs] at h2; cases h2
    · rw [if_neg hs, List.mem_cons, ih]
      constructor
      · rintro (rfl | ⟨h1, h2, h3⟩)
        · refine ⟨by simp, by simpa using hs, fun e' he' hse => ?_⟩
          rcases List.mem_cons.1 he' with rfl | he'
          · exact less_irrefl _
          · exact le1_same (hy.1 e' he') hse
        · refine ⟨List.mem_cons_of_mem _ h1, ?_, fun e' he' hse => ?_⟩
          · cases h : sameNum e p with
            | false => rfl
            | true =>
              have a1 := le1_num (hp.1 y (by simp))
              have a2 := le1_num (hy.1 e h1)
              rw [same_iff] at h
              exact absurd (same_iff.2 (by omega)) hs
          · rcases List.mem_cons.1 he' with rfl | he'
            · rw [hse] at h2; cases h2
            · exact h3 e' he' hse
      · rintro ⟨h1, h2, h3⟩
        rcases List.mem_cons.1 h1 with h1 | h1
        · exact .inl h1
        · cases h : sameNum e y with
          | false => exact .inr ⟨h1, rfl, fun e' he' => h3 e' (List.mem_cons_of_mem _ he')⟩
          | true => exact .inl (less_total (le1_same (hy.1 e h1) (same_symm h)) (h3 y (by simp) h))
theorem compactGo_apart : ∀ (xs : List Ev) (p : Ev), (p :: xs).Pairwise (fun a b => le1 a b = true) → (compactGo sameNum p xs).Pairwise (fun a b => sameNum b a = false)
  | [], p, _ => by simp [compactGo]
  | y :: ys, p, hp => by
    rw [List.pairwise_cons] at hp
    simp only [compactGo]
    split
    · exact compactGo_apart ys y hp.2
    · refine List.pairwise_cons.2 ⟨fun e he => ((mem_compactGo ys y hp.2).1 he).2.1, compactGo_apart ys y hp.2⟩
theorem le_trans_of {key : Ev → List Int} {n : Nat} (hn : ∀ x, (key x).length = n) (a b c : Ev) (h1 : (!lexLt (key b) (key a)) = true) (h2 : (!lexLt (key c) (key b)) = true) : (!lexLt (key c) (key a)) = true := by
  simp only [Bool.not_eq_true'] at *
  exact (swo_key key n hn).ntrans c b a h2 h1
theorem le_total_of {key : Ev → List Int} {n : Nat} (hn : ∀ x, (key x).length = n) (a b : Ev) : ((!lexLt (key b) (key a)) || (!lexLt (key a) (key b))) = true := by
  cases h : lexLt (key b) (key a) with
  | false => rfl
  | true =>
    cases h2 : lexLt (key a) (key b) with
    | false => rfl
    | true =>
      have := (swo_key key n hn).trans a b a h2 h
      simp only [lexLt_irrefl] at this; cases this
theorem set_isSet (l : List Ev) : IsSet l (setOf l) := by
  have hp1 : (l.mergeSort le1).Perm l := List.mergeSort_perm _ _
  have hs1 : (l.mergeSort le1).Pairwise (fun a b => le1 a b = true) := List.pairwise_mergeSort (le_trans_of (key := Ev.keys2) (n := 11) (fun _ => rfl)) (le_total_of (key := Ev.keys2) (n := 11) (fun _ => rfl)) l
  have hmem : ∀ e, e ∈ compactF sameNum (l.mergeSort le1) ↔ e ∈ l ∧ ∀ e' ∈ l, sameNum e e' = true → evLess e' e = false := by
    intro e
    have hm : ∀ x, x ∈ l ↔ x ∈ l.mergeSort le1 := fun x => (hp1.mem_iff).symm
    simp only [hm]
    revert hs1
    generalize l.mergeSort le1 = s
    intro hs1
    cases s with
    | nil => simp [compactF]
    | cons x xs =>
      simp only [compactF, List.mem_cons, mem_compactGo xs x hs1]
      have hx := (List.pairwise_cons.1 hs1).1
      constructor
      · rintro (rfl | ⟨h1, h2, h3⟩)
        · refine ⟨.inl rfl, fun e' he' hse => ?_⟩
          rcases he' with rfl | he'
          · exact less_irrefl _
          · exact le1_same (hx e' he') hse
        · refine ⟨.inr h1, fun e' he' hse => ?_⟩
          rcases he' with rfl | he'
          · rw [hse] at h2; cases h2
          · exact h3 e' he' hse
      · rintro ⟨h1, h3⟩
        rcases h1 with h1 | h1
        · exact .inl h1
        · cases h : sameNum e x with
          | false => exact .inr ⟨h1, rfl, fun e' he' => h3 e' (.inr he')⟩
          | true => exact .inl (less_total (le1_same (hx e h1) (same_symm h)) (h3 x (.inl rfl) h))
  have hnd : (compactF sameNum (l.mergeSort le1)).Pairwise (fun a b => sameNum b a = false) := by
    cases hs : l.mergeSort le1 with
    | nil => simp [compactF]
    | cons x xs =>
      rw [hs] at hs1
      exact List.pairwise_cons.2 ⟨fun e he => ((mem_compactGo xs x hs1).1 he).2.1, compactGo_apart xs x hs1⟩
  have hp2 : (setOf l).Perm (compactF sameNum (l.mergeSort le1)) := List.mergeSort_perm _ _
  have hs2 : (setOf l).Pairwise (fun a b => le2 a b = true) := List.pairwise_mergeSort (le_trans_of (key := Ev.keys) (n := 9) (fun _ => rfl)) (le_total_of (key := Ev.keys) (n := 9) (fun _ => rfl)) _
  have hnd2 : (setOf l).Pairwise (fun a b => a ≠ b) := by
    have : (compactF sameNum (l.mergeSort le1)).Nodup := hnd.imp fun {a b} h e => by subst e; rw [same_refl] at h; cases h
    exact hp2.nodup_iff.2 this
  refine ⟨(hs2.and hnd2).imp fun {a b} ⟨h1, h2⟩ => ?_, fun e => by rw [hp2.mem_iff, hmem]⟩
  cases h : evLess a b with
  | true => rfl
  | false =>
    have h3 : evLess b a = false := by simpa [le2, evLess] using h1
    exact absurd (less_total h h3) h2

/-! the reference's way -/
def scanStep (s : List Ev × Ev) (x : Ev) : List Ev × Ev := if x.device ≠ s.2.device ∨ x.seq ≠ s.2.seq then (s.1 ++ [x], s.2) else if evLess x s.2 = true then (s.1, x) else s
def withE (l : List Ev) (e : Ev) : List Ev :=
  let s := l.foldl scanStep ([], e)
  s.1.takeWhile (fun x => evLess x s.2) ++ s.2 :: s.1.dropWhile (fun x => evLess x s.2)
def refSet (l : List Ev) : List Ev := l.foldl withE []

theorem scan_fst : ∀ (l : List Ev) (o : List Ev) (e : Ev), (l.foldl scanStep (o, e)).1 = o ++ l.filter (fun x => !sameNum x e) ∧ sameNum (l.foldl scanStep (o, e)).2 e = true ∧ (∀ x ∈ l, sameNum x e = true → evLess x (l.foldl scanStep (o, e)).2 = false) ∧ evLess e (l.foldl scanStep (o, e)).2 = false ∧ ((l.foldl scanStep (o, e)).2 = e ∨ (l.foldl scanStep (o, e)).2 ∈ l)
  | [], o, e => by simp [same_refl, less_irrefl]
  | x :: l, o, e => by
    simp only [List.foldl_cons]
    by_cases h : sameNum x e = true
    · have h' := same_iff.1 h
      by_cases hl : evLess x e = true
      · have hst : scanStep (o, e) x = (o, x) := by simp [scanStep, h'.1, h'.2, hl]
        rw [hst]
        obtain ⟨a1, a2, a3, a4, a5⟩ := scan_fst l o x
        refine ⟨?_, same_trans a2 h, fun y hy hs => ?_, ?_, ?_⟩
        · rw [a1]
          have : (l.filter fun y => !sameNum y x) = l.filter fun y => !sameNum y e := List.filter_congr fun y _ => by
            have : sameNum y x = sameNum y e := by
              cases hq : sameNum y e with
              | true => exact same_trans hq (same_symm h)
              | false => cases hr : sameNum y x with
                | false => rfl
                | true => rw [same_trans hr h] at hq; cases hq
            rw [this]
          simp [h, this]
        · rcases List.mem_cons.1 hy with rfl | hy
          · exact a4
          · exact a3 y hy (same_trans hs (same_symm h))
        · cases hq : evLess e (l.foldl scanStep (o, x)).2 with
          | false => rfl
          | true => rw [less_trans hl hq] at a4; cases a4
        · rcases a5 with a5 | a5
          · exact .inr (by rw [a5]; simp)
          · exact .inr (List.mem_cons_of_mem _ a5)
      · have hst : scanStep (o, e) x = (o, e) := by simp [scanStep, h'.1, h'.2, hl]
        rw [hst]
        obtain ⟨a1, a2, a3, a4, a5⟩ := scan_fst l o e
        refine ⟨by rw [a1]; simp [h], a2, fun y hy hs => ?_, a4, ?_⟩
        · rcases List.mem_cons.1 hy with rfl | hy
          · cases hq : evLess y (l.foldl scanStep (o, e)).2 with
            | false => rfl
            | true =>
              have := (swo_key Ev.keys 9 (fun _ => rfl)).ntrans y e (l.foldl scanStep (o, e)).2 (by simpa [evLess] using hl) a4
              rw [show lexLt y.keys (l.foldl scanStep (o, e)).2.keys = evLess y (l.foldl scanStep (o, e)).2 from rfl, hq] at this
              cases this
          · exact a3 y hy hs
        · rcases a5 with a5 | a5
          · exact .inl a5
          · exact .inr (List.mem_cons_of_mem _ a5)
    · have h' : x.device ≠ e.device ∨ x.seq ≠ e.seq := by
        by_cases hd : x.device = e.device
        · exact .inr fun hs => h (same_iff.2 ⟨hd, hs⟩)
        · exact .inl hd
      have hst : scanStep (o, e) x = (o ++ [x], e) := by simp only [scanStep]; rw [if_pos h']
      rw [hst]
      obtain ⟨a1, a2, a3, a4, a5⟩ := scan_fst l (o ++ [x]) e
      refine ⟨by rw [a1]; simp [h], a2, fun y hy hs => ?_, a4, ?_⟩
      · rcases List.mem_cons.1 hy with rfl | hy
        · exact absurd hs h
        · exact a3 y hy hs
      · rcases a5 with a5 | a5
        · exact .inl a5
        · exact .inr (List.mem_cons_of_mem _ a5)
theorem takeWhile_dropWhile_sorted : ∀ (o : List Ev) (e : Ev), o.Pairwise (fun a b => evLess a b = true) → (∀ x ∈ o, x ≠ e) → (o.takeWhile (fun x => evLess x e) ++ e :: o.dropWhile (fun x => evLess x e)).Pairwise (fun a b => evLess a b = true)
  | [], e, _, _ => by simp
  | x :: o, e, hp, hne => by
    have hp' := hp
    rw [List.pairwise_cons] at hp
    by_cases h : evLess x e = true
    · simp only [List.takeWhile_cons, List.dropWhile_cons, h, if_true, List.cons_append]
      refine List.pairwise_cons.2 ⟨fun y hy => ?_, takeWhile_dropWhile_sorted o e hp.2 (fun y hy => hne y (List.mem_cons_of_mem _ hy))⟩
      simp only [List.mem_append, List.mem_cons] at hy
      rcases hy with hy | rfl | hy
      · exact hp.1 y ((List.takeWhile_sublist _).mem hy)
      · exact h
      · exact hp.1 y ((List.dropWhile_sublist _).mem hy)
    · simp only [List.takeWhile_cons, List.dropWhile_cons, h, List.nil_append]
      have hex : evLess e x = true := by
        cases hq : evLess e x with
        | true => rfl
        | false => exact absurd (less_total (by simpa using h) hq) (hne x (by simp))
      refine List.pairwise_cons.2 ⟨fun y hy => ?_, hp'⟩
      rcases List.mem_cons.1 hy with rfl | hy
      · exact hex
      · exact less_trans hex (hp.1 y hy)
theorem with_isSet {m l : List Ev} (h : IsSet m l) (e : Ev) : IsSet (m ++ [e]) (withE l e) := by
  obtain ⟨a1, a2, a3, a4, a5⟩ := scan_fst l [] e
  simp only [withE]
  revert a1 a2 a3 a4 a5
  generalize l.foldl scanStep ([], e) = s
  obtain ⟨o, x⟩ := s
  intro a1 a2 a3 a4 a5
  simp only [List.nil_append] at a1 a2 a3 a4 a5 ⊢
  subst a1
  have hne : ∀ y ∈ l.filter (fun x => !sameNum x e), y ≠ x := fun y hy hyx => by
    subst hyx
    simp [a2] at hy
  refine ⟨takeWhile_dropWhile_sorted _ _ (h.sorted.filter _) hne, fun y => ?_⟩
  have hmem : (y ∈ (l.filter fun x => !sameNum x e).takeWhile (fun z => evLess z x) ++ x :: (l.filter fun x => !sameNum x e).dropWhile (fun z => evLess z x)) ↔ (y ∈ l ∧ sameNum y e = false) ∨ y = x := by
    have h1 : ∀ (p : Ev → Bool) (o : List Ev), y ∈ o.takeWhile p ∨ y ∈ o.dropWhile p ↔ y ∈ o := fun p o => by
      rw [← List.mem_append, List.takeWhile_append_dropWhile]
    have := h1 (fun z => evLess z x) (l.filter fun x => !sameNum x e)
    simp only [List.mem_filter, Bool.not_eq_true'] at this
    simp only [List.mem_append, List.mem_cons]
    constructor
    · rintro (h | h | h)
      · exact .inl (this.1 (.inl h))
      · exact .inr h
      · exact .inl (this.1 (.inr h))
    · rintro (h | h)
      · rcases this.2 h with h | h
        · exact .inl h
        · exact .inr (.inr h)
      · exact .inr (.inl h)
  rw [hmem]
  simp only [List.mem_append, List.mem_singleton, h.mem]
  constructor
  · rintro (⟨⟨h1, h2⟩, h3⟩ | rfl)
    · refine ⟨.inl h1, fun e' he' hs => ?_⟩
      rcases he' with he' | rfl
      · exact h2 e' he' hs
      · rw [hs] at h3; cases h3
    · refine ⟨?_, fun e' he' hs => ?_⟩
      · rcases a5 with a5 | a5
        · exact .inr a5
        · exact .inl ((h.mem y).1 a5).1
      · rcases he' with he' | rfl
        · -- the least of m with this number lies in l
          have hse : sameNum e' e = true := same_trans (same_symm hs) a2
          -- take the element of l below e'
          have key : ∃ q ∈ l, sameNum q e' = true ∧ evLess e' q = false := by
            have : ∀ (n : Nat) (z : Ev), z ∈ m → sameNum z e' = true → evLess e' z = false → (m.filter fun q => evLess q z).length ≤ n → ∃ q ∈ l, sameNum q e' = true ∧ evLess e' q = false := by
              intro n
              induction n with
              | zero =>
                intro z hz hzs hzl hn
                refine ⟨z, (h.mem z).2 ⟨hz, fun e2 he2 hs2 => ?_⟩, hzs, hzl⟩
                cases hq : evLess e2 z with
                | false => rfl
                | true =>
                  have : e2 ∈ m.filter fun q => evLess q z := List.mem_filter.2 ⟨he2, hq⟩
                  rw [List.eq_nil_of_length_eq_zero (Nat.le_zero.1 hn)] at this
                  cases this
              | succ n ih =>
                intro z hz hzs hzl hn
                by_cases hex : ∃ e2 ∈ m, sameNum z e2 = true ∧ evLess e2 z = true
                · obtain ⟨e2, he2, hs2, hl2⟩ := hex
                  refine ih e2 he2 (same_trans (same_symm hs2) hzs) ?_ ?_
                  · cases hq : evLess e' e2 with
                    | false => rfl
                    | true => rw [less_trans hq hl2] at hzl; cases hzl
                  · have hlt : (m.filter fun q => evLess q e2).length < (m.filter fun q => evLess q z).length := by
                      have hsub : (m.filter fun q => evLess q e2) = (m.filter fun q => evLess q z).filter fun q => evLess q e2 := by
                        rw [List.filter_filter]
                        refine List.filter_congr fun q _ => ?_
                        cases hq : evLess q e2 with
                        | false => simp
                        | true => simp [less_trans hq hl2]
                      rw [hsub]
                      exact List.length_filter_lt_length_iff_exists.2 ⟨e2, List.mem_filter.2 ⟨he2, hl2⟩, by rw [less_irrefl]; decide⟩
                    omega
                · refine ⟨z, (h.mem z).2 ⟨hz, fun e2 he2 hs2 => ?_⟩, hzs, hzl⟩
                  cases hq : evLess e2 z with
                  | false => rfl
                  | true => exact absurd ⟨e2, he2, hs2, hq⟩ hex
            exact this _ e' he' (same_refl _) (less_irrefl _) (Nat.le_refl _)
          obtain ⟨q, hq, hqs, hql⟩ := key
          have h1 := a3 q hq (same_trans hqs hse)
          cases h2 : evLess e' y with
          | false => rfl
          | true =>
            have := (swo_key Ev.keys 9 (fun _ => rfl)).ntrans e' q y hql h1
            rw [show lexLt e'.keys y.keys = evLess e' y from rfl, h2] at this
            cases this
        · exact a4
  · rintro ⟨h1, h2⟩
    cases hs : sameNum y e with
    | false =>
      rcases h1 with h1 | rfl
      · exact .inl ⟨⟨h1, fun e' he' => h2 e' (.inl he')⟩, rfl⟩
      · rw [same_refl] at hs; cases hs
    | true =>
      refine .inr (less_total ?_ ?_)
      · rcases h1 with h1 | rfl
        · exact a3 y ((h.mem y).2 ⟨h1, fun e' he' => h2 e' (.inl he')⟩) hs
        · exact a4
      · rcases a5 with rfl | a5
        · exact h2 x (.inr rfl) hs
        · exact h2 x (.inl ((h.mem x).1 a5).1) (same_trans hs (same_symm a2))
theorem refSet_isSet (l : List Ev) : IsSet l (refSet l) := by
  have : ∀ (l m s : List Ev), IsSet m s → IsSet (m ++ l) (l.foldl withE s) := by
    intro l
    induction l with
    | nil => intro m s h; simpa using h
    | cons x l ih =>
      intro m s h
      have := ih (m ++ [x]) (withE s x) (with_isSet h x)
      simpa using this
  have := this l [] [] ⟨by simp, by simp⟩
  simpa [refSet] using this
theorem refSet_eq (l : List Ev) : refSet l = setOf l := (refSet_isSet l).unique (set_isSet l)

end Go.Proofs.Cus

/-
  Plain functions: where the bicycles are (the program's way; no program in sight).
-/
namespace Go.Proofs.Cus

structure Sp where
  where_ : Int
  place : Int
  ride : Int
  paused : Bool
deriving DecidableEq, Inhabited
structure PT where
  rider : Int
  bike : Int
  paused : Bool
deriving DecidableEq, Inhabited
structure PS where
  spots : List Sp
  open_ : List (Int × PT)
  used : List Int
deriving DecidableEq, Inhabited

def parkedS (x : Sp) : Bool := decide (x.where_ = 1) || decide (x.where_ = 2)
def atP (wh pl : Int) (x : Sp) : Bool := decide (x.where_ = wh) && decide (x.place = pl)
def countP (l : List Sp) (wh pl : Int) : Nat := l.countP (atP wh pl)
def ridingP (l : List (Int × PT)) (rider : Int) : Bool := l.any fun p => decide (p.2.rider = rider)
def lookP (l : List (Int × PT)) (id : Int) : Option PT := (l.find? fun p => p.1 == id).map (·.2)
def usedP (l : List Int) (id : Int) : Bool := l.any fun i => i == id
def refuse (no : Bool) (e : Int) : Int := if no = true then e else 0
def checkP (trucks : List Int) (s : PS) (e : Ev) : Int :=
  let x := s.spots.getD e.bike.toNat default
  if e.kind = 1 then (if (!parkedS x && decide (0 < (countP s.spots 1 e.place : Int))) = true then 22 else refuse (parkedS x) 23)
  else if e.kind = 2 then refuse (parkedS x) 23
  else if e.kind = 3 then (if parkedS x = false then 23 else if usedP s.used e.ride = true then 6 else refuse (ridingP s.open_ e.rider) 22)
  else if e.kind = 4 then (match lookP s.open_ e.ride with | none => 7 | some t => if parkedS x = false then 23 else refuse t.paused 12)
  else if e.kind = 5 ∨ e.kind = 6 then (if x.where_ ≠ 3 then 23 else refuse (x.paused == decide (e.kind = 5)) 12)
  else if e.kind = 7 then (if (decide (x.where_ = 3) || decide (x.where_ = 4)) = true then 23 else refuse (decide (trucks.getD e.place.toNat 0 ≤ (countP s.spots 4 e.place : Int))) 24)
  else if e.kind = 8 then refuse (decide (x.where_ = 3) || decide (x.where_ = 5)) 23
  else if e.kind = 9 then refuse (decide (x.where_ = 5) || decide (x.where_ = 6)) 23
  else 0

def leaveP (s : PS) (bike : Nat) (to : Sp) : PS :=
  { s with open_ := if (s.spots.getD bike default).where_ = 3 then s.open_.eraseP (fun p => p.1 == (s.spots.getD bike default).ride) else s.open_, spots := s.spots.set bike to }
def setTrip (l : List (Int × PT)) (id : Int) (t : PT) : List (Int × PT) := l.map fun p => if p.1 == id then (p.1, t) else p
def usePut (l : List Int) (id : Int) : List Int := if usedP l id = true then l else l ++ [id]
def doP (s : PS) (e : Ev) : PS :=
  let k := e.bike.toNat
  if e.kind = 1 then leaveP s k ⟨1, e.place, 0, false⟩
  else if e.kind = 2 then leaveP s k ⟨2, e.place, 0, false⟩
  else if e.kind = 3 then { spots := s.spots.set k ⟨3, 0, e.ride, false⟩, open_ := s.open_ ++ [(e.ride, ⟨e.rider, e.bike, false⟩)], used := usePut s.used e.ride }
  else if e.kind = 4 then (match lookP s.open_ e.ride with
    | none => s
    | some t => { s with spots := (s.spots.set t.bike.toNat (s.spots.getD k default)).set k ⟨3, 0, e.ride, false⟩, open_ := setTrip s.open_ e.ride { t with bike := e.bike } })
  else if e.kind = 5 ∨ e.kind = 6 then
    let p := decide (e.kind = 5)
    let x := s.spots.getD k default
    { s with spots := s.spots.set k { x with paused := p }, open_ := match lookP s.open_ x.ride with | none => s.open_ | some t => setTrip s.open_ x.ride { t with paused := p } }
  else if e.kind = 7 then leaveP s k ⟨4, e.place, 0, false⟩
  else if e.kind = 8 then leaveP s k ⟨5, 0, 0, false⟩
  else if e.kind = 9 then leaveP s k ⟨6, 0, 0, false⟩
  else s
def beginP (n : Nat) : PS := ⟨List.replicate n ⟨5, 0, 0, false⟩, [], []⟩

/-- what holds of the states that are reached -/
structure PInv (n : Nat) (s : PS) : Prop where
  len : s.spots.length = n
  keys : (s.open_.map (·.1)).Nodup
  used : ∀ p ∈ s.open_, usedP s.used p.1 = true
  bike : ∀ p ∈ s.open_, 0 ≤ p.2.bike ∧ ∃ x, s.spots[p.2.bike.toNat]? = some x ∧ x.where_ = 3 ∧ x.ride = p.1 ∧ x.paused = p.2.paused
  spot : ∀ (k : Nat) x, s.spots[k]? = some x → x.where_ = 3 → ∃ t, (x.ride, t) ∈ s.open_ ∧ t.bike = (k : Int)

end Go.Proofs.Cus

/-
  Plain facts: what holds of the states that are reached.
-/
namespace Go.Proofs.Cus

theorem nodup_fst {l : List (Int × PT)} (h : (l.map (·.1)).Nodup) {p q : Int × PT} (hp : p ∈ l) (hq : q ∈ l) (he : p.1 = q.1) : p = q := by
  obtain ⟨i, hi, rfl⟩ := List.getElem_of_mem hp
  obtain ⟨j, hj, rfl⟩ := List.getElem_of_mem hq
  have := List.pairwise_iff_getElem.1 h
  rcases Nat.lt_trichotomy i j with h1 | h1 | h1
  · exact absurd (by rw [List.getElem_map, List.getElem_map]; exact he) (this i j (by simpa using hi) (by simpa using hj) h1)
  · subst h1; rfl
  · exact absurd (by rw [List.getElem_map, List.getElem_map]; exact he.symm) (this j i (by simpa using hj) (by simpa using hi) h1)
theorem mem_eraseKey : ∀ {l : List (Int × PT)}, (l.map (·.1)).Nodup → ∀ {r : Int} {p : Int × PT}, p ∈ l.eraseP (fun q => q.1 == r) ↔ p ∈ l ∧ p.1 ≠ r
  | [], _, r, p => by simp
  | y :: l, h, r, p => by
    simp only [List.map_cons, List.nodup_cons] at h
    by_cases hy : y.1 = r
    · rw [List.eraseP_cons_of_pos (by simpa using hy)]
      refine ⟨fun hp => ⟨List.mem_cons_of_mem _ hp, fun e => h.1 ?_⟩, fun ⟨hp, hne⟩ => ?_⟩
      · rw [hy, ← e]; exact List.mem_map.2 ⟨p, hp, rfl⟩
      · rcases List.mem_cons.1 hp with rfl | hp
        · exact absurd hy hne
        · exact hp
    · rw [List.eraseP_cons_of_neg (by simpa using hy)]
      simp only [List.mem_cons]
      rw [mem_eraseKey h.2]
      constructor
      · rintro (rfl | ⟨h1, h2⟩)
        · exact ⟨.inl rfl, hy⟩
        · exact ⟨.inr h1, h2⟩
      · rintro ⟨rfl | h1, h2⟩
        · exact .inl rfl
        · exact .inr ⟨h1, h2⟩
theorem mem_setTrip {l : List (Int × PT)} {id : Int} {t : PT} {p : Int × PT} : p ∈ setTrip l id t ↔ (∃ q ∈ l, q.1 = id ∧ p = (id, t)) ∨ (p ∈ l ∧ p.1 ≠ id) := by
  unfold setTrip
  rw [List.mem_map]
  constructor
  · rintro ⟨q, hq, rfl⟩
    by_cases h : q.1 = id
    · left; exact ⟨q, hq, h, by simp [h]⟩
    · right; rw [if_neg (by simpa using h)]; exact ⟨hq, h⟩
  · rintro (⟨q, hq, h, rfl⟩ | ⟨hp, hne⟩)
    · exact ⟨q, hq, by simp [h]⟩
    · exact ⟨p, hp, by rw [if_neg (by simpa using hne)]⟩
theorem setTrip_keys (l : List (Int × PT)) (id : Int) (t : PT) : (setTrip l id t).map (·.1) = l.map (·.1) := by
  unfold setTrip
  rw [List.map_map]
  apply List.map_congr_left
  intro p _
  simp only [Function.comp]
  split <;> rfl
theorem lookP_some {l : List (Int × PT)} {id : Int} {t : PT} (h : lookP l id = some t) : (id, t) ∈ l := by
  unfold lookP at h
  cases hf : l.find? (fun p => p.1 == id) with
  | none => rw [hf] at h; cases h
  | some p =>
    rw [hf] at h
    have h1 := List.find?_some hf
    have h2 := List.mem_of_find?_eq_some hf
    simp only [Option.map_some, Option.some.injEq] at h
    simp only [beq_iff_eq] at h1
    rw [← h1, ← h]; exact h2
theorem lookP_of {l : List (Int × PT)} (hn : (l.map (·.1)).Nodup) {id : Int} {t : PT} (h : (id, t) ∈ l) : lookP l id = some t := by
  unfold lookP
  cases hf : l.find? (fun p => p.1 == id) with
  | none => have := List.find?_eq_none.1 hf _ h; simp at this
  | some p =>
    have h1 := List.find?_some hf
    simp only [beq_iff_eq] at h1
    have := nodup_fst hn (List.mem_of_find?_eq_some hf) h h1
    rw [this]; rfl
theorem usedP_mem {l : List Int} {id : Int} : usedP l id = true ↔ id ∈ l := by
  unfold usedP
  rw [List.any_eq_true]
  exact ⟨fun ⟨x, hx, h⟩ => by rw [← eq_of_beq h]; exact hx, fun h => ⟨id, h, by simp⟩⟩
theorem usePut_mem {l : List Int} {id x : Int} : x ∈ usePut l id ↔ x ∈ l ∨ x = id := by
  unfold usePut
  split
  · rename_i h
    exact ⟨.inl, fun h' => h'.elim (fun h => h) fun e => e ▸ usedP_mem.1 h⟩
  · simp

section
variable {n : Nat} {s : PS}
theorem get_of {s : PS} (k : Nat) (h : k < s.spots.length) : ∃ x, s.spots[k]? = some x ∧ s.spots.getD k default = x := by
  refine ⟨_, List.getElem?_eq_getElem h, ?_⟩
  rw [List.getD_eq_getElem?_getD, List.getElem?_eq_getElem h]; rfl

theorem PInv.leave (h : PInv n s) (k : Nat) (hk : k < n) (to : Sp) (hto : to.where_ ≠ 3) : PInv n (leaveP s k to) := by
  obtain ⟨x, hx, hg⟩ := get_of (s := s) k (by rw [h.len]; exact hk)
  have hmem : ∀ p, p ∈ (leaveP s k to).open_ ↔ p ∈ s.open_ ∧ (x.where_ = 3 → p.1 ≠ x.ride) := by
    intro p
    unfold leaveP
    rw [hg]
    by_cases h3 : x.where_ = 3
    · simp only [h3, if_true, true_implies]; exact mem_eraseKey h.keys
    · simp only [h3, if_false, false_implies, and_true]
  have hsp : ∀ j : Nat, (leaveP s k to).spots[j]? = if k = j then some to else s.spots[j]? := by
    intro j
    show (s.spots.set k to)[j]? = _
    rw [List.getElem?_set]
    by_cases e : k = j
    · subst e; simp; rw [h.len]; exact hk
    · simp [e]
  refine ⟨by show (s.spots.set k to).length = n; rw [List.length_set]; exact h.len, ?_, fun p hp => h.used p ((hmem p).1 hp).1, fun p hp => ?_, fun j y hy h3 => ?_⟩
  · unfold leaveP
    rw [hg]
    by_cases h3 : x.where_ = 3
    · simp only [h3, if_true]
      exact h.keys.sublist (List.eraseP_sublist.map _)
    · simp only [h3, if_false]; exact h.keys
  · obtain ⟨hp1, hp2⟩ := (hmem p).1 hp
    obtain ⟨hb, y, hy, y3, yr, yp⟩ := h.bike p hp1
    refine ⟨hb, y, ?_, y3, yr, yp⟩
    rw [hsp, if_neg (fun e => ?_)]
    · exact hy
    · rw [← e, hx] at hy
      cases hy
      exact hp2 y3 yr.symm
  · rw [hsp] at hy
    split at hy
    · cases hy; exact absurd h3 hto
    · rename_i hne
      obtain ⟨t, ht, hb⟩ := h.spot j y hy h3
      refine ⟨t, (hmem _).2 ⟨ht, fun x3 e => hne ?_⟩, hb⟩
      obtain ⟨t2, ht2, hb2⟩ := h.spot k x hx x3
      have := nodup_fst h.keys ht ht2 e
      simp only [Prod.mk.injEq] at this
      rw [this.2, hb2] at hb
      omega

theorem PInv.start (h : PInv n s) (k : Nat) (hk : k < n) (ride rider : Int) (hx3 : (s.spots.getD k default).where_ ≠ 3) (hu : usedP s.used ride = false) :
    PInv n { spots := s.spots.set k ⟨3, 0, ride, false⟩, open_ := s.open_ ++ [(ride, ⟨rider, k, false⟩)], used := usePut s.used ride } := by
  obtain ⟨x, hx, hg⟩ := get_of (s := s) k (by rw [h.len]; exact hk)
  rw [hg] at hx3
  have hsp : ∀ j : Nat, (s.spots.set k ⟨3, 0, ride, false⟩)[j]? = if k = j then some ⟨3, 0, ride, false⟩ else s.spots[j]? := by
    intro j
    rw [List.getElem?_set]
    by_cases e : k = j
    · subst e; simp; rw [h.len]; exact hk
    · simp [e]
  have hnew : ∀ p ∈ s.open_, p.1 ≠ ride := fun p hp e => by
    have := h.used p hp
    rw [e, hu] at this; cases this
  refine ⟨by simpa using h.len, ?_, ?_, ?_, ?_⟩
  · simp only [List.map_append, List.map_cons, List.map_nil]
    refine List.nodup_append.2 ⟨h.keys, by simp, fun a ha b hb => ?_⟩
    simp only [List.mem_singleton] at hb
    obtain ⟨p, hp, rfl⟩ := List.mem_map.1 ha
    rw [hb]; exact hnew p hp
  · intro p hp
    rw [usedP_mem, usePut_mem]
    rcases List.mem_append.1 hp with hp | hp
    · left; exact usedP_mem.1 (h.used p hp)
    · right; simp only [List.mem_singleton] at hp; rw [hp]
  · intro p hp
    rcases List.mem_append.1 hp with hp | hp
    · obtain ⟨hb, y, hy, y3, yr⟩ := h.bike p hp
      refine ⟨hb, y, ?_, y3, yr⟩
      rw [hsp, if_neg (fun e => ?_)]
      · exact hy
      · rw [← e, hx] at hy; cases hy; exact hx3 y3
    · simp only [List.mem_singleton] at hp
      subst hp
      exact ⟨by simp, ⟨3, 0, ride, false⟩, by rw [hsp]; simp, rfl, rfl, rfl⟩
  · intro j y hy h3
    simp only at hy
    rw [hsp] at hy
    split at hy
    · rename_i e
      cases hy
      exact ⟨⟨rider, k, false⟩, List.mem_append.2 (.inr (by simp)), by simp [e]⟩
    · obtain ⟨t, ht, hb⟩ := h.spot j y hy h3
      exact ⟨t, List.mem_append.2 (.inl ht), hb⟩

theorem PInv.swap (h : PInv n s) (k : Nat) (hk : k < n) (ride : Int) (t : PT) (ht : (ride, t) ∈ s.open_) (hx3 : (s.spots.getD k default).where_ ≠ 3) (hp : t.paused = false) :
    PInv n { s with spots := (s.spots.set t.bike.toNat (s.spots.getD k default)).set k ⟨3, 0, ride, false⟩, open_ := setTrip s.open_ ride { t with bike := (k : Int) } } := by
  obtain ⟨x, hx, hg⟩ := get_of (s := s) k (by rw [h.len]; exact hk)
  rw [hg] at hx3 ⊢
  obtain ⟨hb0, y, hy, y3, yr, yp⟩ := h.bike _ ht
  simp only at hb0 hy yr yp
  obtain ⟨j, hj⟩ : ∃ j, j = t.bike.toNat := ⟨_, rfl⟩
  rw [← hj] at hy ⊢
  have hjk : j ≠ k := fun e => by rw [e, hx] at hy; cases hy; exact hx3 y3
  have hjn : j < s.spots.length := (List.getElem?_eq_some_iff.1 hy).1
  have hsp : ∀ i : Nat, ((s.spots.set j x).set k ⟨3, 0, ride, false⟩)[i]? = if k = i then some ⟨3, 0, ride, false⟩ else if j = i then some x else s.spots[i]? := by
    intro i
    rw [List.getElem?_set, List.getElem?_set]
    by_cases e : k = i
    · subst e; simp; rw [h.len]; exact hk
    · simp only [e, if_false]
      by_cases e2 : j = i
      · subst e2; simp [hjn]
      · simp [e2]
  refine ⟨by simpa using h.len, by simp only [setTrip_keys]; exact h.keys, ?_, ?_, ?_⟩
  · intro p hp
    rcases mem_setTrip.1 hp with ⟨q, hq, hq1, rfl⟩ | ⟨hp, _⟩
    · have := h.used q hq; rw [hq1] at this; exact this
    · exact h.used p hp
  · intro p hp'
    rcases mem_setTrip.1 hp' with ⟨q, hq, hq1, rfl⟩ | ⟨hp', hne⟩
    · exact ⟨by simp, ⟨3, 0, ride, false⟩, by rw [hsp]; simp, rfl, rfl, hp.symm⟩
    · obtain ⟨hb, z, hz, z3, zr, zp⟩ := h.bike p hp'
      refine ⟨hb, z, ?_, z3, zr, zp⟩
      rw [hsp, if_neg (fun e => ?_), if_neg (fun e => ?_)]
      · exact hz
      · rw [← e, hy] at hz; cases hz; exact hne (zr.symm.trans yr)
      · rw [← e, hx] at hz; cases hz; exact hx3 z3
  · intro i z hz h3
    simp only at hz
    rw [hsp] at hz
    split at hz
    · rename_i e
      cases hz
      exact ⟨_, mem_setTrip.2 (.inl ⟨_, ht, rfl, rfl⟩), by simp [e]⟩
    · rename_i hki
      split at hz
      · cases hz; exact absurd h3 hx3
      · rename_i hji
        obtain ⟨t2, ht2, hb2⟩ := h.spot i z hz h3
        refine ⟨t2, mem_setTrip.2 (.inr ⟨ht2, fun e => hji ?_⟩), hb2⟩
        have := nodup_fst h.keys ht2 ht e
        simp only [Prod.mk.injEq] at this
        rw [this.2] at hb2
        omega

theorem PInv.pause (h : PInv n s) (k : Nat) (hk : k < n) (pa : Bool) (t : PT) (hx3 : (s.spots.getD k default).where_ = 3) (ht : ((s.spots.getD k default).ride, t) ∈ s.open_) :
    PInv n { s with spots := s.spots.set k { (s.spots.getD k default) with paused := pa }, open_ := setTrip s.open_ (s.spots.getD k default).ride { t with paused := pa } } := by
  obtain ⟨x, hx, hg⟩ := get_of (s := s) k (by rw [h.len]; exact hk)
  rw [hg] at hx3 ht ⊢
  obtain ⟨t2, ht2, hb2⟩ := h.spot k x hx hx3
  have htt := nodup_fst h.keys ht2 ht rfl
  simp only [Prod.mk.injEq, true_and] at htt
  subst htt
  have hsp : ∀ i : Nat, (s.spots.set k { x with paused := pa })[i]? = if k = i then some { x with paused := pa } else s.spots[i]? := by
    intro i
    rw [List.getElem?_set]
    by_cases e : k = i
    · subst e; simp; rw [h.len]; exact hk
    · simp [e]
  refine ⟨by simpa using h.len, by simp only [setTrip_keys]; exact h.keys, ?_, ?_, ?_⟩
  · intro p hp
    rcases mem_setTrip.1 hp with ⟨q, hq, hq1, rfl⟩ | ⟨hp, _⟩
    · have := h.used q hq; rw [hq1] at this; exact this
    · exact h.used p hp
  · intro p hp'
    rcases mem_setTrip.1 hp' with ⟨q, hq, hq1, rfl⟩ | ⟨hp', hne⟩
    · refine ⟨by show 0 ≤ t2.bike; omega, { x with paused := pa }, ?_, hx3, rfl, rfl⟩
      show (s.spots.set k { x with paused := pa })[t2.bike.toNat]? = _
      rw [hsp, if_pos (by omega)]
    · obtain ⟨hb, z, hz, z3, zr, zp⟩ := h.bike p hp'
      refine ⟨hb, z, ?_, z3, zr, zp⟩
      rw [hsp, if_neg (fun e => ?_)]
      · exact hz
      · rw [← e, hx] at hz; cases hz; exact hne zr.symm
  · intro i z hz h3
    simp only at hz
    rw [hsp] at hz
    split at hz
    · rename_i e
      cases hz
      exact ⟨_, mem_setTrip.2 (.inl ⟨_, ht2, rfl, rfl⟩), by show t2.bike = _; omega⟩
    · rename_i hki
      obtain ⟨t3, ht3, hb3⟩ := h.spot i z hz h3
      refine ⟨t3, mem_setTrip.2 (.inr ⟨ht3, fun e => hki ?_⟩), hb3⟩
      have := nodup_fst h.keys ht3 ht2 e
      simp only [Prod.mk.injEq] at this
      rw [this.2] at hb3
      omega

theorem refuse_ok {no : Bool} {e : Int} (he : e ≠ 0) (h : refuse no e = 0) : no = false := by
  unfold refuse at h
  cases no with
  | false => rfl
  | true => rw [if_pos rfl] at h; exact absurd h he
theorem parked_no3 {x : Sp} (h : parkedS x = true) : x.where_ ≠ 3 := by
  unfold parkedS at h
  simp at h
  omega
theorem PInv.step (h : PInv n s) {tr : List Int} {e : Ev} (hb : 0 ≤ e.bike ∧ e.bike < n) (hc : checkP tr s e = 0) : PInv n (doP s e) := by
  have hk : e.bike.toNat < n := by omega
  have hbk : ((e.bike.toNat : Nat) : Int) = e.bike := by omega
  unfold checkP at hc
  unfold doP
  simp only at hc ⊢
  by_cases h1 : e.kind = 1
  · rw [if_pos h1]; exact h.leave _ hk _ (by simp)
  rw [if_neg h1] at hc ⊢
  by_cases h2 : e.kind = 2
  · rw [if_pos h2]; exact h.leave _ hk _ (by simp)
  rw [if_neg h2] at hc ⊢
  by_cases h3 : e.kind = 3
  · rw [if_pos h3] at hc ⊢
    split at hc
    · cases hc
    · rename_i hp
      split at hc
      · cases hc
      · rename_i hu
        have := h.start e.bike.toNat hk e.ride e.rider (parked_no3 (by simpa using hp)) (by simpa using hu)
        rw [hbk] at this
        exact this
  rw [if_neg h3] at hc ⊢
  by_cases h4 : e.kind = 4
  · rw [if_pos h4] at hc ⊢
    cases hl : lookP s.open_ e.ride with
    | none => exact h
    | some t =>
      rw [hl] at hc
      simp only at hc ⊢
      split at hc
      · cases hc
      · rename_i hp
        have := h.swap e.bike.toNat hk e.ride t (lookP_some hl) (parked_no3 (by simpa using hp)) (refuse_ok (by decide) hc)
        rw [hbk] at this
        exact this
  rw [if_neg h4] at hc ⊢
  by_cases h5 : e.kind = 5 ∨ e.kind = 6
  · rw [if_pos h5] at hc ⊢
    split at hc
    · cases hc
    · rename_i hw
      have hw' : (s.spots.getD e.bike.toNat default).where_ = 3 := Decidable.of_not_not hw
      obtain ⟨x, hx, hg⟩ := get_of (s := s) e.bike.toNat (by rw [h.len]; exact hk)
      obtain ⟨t, ht, _⟩ := h.spot _ x hx (by rw [← hg]; exact hw')
      rw [← hg] at ht
      rw [lookP_of h.keys ht]
      exact h.pause e.bike.toNat hk (decide (e.kind = 5)) t hw' ht
  rw [if_neg h5] at hc ⊢
  by_cases h7 : e.kind = 7
  · rw [if_pos h7]; exact h.leave _ hk _ (by simp)
  rw [if_neg h7] at hc ⊢
  by_cases h8 : e.kind = 8
  · rw [if_pos h8]; exact h.leave _ hk _ (by simp)
  rw [if_neg h8] at hc ⊢
  by_cases h9 : e.kind = 9
  · rw [if_pos h9]; exact h.leave _ hk _ (by simp)
  rw [if_neg h9]
  exact h
theorem PInv.begin (n : Nat) : PInv n (beginP n) := by
  refine ⟨by simp [beginP], by simp [beginP], fun p hp => by simp [beginP] at hp, fun p hp => by simp [beginP] at hp, fun k x hx h3 => ?_⟩
  simp only [beginP, List.getElem?_replicate] at hx
  split at hx
  · cases hx; simp at h3
  · cases hx
end

end Go.Proofs.Cus

/-
  Plain functions: the run over a list of events, with what is told of each.
-/
namespace Go.Proofs.Cus

theorem evErr_ok {f : Fl} {e : Ev} (h : evErr f e = 0) : flErr f = 0 ∧ (0 ≤ e.bike ∧ e.bike < f.bikes) ∧ (e.kind = 7 → 0 ≤ e.place ∧ e.place < f.trucks.length) ∧ (1 ≤ e.kind ∧ e.kind ≤ 10) ∧ 0 ≤ e.at_ ∧ e.at_ ≤ 4294943999 := by
  unfold evErr at h
  split at h
  · rename_i h0; exact absurd h h0
  · rename_i h0
    split at h
    · cases h
    · rename_i h1
      split at h
      · cases h
      · rename_i h2
        split at h
        · cases h
        · rename_i h3
          split at h
          · cases h
          · rename_i h4
            refine ⟨Decidable.of_not_not h0, ?_, fun h7 => ?_, ?_, ?_⟩
            · simp [within] at h3; omega
            · unfold placed at h4
              rw [if_neg (by omega), if_neg (by omega), if_pos h7] at h4
              simp [within] at h4
              omega
            · simp [within] at h2; omega
            · simp [within] at h1; omega

/-- what is told of an event: nothing of a beat that is right, else its error -/
def stepR (f : Fl) (s : PS) (e : Ev) : PS × Option Int :=
  if evErr f e = 0 ∧ e.kind = 10 then (s, none)
  else
    let er := if evErr f e = 0 then checkP f.trucks s e else evErr f e
    (if er = 0 then doP s e else s, some er)
def tellR {σ : Type} (cb : σ → PS → Ev → Int → σ) (z : σ) (e : Ev) (r : PS × Option Int) : PS × σ :=
  match r.2 with
  | none => (r.1, z)
  | some er => (r.1, cb z r.1 e er)
def runR {σ : Type} (f : Fl) (cb : σ → PS → Ev → Int → σ) (l : List Ev) (x : PS × σ) : PS × σ := l.foldl (fun x e => tellR cb x.2 e (stepR f x.1 e)) x

theorem stepR_inv {n : Nat} {f : Fl} {s : PS} {e : Ev} (hn : f.bikes = n) (h : PInv n s) : PInv n (stepR f s e).1 := by
  unfold stepR
  split
  · exact h
  · simp only
    by_cases h1 : evErr f e = 0
    · rw [if_pos h1]
      by_cases h0 : checkP f.trucks s e = 0
      · rw [if_pos h0]
        have := (evErr_ok h1).2.1
        exact h.step (by omega) h0
      · rw [if_neg h0]; exact h
    · rw [if_neg h1, if_neg h1]; exact h
theorem tellR_fst {σ : Type} (cb : σ → PS → Ev → Int → σ) (z : σ) (e : Ev) (r : PS × Option Int) : (tellR cb z e r).1 = r.1 := by
  unfold tellR; split <;> rfl
theorem runR_inv {σ : Type} {n : Nat} {f : Fl} {cb : σ → PS → Ev → Int → σ} (hn : f.bikes = n) : ∀ (l : List Ev) (x : PS × σ), PInv n x.1 → PInv n (runR f cb l x).1
  | [], _, h => h
  | e :: l, x, h => by
    show PInv n (runR f cb l _).1
    refine runR_inv hn l _ ?_
    show PInv n (tellR cb x.2 e (stepR f x.1 e)).1
    rw [tellR_fst]
    exact stepR_inv hn h
theorem runR_snoc {σ : Type} {f : Fl} {cb : σ → PS → Ev → Int → σ} (l : List Ev) (x : PS × σ) (k : Nat) (e : Ev) (h : l[k]? = some e) : runR f cb (l.take (k + 1)) x = tellR cb (runR f cb (l.take k) x).2 e (stepR f (runR f cb (l.take k) x).1 e) := by
  unfold runR
  rw [List.take_add_one, h, List.foldl_append]
  rfl

end Go.Proofs.Cus

/-
  Plain functions: stays and loads, the program's way.
-/
namespace Go.Proofs.Cus

structure Sty where
  bike : Int
  where_ : Int
  place : Int
  ride : Int
  from_ : Int
  to_ : Int
deriving DecidableEq, Inhabited
structure Lv where
  at_ : Int
  count : Int
deriving DecidableEq, Inhabited

def samePl (x y : Sty) : Bool := (decide (x.where_ = y.where_) && decide (x.place = y.place)) && decide (x.ride = y.ride)
/-- the stay ends -/
def endS (at_ : Int) (z : Sty × List Sty) : Sty × List Sty :=
  let now := { z.1 with to_ := at_ }
  if z.1.from_ = at_ then (now, z.2)
  else
    match z.2.getLast? with
    | some y => if samePl y z.1 = true then (now, z.2.dropLast ++ [{ y with to_ := at_ }]) else (now, z.2 ++ [now])
    | none => (now, z.2 ++ [now])
def movedS (x : Sp) (y : Sty) : Bool := (!decide (x.where_ = y.where_) || !decide (x.place = y.place)) || !decide (x.ride = y.ride)
def stayCb (bike : Nat) (z : Sty × List Sty) (s : PS) (e : Ev) (er : Int) : Sty × List Sty :=
  let x := s.spots.getD bike default
  if er = 0 ∧ movedS x z.1 = true then (⟨bike, x.where_, x.place, x.ride, e.at_, 0⟩, (endS e.at_ z).2) else z
def stay0 (bike : Nat) : Sty := ⟨bike, 5, 0, 0, 0, 0⟩
def loadCb (truck : Nat) (z : List Lv) (s : PS) (e : Ev) (er : Int) : List Lv :=
  if er ≠ 0 then z
  else
    match z.getLast? with
    | some y => if y.at_ = e.at_ then z.dropLast ++ [{ y with count := (countP s.spots 4 truck : Int) }] else z ++ [⟨e.at_, (countP s.spots 4 truck : Int)⟩]
    | none => z

theorem last_set {α : Type} {l : List α} {y z : α} (h : l.getLast? = some y) : l[l.length - 1]? = some y ∧ l.set (l.length - 1) z = l.dropLast ++ [z] ∧ 0 < l.length := by
  have hne : l ≠ [] := fun e => by subst e; cases h
  have hl : 0 < l.length := List.length_pos_iff.2 hne
  refine ⟨by rw [List.getLast?_eq_getElem?] at h; exact h, ?_, hl⟩
  conv => lhs; rw [← List.dropLast_concat_getLast hne]
  rw [List.set_append_right _ _ (by simp)]
  simp

end Go.Proofs.Cus

/-
  Plain functions: the reference's state, and how it stands to the program's.
-/
namespace Go.Proofs.Cus

structure RT where
  id : Int
  rider : Int
  bike : Int
  open_ : Bool
deriving DecidableEq, Inhabited
structure RS where
  spots : List Sp
  trips : List RT
deriving DecidableEq, Inhabited

def findT (l : List RT) (id : Int) : Option Nat := l.findIdx? fun t => t.id == id
def findI (l : List RT) (id : Int) : Int := match findT l id with | some k => (k : Int) | none => -1
def ridesR (l : List RT) (rider : Int) : Bool := l.any fun t => t.open_ && decide (t.rider = rider)
theorem findT_some {l : List RT} {id : Int} {k : Nat} (h : findT l id = some k) : ∃ t, l[k]? = some t ∧ t.id = id := by
  obtain ⟨hk, hp, _⟩ := List.findIdx?_eq_some_iff_getElem.1 h
  exact ⟨l[k], List.getElem?_eq_getElem hk, by simpa using hp⟩
theorem findT_none {l : List RT} {id : Int} : findT l id = none ↔ ∀ t ∈ l, t.id ≠ id := by
  unfold findT
  rw [List.findIdx?_eq_none_iff]
  constructor
  · intro h t ht; simpa using h t ht
  · intro h t ht; simpa using h t ht
theorem findT_of {l : List RT} (hn : (l.map (·.id)).Nodup) {k : Nat} {t : RT} (h : l[k]? = some t) : findT l t.id = some k := by
  cases hf : findT l t.id with
  | none => exact absurd rfl (findT_none.1 hf t (List.mem_of_getElem? h))
  | some j =>
    obtain ⟨u, hu, hid⟩ := findT_some hf
    obtain ⟨hj, hju⟩ := List.getElem?_eq_some_iff.1 hu
    obtain ⟨hk, hkt⟩ := List.getElem?_eq_some_iff.1 h
    have := List.pairwise_iff_getElem.1 hn
    rcases Nat.lt_trichotomy j k with h1 | h1 | h1
    · exact absurd (by rw [List.getElem_map, List.getElem_map, hju, hkt, hid]) (this j k (by simpa using hj) (by simpa using hk) h1)
    · rw [h1]
    · exact absurd (by rw [List.getElem_map, List.getElem_map, hju, hkt, hid]) (this k j (by simpa using hk) (by simpa using hj) h1)

def closeT (l : List RT) (i : Nat) : List RT := match l[i]? with | some t => l.set i { t with open_ := false } | none => l
def putR (r : RS) (k : Nat) (x : Sp) : RS :=
  { spots := r.spots.set k x, trips := if (r.spots.getD k default).where_ = 3 then closeT r.trips ((findT r.trips (r.spots.getD k default).ride).getD 0) else r.trips }
def applyR (r : RS) (e : Ev) : RS :=
  let k := e.bike.toNat
  if e.kind = 1 then putR r k ⟨1, e.place, 0, false⟩
  else if e.kind = 2 then putR r k ⟨2, e.place, 0, false⟩
  else if e.kind = 7 then putR r k ⟨4, e.place, 0, false⟩
  else if e.kind = 8 then putR r k ⟨5, 0, 0, false⟩
  else if e.kind = 9 then putR r k ⟨6, 0, 0, false⟩
  else if e.kind = 3 then { spots := r.spots.set k ⟨3, 0, e.ride, false⟩, trips := r.trips ++ [⟨e.ride, e.rider, e.bike, true⟩] }
  else if e.kind = 4 then
    let i := (findT r.trips e.ride).getD 0
    let t := r.trips.getD i default
    { spots := (r.spots.set t.bike.toNat (r.spots.getD k default)).set k ⟨3, 0, e.ride, false⟩, trips := r.trips.set i { t with bike := e.bike } }
  else if e.kind = 5 then { r with spots := r.spots.set k { (r.spots.getD k default) with paused := true } }
  else if e.kind = 6 then { r with spots := r.spots.set k { (r.spots.getD k default) with paused := false } }
  else r
def beginR (n : Nat) : RS := ⟨List.replicate n ⟨5, 0, 0, false⟩, []⟩
/-- the error of an event at a state, 0 for a beat -/
def errR (f : Fl) (s : PS) (e : Ev) : Int := if evErr f e ≠ 0 then evErr f e else if e.kind = 10 then 0 else checkP f.trucks s e

structure Rel (n : Nat) (s : PS) (r : RS) : Prop where
  inv : PInv n s
  spots : r.spots = s.spots
  ids : (r.trips.map (·.id)).Nodup
  used : ∀ id, usedP s.used id = true ↔ ∃ t ∈ r.trips, t.id = id
  op1 : ∀ t ∈ r.trips, t.open_ = true → ∃ pa, (t.id, (⟨t.rider, t.bike, pa⟩ : PT)) ∈ s.open_
  op2 : ∀ p ∈ s.open_, (⟨p.1, p.2.rider, p.2.bike, true⟩ : RT) ∈ r.trips

theorem Rel.begin (n : Nat) : Rel n (beginP n) (beginR n) :=
  ⟨PInv.begin n, rfl, by simp [beginR], fun id => by simp [beginP, beginR, usedP], fun t ht => by simp [beginR] at ht, fun p hp => by simp [beginP] at hp⟩

section
variable {n : Nat} {s : PS} {r : RS}
theorem trip_uniq (h : (r.trips.map (·.id)).Nodup) {t u : RT} (ht : t ∈ r.trips) (hu : u ∈ r.trips) (he : t.id = u.id) : t = u := by
  obtain ⟨i, hi⟩ := List.mem_iff_getElem?.1 ht
  obtain ⟨j, hj⟩ := List.mem_iff_getElem?.1 hu
  have h1 := findT_of h hi
  have h2 := findT_of h hj
  rw [he, h2] at h1
  cases h1
  rw [hi] at hj
  exact (Option.some.inj hj)
theorem Rel.findUsed (h : Rel n s r) (id : Int) : usedP s.used id = decide (0 ≤ findI r.trips id) := by
  rw [Bool.eq_iff_iff, h.used, decide_eq_true_eq]
  unfold findI
  cases hf : findT r.trips id with
  | none => simp only; have := findT_none.1 hf; constructor
            · rintro ⟨t, ht, e⟩; exact absurd e (this t ht)
            · intro h; omega
  | some k => simp only; obtain ⟨t, ht, e⟩ := findT_some hf; exact ⟨fun _ => by omega, fun _ => ⟨t, List.mem_of_getElem? ht, e⟩⟩
theorem Rel.riding (h : Rel n s r) (rider : Int) : ridingP s.open_ rider = ridesR r.trips rider := by
  unfold ridingP ridesR
  rw [Bool.eq_iff_iff, List.any_eq_true, List.any_eq_true]
  constructor
  · rintro ⟨p, hp, h1⟩
    exact ⟨_, h.op2 p hp, by simpa using h1⟩
  · rintro ⟨t, ht, h1⟩
    simp at h1
    obtain ⟨pa, hpa⟩ := h.op1 t ht h1.1
    exact ⟨_, hpa, by simpa using h1.2⟩
/-- what is open under a number -/
theorem Rel.look (h : Rel n s r) (id : Int) : (lookP s.open_ id = none ∧ (findT r.trips id = none ∨ ∃ k t, findT r.trips id = some k ∧ r.trips[k]? = some t ∧ t.open_ = false)) ∨
    ∃ k p, lookP s.open_ id = some p ∧ (id, p) ∈ s.open_ ∧ findT r.trips id = some k ∧ r.trips[k]? = some ⟨id, p.rider, p.bike, true⟩ ∧ 0 ≤ p.bike ∧ p.bike < n ∧ (s.spots.getD p.bike.toNat default).paused = p.paused := by
  cases hl : lookP s.open_ id with
  | none =>
    left
    refine ⟨rfl, ?_⟩
    cases hf : findT r.trips id with
    | none => exact .inl rfl
    | some k =>
      obtain ⟨t, ht, hid⟩ := findT_some hf
      refine .inr ⟨k, t, rfl, ht, ?_⟩
      cases ho : t.open_ with
      | false => rfl
      | true =>
        obtain ⟨pa, hpa⟩ := h.op1 t (List.mem_of_getElem? ht) ho
        rw [hid] at hpa
        rw [lookP_of h.inv.keys hpa] at hl
        cases hl
  | some p =>
    right
    have hp := lookP_some hl
    obtain ⟨k, hk⟩ := List.mem_iff_getElem?.1 (h.op2 _ hp)
    obtain ⟨hb, x, hx, _, _, hpa⟩ := h.inv.bike _ hp
    simp only at hb hx hpa
    have hlt := (List.getElem?_eq_some_iff.1 hx).1
    rw [h.inv.len] at hlt
    refine ⟨k, p, rfl, hp, findT_of h.ids hk, hk, hb, by omega, ?_⟩
    rw [List.getD_eq_getElem?_getD, hx]
    exact hpa
/-- a bicycle in a ride -/
theorem Rel.ride (h : Rel n s r) {k : Nat} {x : Sp} (hx : s.spots[k]? = some x) (h3 : x.where_ = 3) : ∃ i p, findT r.trips x.ride = some i ∧ (x.ride, p) ∈ s.open_ ∧ r.trips[i]? = some ⟨x.ride, p.rider, p.bike, true⟩ ∧ p.bike = (k : Int) := by
  obtain ⟨t, ht, hb⟩ := h.inv.spot k x hx h3
  obtain ⟨i, hi⟩ := List.mem_iff_getElem?.1 (h.op2 _ ht)
  exact ⟨i, t, findT_of h.ids hi, ht, hi, hb⟩
theorem mem_closeT {l : List RT} (hn : (l.map (·.id)).Nodup) {i : Nat} {t u : RT} (hi : l[i]? = some t) : u ∈ closeT l i ↔ (u = { t with open_ := false }) ∨ (u ∈ l ∧ u.id ≠ t.id) := by
  unfold closeT
  rw [hi]
  obtain ⟨hil, _⟩ := List.getElem?_eq_some_iff.1 hi
  constructor
  · intro hu
    obtain ⟨j, hj⟩ := List.mem_iff_getElem?.1 hu
    rw [List.getElem?_set] at hj
    split at hj
    · cases hj; exact .inl rfl
    · rename_i hne
      refine .inr ⟨List.mem_of_getElem? hj, fun e => hne ?_⟩
      have h1 := findT_of hn hi
      have h2 := findT_of hn hj
      rw [e, h1] at h2
      exact Option.some.inj h2
  · rintro (rfl | ⟨hu, hne⟩)
    · exact List.mem_of_getElem? (i := i) (by rw [List.getElem?_set]; simp [hil])
    · obtain ⟨j, hj⟩ := List.mem_iff_getElem?.1 hu
      refine List.mem_of_getElem? (i := j) ?_
      rw [List.getElem?_set, if_neg (fun e => ?_)]
      · exact hj
      · subst e; rw [hi] at hj; exact hne (by rw [Option.some.inj hj])
theorem closeT_ids (l : List RT) (i : Nat) : (closeT l i).map (·.id) = l.map (·.id) := by
  unfold closeT
  cases h : l[i]? with
  | none => rfl
  | some t =>
    simp only
    refine List.ext_getElem? fun j => ?_
    simp only [List.getElem?_map, List.getElem?_set]
    split
    · rename_i e; subst e
      rw [h]
      have := (List.getElem?_eq_some_iff.1 h).1
      simp [this]
    · rfl
theorem Rel.put (h : Rel n s r) (k : Nat) (hk : k < n) (to : Sp) (hto : to.where_ ≠ 3) : Rel n (leaveP s k to) (putR r k to) := by
  have hinv := h.inv.leave k hk to hto
  obtain ⟨x, hx⟩ : ∃ x, s.spots[k]? = some x := ⟨_, List.getElem?_eq_getElem (by rw [h.inv.len]; exact hk)⟩
  have hg : s.spots.getD k default = x := by rw [List.getD_eq_getElem?_getD, hx]; rfl
  unfold putR
  rw [h.spots, hg]
  by_cases h3 : x.where_ = 3
  · rw [if_pos h3]
    obtain ⟨i, p, hf, hp, hi, hb⟩ := h.ride hx h3
    rw [hf]
    simp only [Option.getD_some]
    have hop : (leaveP s k to).open_ = s.open_.eraseP (fun q => q.1 == x.ride) := by unfold leaveP; simp only [hg]; rw [if_pos h3]
    refine ⟨hinv, rfl, by simp only [closeT_ids]; exact h.ids, fun id => ?_, fun t ht ho => ?_, fun q hq => ?_⟩
    · show usedP s.used id = true ↔ _
      rw [h.used]
      constructor
      · rintro ⟨t, ht, e⟩
        have : id ∈ (closeT r.trips i).map (·.id) := by rw [closeT_ids, ← e]; exact List.mem_map.2 ⟨t, ht, rfl⟩
        obtain ⟨u, hu, e2⟩ := List.mem_map.1 this
        exact ⟨u, hu, e2⟩
      · rintro ⟨t, ht, e⟩
        have : id ∈ (closeT r.trips i).map (·.id) := List.mem_map.2 ⟨t, ht, e⟩
        rw [closeT_ids] at this
        obtain ⟨u, hu, e2⟩ := List.mem_map.1 this
        exact ⟨u, hu, e2⟩
    · rcases (mem_closeT h.ids hi).1 ht with rfl | ⟨ht2, hne⟩
      · simp at ho
      · obtain ⟨pa, hpa⟩ := h.op1 t ht2 ho
        exact ⟨pa, by rw [hop]; exact (mem_eraseKey h.inv.keys).2 ⟨hpa, hne⟩⟩
    · rw [hop] at hq
      obtain ⟨hq1, hq2⟩ := (mem_eraseKey h.inv.keys).1 hq
      exact (mem_closeT h.ids hi).2 (.inr ⟨h.op2 q hq1, hq2⟩)
  · rw [if_neg h3]
    have hop : (leaveP s k to).open_ = s.open_ := by unfold leaveP; simp only [hg]; rw [if_neg h3]
    refine ⟨hinv, rfl, h.ids, h.used, fun t ht ho => ?_, fun q hq => ?_⟩
    · rw [hop]; exact h.op1 t ht ho
    · rw [hop] at hq; exact h.op2 q hq
theorem Rel.apply (h : Rel n s r) {f : Fl} {e : Ev} (hb : 0 ≤ e.bike ∧ e.bike < n) (hc : checkP f.trucks s e = 0) : Rel n (doP s e) (applyR r e) := by
  have hinv := h.inv.step hb hc
  have hk : e.bike.toNat < n := by omega
  obtain ⟨x, hx⟩ : ∃ x, s.spots[e.bike.toNat]? = some x := ⟨_, List.getElem?_eq_getElem (by rw [h.inv.len]; exact hk)⟩
  have hg : s.spots.getD e.bike.toNat default = x := by rw [List.getD_eq_getElem?_getD, hx]; rfl
  by_cases h1 : e.kind = 1
  · unfold doP applyR; simp only; rw [if_pos h1, if_pos h1]; exact h.put _ hk _ (by simp)
  by_cases h2 : e.kind = 2
  · unfold doP applyR; simp only; rw [if_neg h1, if_neg h1, if_pos h2, if_pos h2]; exact h.put _ hk _ (by simp)
  by_cases h7 : e.kind = 7
  · unfold doP applyR; simp only; rw [if_neg h1, if_neg h2, if_neg (by omega), if_neg (by omega), if_neg (by omega), if_pos h7, if_neg h1, if_neg h2, if_pos h7]; exact h.put _ hk _ (by simp)
  by_cases h8 : e.kind = 8
  · unfold doP applyR; simp only; rw [if_neg h1, if_neg h2, if_neg (by omega), if_neg (by omega), if_neg (by omega), if_neg h7, if_pos h8, if_neg h1, if_neg h2, if_neg h7, if_pos h8]; exact h.put _ hk _ (by simp)
  by_cases h9 : e.kind = 9
  · unfold doP applyR; simp only; rw [if_neg h1, if_neg h2, if_neg (by omega), if_neg (by omega), if_neg (by omega), if_neg h7, if_neg h8, if_pos h9, if_neg h1, if_neg h2, if_neg h7, if_neg h8, if_pos h9]; exact h.put _ hk _ (by simp)
  have hA : applyR r e = if e.kind = 3 then { spots := r.spots.set e.bike.toNat ⟨3, 0, e.ride, false⟩, trips := r.trips ++ [⟨e.ride, e.rider, e.bike, true⟩] }
      else if e.kind = 4 then { spots := (r.spots.set (r.trips.getD ((findT r.trips e.ride).getD 0) default).bike.toNat (r.spots.getD e.bike.toNat default)).set e.bike.toNat ⟨3, 0, e.ride, false⟩, trips := r.trips.set ((findT r.trips e.ride).getD 0) { (r.trips.getD ((findT r.trips e.ride).getD 0) default) with bike := e.bike } }
      else if e.kind = 5 then { r with spots := r.spots.set e.bike.toNat { (r.spots.getD e.bike.toNat default) with paused := true } }
      else if e.kind = 6 then { r with spots := r.spots.set e.bike.toNat { (r.spots.getD e.bike.toNat default) with paused := false } }
      else r := by
    unfold applyR
    simp only
    rw [if_neg h1, if_neg h2, if_neg h7, if_neg h8, if_neg h9]
  rw [hA]
  clear hA
  unfold doP at *
  simp only at hinv ⊢
  rw [if_neg h1, if_neg h2] at hinv ⊢
  unfold checkP at hc
  simp only at hc
  rw [if_neg h1, if_neg h2] at hc
  by_cases h3 : e.kind = 3
  · rw [if_pos h3] at hinv hc ⊢
    rw [if_pos h3]
    have hu : usedP s.used e.ride = false := by
      split at hc
      · cases hc
      · split at hc
        · cases hc
        · rename_i hu; simpa using hu
    have hno : ∀ t ∈ r.trips, t.id ≠ e.ride := fun t ht he => by
      have := (h.used e.ride).2 ⟨t, ht, he⟩
      rw [hu] at this; cases this
    refine ⟨hinv, by simp only [h.spots], ?_, fun id => ?_, fun t ht ho => ?_, fun p hp => ?_⟩
    · simp only [List.map_append, List.map_cons, List.map_nil]
      refine List.nodup_append.2 ⟨h.ids, by simp, fun a ha b hb => ?_⟩
      simp only [List.mem_singleton] at hb
      obtain ⟨t, ht, rfl⟩ := List.mem_map.1 ha
      rw [hb]; exact hno t ht
    · rw [usedP_mem, usePut_mem]
      have := h.used id
      rw [usedP_mem] at this
      rw [this]
      constructor
      · rintro (⟨t, ht, e1⟩ | e1)
        · exact ⟨t, List.mem_append.2 (.inl ht), e1⟩
        · exact ⟨_, List.mem_append.2 (.inr (List.mem_singleton.2 rfl)), e1.symm⟩
      · rintro ⟨t, ht, e1⟩
        rcases List.mem_append.1 ht with ht | ht
        · exact .inl ⟨t, ht, e1⟩
        · rw [List.mem_singleton.1 ht] at e1; exact .inr e1.symm
    · rcases List.mem_append.1 ht with ht | ht
      · obtain ⟨pa, hpa⟩ := h.op1 t ht ho
        exact ⟨pa, List.mem_append.2 (.inl hpa)⟩
      · rw [List.mem_singleton.1 ht]
        exact ⟨false, List.mem_append.2 (.inr (List.mem_singleton.2 rfl))⟩
    · rcases List.mem_append.1 hp with hp | hp
      · exact List.mem_append.2 (.inl (h.op2 p hp))
      · rw [List.mem_singleton.1 hp]
        exact List.mem_append.2 (.inr (List.mem_singleton.2 rfl))
  rw [if_neg h3] at hinv hc ⊢
  rw [if_neg h3]
  by_cases h4 : e.kind = 4
  · rw [if_pos h4] at hinv hc ⊢
    rw [if_pos h4]
    rcases h.look e.ride with ⟨hl, _⟩ | ⟨k, p, hl, hp, hf, htk, hb0, hb1, hpa⟩
    · rw [hl] at hc; cases hc
    · rw [hl] at hinv ⊢
      simp only at hinv ⊢
      rw [hf]
      have hgt : r.trips.getD k default = ⟨e.ride, p.rider, p.bike, true⟩ := by rw [List.getD_eq_getElem?_getD, htk]; rfl
      simp only [Option.getD_some, hgt]
      have hkl := (List.getElem?_eq_some_iff.1 htk).1
      have hmap : (r.trips.set k ⟨e.ride, p.rider, e.bike, true⟩).map (·.id) = r.trips.map (·.id) := by
        refine List.ext_getElem? fun j => ?_
        simp only [List.getElem?_map, List.getElem?_set]
        split
        · rename_i e1; subst e1; rw [htk]; simp [hkl]
        · rfl
      have hms : ∀ u, u ∈ r.trips.set k ⟨e.ride, p.rider, e.bike, true⟩ ↔ u = ⟨e.ride, p.rider, e.bike, true⟩ ∨ (u ∈ r.trips ∧ u.id ≠ e.ride) := fun u => by
        constructor
        · intro hu
          obtain ⟨j, hj⟩ := List.mem_iff_getElem?.1 hu
          rw [List.getElem?_set] at hj
          split at hj
          · first | (split at hj <;> first | (cases hj; exact .inl rfl) | cases hj) | (cases hj; exact .inl rfl)
          · rename_i hne
            refine .inr ⟨List.mem_of_getElem? hj, fun e1 => hne ?_⟩
            have h2 := findT_of h.ids hj
            rw [e1, hf] at h2
            exact Option.some.inj h2
        · rintro (rfl | ⟨hu, hne⟩)
          · exact List.mem_of_getElem? (i := k) (by rw [List.getElem?_set]; simp [hkl])
          · obtain ⟨j, hj⟩ := List.mem_iff_getElem?.1 hu
            refine List.mem_of_getElem? (i := j) ?_
            rw [List.getElem?_set, if_neg (fun e1 => ?_)]
            · exact hj
            · subst e1; rw [htk] at hj; exact hne (by rw [← Option.some.inj hj])
      refine ⟨hinv, by simp only [h.spots], by simp only [hmap]; exact h.ids, fun id => ?_, fun t ht ho => ?_, fun q hq => ?_⟩
      · rw [h.used id]
        have hm : ∀ l : List RT, (∃ t ∈ l, t.id = id) ↔ id ∈ l.map (·.id) := fun l => by simp
        rw [hm, hm, hmap]
      · rcases (hms t).1 ht with rfl | ⟨ht2, hne⟩
        · exact ⟨p.paused, mem_setTrip.2 (.inl ⟨_, hp, rfl, rfl⟩)⟩
        · obtain ⟨pa, hpa⟩ := h.op1 t ht2 ho
          exact ⟨pa, mem_setTrip.2 (.inr ⟨hpa, hne⟩)⟩
      · rcases mem_setTrip.1 hq with ⟨q2, _, _, rfl⟩ | ⟨hq2, hne⟩
        · exact (hms _).2 (.inl rfl)
        · exact (hms _).2 (.inr ⟨h.op2 q hq2, hne⟩)
  rw [if_neg h4] at hinv hc ⊢
  rw [if_neg h4]
  by_cases h56 : e.kind = 5 ∨ e.kind = 6
  · rw [if_pos h56] at hinv hc ⊢
    have hx3 : x.where_ = 3 := by
      split at hc
      · cases hc
      · rename_i hw; rw [hg] at hw; exact Decidable.of_not_not hw
    obtain ⟨i, p, hf, hp, hi, hb⟩ := h.ride hx hx3
    rw [hg, lookP_of h.inv.keys hp] at hinv ⊢
    simp only at hinv ⊢
    have hR : (if e.kind = 5 then ({ r with spots := r.spots.set e.bike.toNat { (r.spots.getD e.bike.toNat default) with paused := true } } : RS) else if e.kind = 6 then { r with spots := r.spots.set e.bike.toNat { (r.spots.getD e.bike.toNat default) with paused := false } } else r) = { r with spots := s.spots.set e.bike.toNat { x with paused := decide (e.kind = 5) } } := by
      rw [h.spots, hg]
      rcases h56 with h5 | h6
      · rw [if_pos h5, decide_eq_true h5]
      · rw [if_neg (by omega), if_pos h6, decide_eq_false (by omega)]
    rw [hR]
    refine ⟨hinv, rfl, h.ids, h.used, fun t ht ho => ?_, fun q hq => ?_⟩
    · obtain ⟨pa, hpa⟩ := h.op1 t ht ho
      by_cases he : t.id = x.ride
      · have : t = ⟨x.ride, p.rider, p.bike, true⟩ := trip_uniq h.ids ht (List.mem_of_getElem? hi) he
        subst this
        exact ⟨_, mem_setTrip.2 (.inl ⟨_, hp, rfl, rfl⟩)⟩
      · exact ⟨pa, mem_setTrip.2 (.inr ⟨hpa, he⟩)⟩
    · rcases mem_setTrip.1 hq with ⟨q2, _, _, rfl⟩ | ⟨hq2, hne⟩
      · exact List.mem_of_getElem? hi
      · exact h.op2 q hq2
  rw [if_neg h56, if_neg h7, if_neg h8, if_neg h9, if_neg (show ¬ e.kind = 5 by omega), if_neg (show ¬ e.kind = 6 by omega)]
  exact h
end

theorem closeT_len (l : List RT) (i : Nat) : (closeT l i).length = l.length := by
  unfold closeT; split <;> simp
theorem applyR_len (r : RS) (e : Ev) : (applyR r e).trips.length ≤ r.trips.length + 1 := by
  have hp : ∀ k x, (putR r k x).trips.length = r.trips.length := fun k x => by
    unfold putR; simp only; split
    · exact closeT_len _ _
    · rfl
  unfold applyR
  simp only
  repeat' split
  all_goals first | (rw [hp]; omega) | simp

end Go.Proofs.Cus

/-
  Plain facts: sets of events and moments.
-/
namespace Go.Proofs.Cus

theorem less_at {a b : Ev} (h : a.at_ < b.at_) : evLess a b = true ∧ evLess b a = false := by
  unfold evLess Ev.keys
  simp only [lexLt]
  rw [if_pos (by omega), if_pos (by omega)]
  simp; omega
theorem at_of_less {a b : Ev} (h : evLess a b = true) : a.at_ ≤ b.at_ := by
  rcases Int.lt_or_le b.at_ a.at_ with h2 | h2
  · rw [(less_at h2).2] at h; cases h
  · exact h2
/-- a filter that keeps the earlier events -/
theorem set_early (l : List Ev) (p : Ev → Bool) (hp : ∀ a b : Ev, a.at_ ≤ b.at_ → p b = true → p a = true) : setOf (l.filter p) = (setOf l).filter p := by
  have h := set_isSet l
  refine (set_isSet _).unique ⟨h.sorted.filter _, fun e => ?_⟩
  simp only [List.mem_filter, h.mem]
  constructor
  · rintro ⟨⟨h1, h2⟩, h3⟩
    exact ⟨⟨h1, h3⟩, fun e' he' => h2 e' he'.1⟩
  · rintro ⟨⟨h1, h3⟩, h2⟩
    refine ⟨⟨h1, fun e' he' hs => ?_⟩, h3⟩
    cases hpe : p e' with
    | true => exact h2 e' ⟨he', hpe⟩ hs
    | false =>
      rcases Int.lt_or_le e.at_ e'.at_ with h4 | h4
      · exact (less_at h4).2
      · rw [hp e' e h4 h3] at hpe; cases hpe
theorem set_of_set (l : List Ev) : setOf (setOf l) = setOf l := by
  have h := set_isSet l
  refine (set_isSet _).unique ⟨h.sorted, fun e => ?_⟩
  refine ⟨fun he => ⟨he, fun e' he' hs => ((h.mem e).1 he).2 e' ((h.mem e').1 he').1 hs⟩, fun he => he.1⟩
/-- the events up to a moment are the first ones -/
theorem early_take : ∀ {l : List Ev} (p : Ev → Bool), l.Pairwise (fun a b => evLess a b = true) → (∀ a b : Ev, a.at_ ≤ b.at_ → p b = true → p a = true) → ∃ k, k ≤ l.length ∧ l.filter p = l.take k ∧ (∀ e ∈ l.drop k, p e = false)
  | [], _, _, _ => ⟨0, Nat.le_refl _, rfl, fun e he => by simp at he⟩
  | a :: l, p, hs, hp => by
    rw [List.pairwise_cons] at hs
    obtain ⟨k, hk, h1, h2⟩ := early_take p hs.2 hp
    cases hpa : p a with
    | true => exact ⟨k + 1, by simp; omega, by rw [List.filter_cons_of_pos hpa, h1]; rfl, h2⟩
    | false =>
      have hall : ∀ e ∈ l, p e = false := fun e he => by
        cases hpe : p e with
        | false => rfl
        | true => rw [hp a e (at_of_less (hs.1 e he)) hpe] at hpa; cases hpa
      refine ⟨0, Nat.zero_le _, ?_, fun e he => ?_⟩
      · rw [List.filter_cons_of_neg (by rw [hpa]; decide), List.take_zero]
        exact List.filter_eq_nil_iff.2 fun e he => by rw [hall e he]; decide
      · rcases List.mem_cons.1 he with rfl | he
        · exact hpa
        · exact hall e he

end Go.Proofs.Cus

/-
  Plain facts: docks, rides and trucks hold no more than they may.
-/
namespace Go.Proofs.Cus

theorem countP_set {α : Type} (p : α → Bool) : ∀ {l : List α} {k : Nat} {x : α} (y : α), l[k]? = some x → (l.set k y).countP p + (if p x = true then 1 else 0) = l.countP p + (if p y = true then 1 else 0)
  | [], _, _, _, h => by simp at h
  | a :: l, 0, x, y, h => by
    simp at h; subst h
    simp only [List.set_cons_zero, List.countP_cons]
    omega
  | a :: l, k + 1, x, y, h => by
    have ih := countP_set p (l := l) (k := k) (x := x) y (by simpa using h)
    simp only [List.set_cons_succ, List.countP_cons]
    omega

structure AInv (tr : List Int) (sp : List Sp) : Prop where
  dock : ∀ (i j : Nat) x y, sp[i]? = some x → sp[j]? = some y → i ≠ j → x.where_ = 1 → y.where_ = 1 → x.place ≠ y.place
  truck : ∀ x ∈ sp, x.where_ = 4 → 0 ≤ x.place ∧ x.place < tr.length ∧ (countP sp 4 x.place : Int) ≤ tr.getD x.place.toNat 0
  paused : ∀ x ∈ sp, x.paused = true → x.where_ = 3

theorem AInv.begin (tr : List Int) (n : Nat) : AInv tr (List.replicate n ⟨5, 0, 0, false⟩) := by
  have h : ∀ x ∈ List.replicate n (⟨5, 0, 0, false⟩ : Sp), x = ⟨5, 0, 0, false⟩ := fun x hx => (List.mem_replicate.1 hx).2
  refine ⟨fun i j x y hx hy _ h1 _ => ?_, fun x hx h4 => ?_, fun x hx hp => ?_⟩
  · rw [h x (List.mem_of_getElem? hx)] at h1; simp at h1
  · rw [h x hx] at h4; simp at h4
  · rw [h x hx] at hp; simp at hp

section
variable {tr : List Int} {sp : List Sp}
theorem set_get {k : Nat} {x y : Sp} (hx : sp[k]? = some x) (j : Nat) : (sp.set k y)[j]? = if k = j then some y else sp[j]? := by
  have := (List.getElem?_eq_some_iff.1 hx).1
  rw [List.getElem?_set]
  by_cases e : k = j
  · subst e; simp [this]
  · simp [e]
/-- one bicycle is brought somewhere -/
theorem AInv.set (h : AInv tr sp) {k : Nat} {x : Sp} (hx : sp[k]? = some x) (y : Sp) (h1 : y.where_ = 1 → ∀ (j : Nat) z, sp[j]? = some z → j ≠ k → z.where_ = 1 → z.place ≠ y.place)
    (h4 : y.where_ = 4 → 0 ≤ y.place ∧ y.place < tr.length ∧ (countP sp 4 y.place : Int) + (if atP 4 y.place x = true then 0 else 1) ≤ tr.getD y.place.toNat 0) (hp : y.paused = true → y.where_ = 3) : AInv tr (sp.set k y) := by
  have hc : ∀ p : Int, (countP (sp.set k y) 4 p : Int) + (if atP 4 p x = true then 1 else 0) = (countP sp 4 p : Int) + (if atP 4 p y = true then 1 else 0) := fun p => by
    have := countP_set (atP 4 p) y hx
    unfold countP
    split at this <;> split at this <;> rename_i a1 a2 <;> simp [a1, a2] <;> omega
  refine ⟨fun i j u v hu hv hij u1 v1 => ?_, fun u hu u4 => ?_, fun u hu up => ?_⟩
  · rw [set_get hx] at hu hv
    split at hu
    · rename_i e1
      cases hu
      rw [if_neg (by omega)] at hv
      exact fun e => h1 u1 j v hv (by omega) v1 e.symm
    · split at hv
      · rename_i e1 e2
        cases hv
        exact h1 v1 i u hu (by omega) u1
      · exact h.dock i j u v hu hv hij u1 v1
  · obtain ⟨i, hi⟩ := List.mem_iff_getElem?.1 hu
    rw [set_get hx] at hi
    split at hi
    · cases hi
      obtain ⟨a1, a2, a3⟩ := h4 u4
      refine ⟨a1, a2, ?_⟩
      have := hc y.place
      have hy : atP 4 y.place y = true := by simp [atP, u4]
      rw [if_pos hy] at this
      split at this <;> rename_i hh <;> first | (rw [if_pos hh] at a3; omega) | (rw [if_neg hh] at a3; omega)
    · have hum := List.mem_of_getElem? hi
      obtain ⟨a1, a2, a3⟩ := h.truck u hum u4
      refine ⟨a1, a2, ?_⟩
      have := hc u.place
      by_cases hy : atP 4 u.place y = true
      · have hy4 : y.where_ = 4 ∧ y.place = u.place := by simpa [atP] using hy
        obtain ⟨b1, b2, b3⟩ := h4 hy4.1
        rw [hy4.2] at b3
        rw [if_pos hy] at this
        rw [hy4.2] at b1 b2
        split at this <;> rename_i hh <;> first | (rw [if_pos hh] at b3; omega) | (rw [if_neg hh] at b3; omega)
      · rw [if_neg hy] at this
        split at this <;> omega
  · obtain ⟨i, hi⟩ := List.mem_iff_getElem?.1 hu
    rw [set_get hx] at hi
    split at hi
    · cases hi; exact hp up
    · exact h.paused u (List.mem_of_getElem? hi) up
end

theorem AInv.step {n : Nat} {f : Fl} {s : PS} {e : Ev} (hI : PInv n s) (h : AInv f.trucks s.spots) (hn : f.bikes = n) (hev : evErr f e = 0) (hc : checkP f.trucks s e = 0) : AInv f.trucks (doP s e).spots := by
  obtain ⟨_, hb, hp7, _, _⟩ := evErr_ok hev
  have hk : e.bike.toNat < n := by omega
  obtain ⟨x, hx⟩ : ∃ x, s.spots[e.bike.toNat]? = some x := ⟨_, List.getElem?_eq_getElem (by rw [hI.len]; exact hk)⟩
  have hg : s.spots.getD e.bike.toNat default = x := by rw [List.getD_eq_getElem?_getD, hx]; rfl
  unfold checkP at hc
  unfold doP
  simp only at hc ⊢
  rw [hg] at hc
  have hle : ∀ to : Sp, (leaveP s e.bike.toNat to).spots = s.spots.set e.bike.toNat to := fun _ => rfl
  by_cases h1 : e.kind = 1
  · rw [if_pos h1] at hc ⊢
    rw [hle]
    refine h.set hx _ (fun _ j z hz hjk z1 hpl => ?_) (fun h4 => by simp at h4) (fun hp => by simp at hp)
    split at hc
    · cases hc
    · rename_i hcc
      have hpk := refuse_ok (by decide) hc
      apply hcc
      simp only [hpk, Bool.not_false, Bool.true_and, decide_eq_true_eq]
      have : 0 < countP s.spots 1 e.place := List.countP_pos_iff.2 ⟨z, List.mem_of_getElem? hz, by simp only at hpl; simp [atP, z1, hpl]⟩
      omega
  rw [if_neg h1] at hc ⊢
  by_cases h2 : e.kind = 2
  · rw [if_pos h2, hle]
    exact h.set hx _ (fun h1 => by simp at h1) (fun h4 => by simp at h4) (fun hp => by simp at hp)
  rw [if_neg h2] at hc ⊢
  by_cases h3 : e.kind = 3
  · rw [if_pos h3]
    exact h.set hx _ (fun h1 => by simp at h1) (fun h4 => by simp at h4) (fun hp => by simp at hp)
  rw [if_neg h3] at hc ⊢
  by_cases h4 : e.kind = 4
  · rw [if_pos h4] at hc ⊢
    cases hl : lookP s.open_ e.ride with
    | none => exact h
    | some t =>
      rw [hl] at hc
      simp only at hc ⊢
      rw [hg]
      split at hc
      · cases hc
      · rename_i hpk
        have hpk : parkedS x = true := by simpa using hpk
        obtain ⟨_, y, hy, y3, _⟩ := hI.bike _ (lookP_some hl)
        simp only at hy
        have hjk : t.bike.toNat ≠ e.bike.toNat := fun ejk => by rw [ejk, hx] at hy; cases hy; exact parked_no3 hpk y3
        have hxp : x.paused = false := by
          cases hxp : x.paused with
          | false => rfl
          | true => exact absurd (h.paused x (List.mem_of_getElem? hx) hxp) (parked_no3 hpk)
        have hx4 : x.where_ ≠ 4 := by unfold parkedS at hpk; simp at hpk; omega
        have ha := h.set hx (⟨3, 0, e.ride, false⟩ : Sp) (fun h1 => by simp at h1) (fun h4 => by simp at h4) (fun hp => by simp at hp)
        have hy2 : (s.spots.set e.bike.toNat ⟨3, 0, e.ride, false⟩)[t.bike.toNat]? = some y := by rw [set_get hx, if_neg (by omega)]; exact hy
        have hb2 := ha.set hy2 x (fun x1 j z hz hjt z1 => ?_) (fun h4 => absurd h4 hx4) (fun hp => by rw [hxp] at hp; cases hp)
        · rw [List.set_comm _ _ (by omega)]
          exact hb2
        · rw [set_get hx] at hz
          split at hz
          · cases hz; simp at z1
          · rename_i hne
            exact h.dock j _ z x hz hx (by omega) z1 x1
  rw [if_neg h4] at hc ⊢
  by_cases h5 : e.kind = 5 ∨ e.kind = 6
  · rw [if_pos h5] at hc ⊢
    simp only
    rw [hg]
    split at hc
    · cases hc
    · rename_i hw
      have hw' : x.where_ = 3 := Decidable.of_not_not hw
      exact h.set hx _ (fun h1 => by simp only at h1; omega) (fun h4 => by simp only at h4; omega) (fun _ => hw')
  rw [if_neg h5] at hc ⊢
  by_cases h7 : e.kind = 7
  · rw [if_pos h7] at hc ⊢
    rw [hle]
    obtain ⟨p0, p1⟩ := hp7 h7
    split at hc
    · cases hc
    · rename_i hw
      have hlt := refuse_ok (by decide) hc
      refine h.set hx _ (fun h1 => by simp at h1) (fun _ => ⟨p0, p1, ?_⟩) (fun hp => by simp at hp)
      have hx4 : atP 4 e.place x = false := by
        simp at hw
        simp [atP]; omega
      simp only
      rw [if_neg (by rw [hx4]; decide)]
      have hlt := of_decide_eq_false hlt
      omega
  rw [if_neg h7] at hc ⊢
  by_cases h8 : e.kind = 8
  · rw [if_pos h8, hle]
    exact h.set hx _ (fun h1 => by simp at h1) (fun h4 => by simp at h4) (fun hp => by simp at hp)
  rw [if_neg h8] at hc ⊢
  by_cases h9 : e.kind = 9
  · rw [if_pos h9, hle]
    exact h.set hx _ (fun h1 => by simp at h1) (fun h4 => by simp at h4) (fun hp => by simp at hp)
  rw [if_neg h9]
  exact h
theorem stepR_ainv {n : Nat} {f : Fl} {s : PS} {e : Ev} (hn : f.bikes = n) (hI : PInv n s) (h : AInv f.trucks s.spots) : AInv f.trucks (stepR f s e).1.spots := by
  unfold stepR
  split
  · exact h
  · simp only
    by_cases h1 : evErr f e = 0
    · rw [if_pos h1]
      by_cases h0 : checkP f.trucks s e = 0
      · rw [if_pos h0]; exact h.step hI hn h1 h0
      · rw [if_neg h0]; exact h
    · rw [if_neg h1, if_neg h1]; exact h
theorem runR_ainv {σ : Type} {n : Nat} {f : Fl} {cb : σ → PS → Ev → Int → σ} (hn : f.bikes = n) : ∀ (l : List Ev) (x : PS × σ), PInv n x.1 → AInv f.trucks x.1.spots → AInv f.trucks (runR f cb l x).1.spots
  | [], _, _, h => h
  | e :: l, x, hI, h => by
    show AInv _ (runR f cb l _).1.spots
    refine runR_ainv hn l _ ?_ ?_
    · show PInv n (tellR cb x.2 e (stepR f x.1 e)).1
      rw [tellR_fst]; exact stepR_inv hn hI
    · show AInv _ (tellR cb x.2 e (stepR f x.1 e)).1.spots
      rw [tellR_fst]; exact stepR_ainv hn hI h
theorem PInv.alone {n : Nat} {s : PS} (h : PInv n s) {i j : Nat} {x y : Sp} (hx : s.spots[i]? = some x) (hy : s.spots[j]? = some y) (x3 : x.where_ = 3) (y3 : y.where_ = 3) (hr : x.ride = y.ride) : i = j := by
  obtain ⟨t, ht, hb⟩ := h.spot i x hx x3
  obtain ⟨u, hu, hc⟩ := h.spot j y hy y3
  have := nodup_fst h.keys ht hu hr
  simp only [Prod.mk.injEq] at this
  rw [this.2, hc] at hb
  omega

end Go.Proofs.Cus
