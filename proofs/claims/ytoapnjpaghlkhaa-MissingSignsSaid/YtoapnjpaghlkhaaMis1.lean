import Derived.Test.YtoapnjpaghlkhaaCusD
import Derived.Test.YtoapnjpaghlkhaaCusS
import Derived.Test.YtoapnjpaghlkhaaEng2
import Derived.Test.YtoapnjpaghlkhaaCusR
set_option linter.unusedVariables false
set_option linter.unusedSimpArgs false
/-
  Plain facts: when bicycles were noticed (no program in sight).
-/
namespace Go.Proofs.Mis
open Go.Proofs.Cus

structure Sg where
  bike : Int
  at_ : Int
deriving DecidableEq, Inhabited
abbrev Nt := Int × Int
abbrev RM := List (Int × Int)
def rlook (m : RM) (r : Int) : Int := ((m.find? fun p => p.1 == r).map (·.2)).getD 0
def rput : RM → Int → Int → RM
  | [], r, b => [(r, b)]
  | p :: m, r, b => if (p.1 == r) = true then (r, b) :: m else p :: rput m r b
def ntOf (m : RM) (e : Ev) : List Nt := if e.kind = 4 then [(e.bike, e.at_), (rlook m e.ride, e.at_)] else [(e.bike, e.at_)]
def rmOf (m : RM) (e : Ev) : RM := if e.kind = 3 ∨ e.kind = 4 then rput m e.ride e.bike else m
def ntAcc : RM → List Ev → List Nt
  | _, [] => []
  | m, e :: l => ntOf m e ++ ntAcc (rmOf m e) l
def sgNt (s : Sg) : Nt := (s.bike, s.at_)
def notices (acc : List Ev) (signs : List Sg) : List Nt := signs.map sgNt ++ ntAcc [] acc

/-- the greatest of 0 and the moments of a bicycle, at most now -/
def svStep (b now : Int) (v : Int) (x : Nt) : Int := if x.1 = b ∧ x.2 ≤ now then max v x.2 else v
def sv (l : List Nt) (b now : Int) : Int := l.foldl (svStep b now) 0
structure Top (l : List Nt) (b now v : Int) : Prop where
  pos : 0 ≤ v
  is : v = 0 ∨ ((b, v) ∈ l ∧ v ≤ now)
  le : ∀ t, (b, t) ∈ l → t ≤ now → t ≤ v
theorem Top.unique {l : List Nt} {b now v u : Int} (h : Top l b now v) (k : Top l b now u) : v = u := by
  have h1 : v ≤ u := by
    rcases h.is with h0 | ⟨h1, h2⟩
    · have := k.pos; omega
    · exact k.le v h1 h2
  have h2 : u ≤ v := by
    rcases k.is with h0 | ⟨h1, h2⟩
    · have := h.pos; omega
    · exact h.le u h1 h2
  omega
theorem Top.congr {l m : List Nt} {b now v : Int} (h : Top l b now v) (hm : ∀ t, (b, t) ∈ l ↔ (b, t) ∈ m) : Top m b now v :=
  ⟨h.pos, h.is.imp id fun ⟨a, c⟩ => ⟨(hm v).1 a, c⟩, fun t ht => h.le t ((hm t).2 ht)⟩
theorem sv_top_from : ∀ (l m : List Nt) (b now v : Int), Top m b now v → Top (m ++ l) b now (l.foldl (svStep b now) v)
  | [], m, b, now, v, h => by simpa using h
  | x :: l, m, b, now, v, h => by
    have hs : Top (m ++ [x]) b now (svStep b now v x) := by
      unfold svStep
      by_cases hx : x.1 = b ∧ x.2 ≤ now
      · rw [if_pos hx]
        have hxe : x = (b, x.2) := by rw [← hx.1]
        refine ⟨by have := h.pos; omega, ?_, fun t ht hn => ?_⟩
        · rcases Int.le_total v x.2 with h1 | h1
          · rw [Int.max_eq_right h1]
            exact .inr ⟨List.mem_append.2 (.inr (by rw [hxe]; simp)), hx.2⟩
          · rw [Int.max_eq_left h1]
            exact h.is.imp id fun ⟨a, c⟩ => ⟨List.mem_append.2 (.inl a), c⟩
        · rcases List.mem_append.1 ht with ht | ht
          · have := h.le t ht hn; omega
          · have : (b, t) = x := by simpa using ht
            have : t = x.2 := by rw [← this]
            omega
      · rw [if_neg hx]
        refine ⟨h.pos, h.is.imp id fun ⟨a, c⟩ => ⟨List.mem_append.2 (.inl a), c⟩, fun t ht hn => ?_⟩
        rcases List.mem_append.1 ht with ht | ht
        · exact h.le t ht hn
        · have : (b, t) = x := by simpa using ht
          exact absurd ⟨by rw [← this], by rw [← this]; exact hn⟩ hx
    have := sv_top_from l (m ++ [x]) b now _ hs
    simpa using this
theorem sv_top (l : List Nt) (b now : Int) : Top l b now (sv l b now) := by
  have := sv_top_from l [] b now 0 ⟨Int.le_refl _, .inl rfl, fun t ht => by simp at ht⟩
  exact this
theorem sv_bound (l : List Nt) (b now : Int) (hn : 0 ≤ now) : 0 ≤ sv l b now ∧ sv l b now ≤ now := by
  have h := sv_top l b now
  refine ⟨h.pos, ?_⟩
  rcases h.is with h | h <;> omega
theorem sv_congr {l m : List Nt} {b now : Int} (hm : ∀ t, (b, t) ∈ l ↔ (b, t) ∈ m) : sv l b now = sv m b now :=
  ((sv_top l b now).congr hm).unique (sv_top m b now)

/-! what the program keeps: a list of moments, one of each bicycle -/
def outStep (now : Int) (o : List Int) (x : Nt) : List Int := if (0 ≤ x.1 ∧ x.1 < o.length) ∧ x.2 ≤ now then o.set x.1.toNat (max (o.getD x.1.toNat 0) x.2) else o
theorem outStep_len (now : Int) (o : List Int) (x : Nt) : (outStep now o x).length = o.length := by unfold outStep; split <;> simp
theorem out_len (now : Int) : ∀ (l : List Nt) (o : List Int), (l.foldl (outStep now) o).length = o.length
  | [], _ => rfl
  | x :: l, o => by rw [List.foldl_cons, out_len now l, outStep_len]
theorem out_get (now : Int) : ∀ (l : List Nt) (o : List Int) (b : Nat) (v : Int), o[b]? = some v → (l.foldl (outStep now) o)[b]? = some (l.foldl (svStep b now) v)
  | [], _, _, _, h => h
  | x :: l, o, b, v, h => by
    rw [List.foldl_cons, List.foldl_cons]
    refine out_get now l _ b _ ?_
    have hb := (List.getElem?_eq_some_iff.1 h).1
    unfold outStep svStep
    by_cases hx : (0 ≤ x.1 ∧ x.1 < o.length) ∧ x.2 ≤ now
    · rw [if_pos hx, List.getElem?_set]
      by_cases he : x.1 = (b : Int)
      · have hbe : x.1.toNat = b := by omega
        subst hbe
        rw [if_pos rfl, if_pos hb, if_pos (show x.1 = ((x.1.toNat : Nat) : Int) ∧ x.2 ≤ now from ⟨he, hx.2⟩), List.getD_eq_getElem?_getD, h]
        rfl
      · rw [if_neg (by omega), if_neg (fun h => he h.1)]
        exact h
    · rw [if_neg hx, if_neg (fun h => hx ⟨⟨by omega, by omega⟩, h.2⟩)]
      exact h

/-! the reference's way: the bicycle of a ride before an event -/
def isRide (r : Int) (e : Ev) : Bool := (decide (e.kind = 3) || decide (e.kind = 4)) && decide (e.ride = r)
def formerP (l : List Ev) (r : Int) : Int := (((l.filter (isRide r)).getLast?).map (·.bike)).getD (-1)
theorem rput_look : ∀ (m : RM) (r b r' : Int), rlook (rput m r b) r' = if r' = r then b else rlook m r'
  | [], r, b, r' => by
    unfold rput rlook
    by_cases h : r' = r
    · subst h; simp
    · rw [if_neg h, List.find?_cons_of_neg (by simp; omega)]
  | p :: m, r, b, r' => by
    have ih := rput_look m r b r'
    unfold rlook at ih ⊢
    unfold rput
    by_cases hp : (p.1 == r) = true
    · rw [if_pos hp]
      have hpr : p.1 = r := by simpa using hp
      by_cases h : r' = r
      · subst h; simp
      · rw [if_neg h, List.find?_cons_of_neg (by simp; omega), List.find?_cons_of_neg (by simp; omega)]
    · rw [if_neg hp]
      have hpr : ¬ p.1 = r := by simpa using hp
      by_cases h2 : (p.1 == r') = true
      · have h2' : p.1 = r' := by simpa using h2
        simp only [List.find?_cons, h2]
        rw [if_neg (by omega)]
      · simp only [List.find?_cons, h2]
        exact ih
/-- the map knows the last bicycle of a ride that was begun -/
theorem rm_former : ∀ (l : List Ev) (r : Int), (l.any (isRide r)) = true → rlook (l.foldl rmOf []) r = formerP l r := by
  have key : ∀ (l A : List Ev) (m : RM) (r : Int), ((A.any (isRide r)) = true → rlook m r = formerP A r) → ((A ++ l).any (isRide r)) = true → rlook (l.foldl rmOf m) r = formerP (A ++ l) r := by
    intro l
    induction l with
    | nil => intro A m r h h2; rw [List.append_nil] at h2 ⊢; exact h h2
    | cons e l ih =>
      intro A m r h h2
      rw [List.foldl_cons, show A ++ e :: l = (A ++ [e]) ++ l by simp]
      refine ih (A ++ [e]) _ r (fun h3 => ?_) (by rw [show (A ++ [e]) ++ l = A ++ e :: l by simp]; exact h2)
      unfold rmOf formerP
      rw [List.filter_append]
      by_cases he : isRide r e = true
      · rw [List.filter_cons_of_pos he]
        have hk : e.kind = 3 ∨ e.kind = 4 := by unfold isRide at he; simp at he; exact he.1
        have hr : r = e.ride := by unfold isRide at he; simp at he; exact he.2.symm
        rw [if_pos hk, rput_look, if_pos hr]
        simp
      · rw [List.filter_cons_of_neg he, List.filter_nil, List.append_nil]
        have h4 : (A.any (isRide r)) = true := by simpa [he] using h3
        have hold := h h4
        unfold formerP at hold
        rw [← hold]
        by_cases hk : e.kind = 3 ∨ e.kind = 4
        · rw [if_pos hk, rput_look, if_neg (fun h => he ?_)]
          unfold isRide
          rcases hk with hk | hk <;> simp [hk, h]
        · rw [if_neg hk]
  intro l r h
  have := key l [] [] r (fun h => by simp at h) (by simpa using h)
  simpa using this

/-! a swap that is accepted is of a ride that was begun -/
theorem doP_used (s : PS) (e : Ev) (id : Int) (h : usedP (doP s e).used id = true) : usedP s.used id = true ∨ (e.kind = 3 ∧ e.ride = id) := by
  unfold doP at h
  simp only at h
  by_cases h3 : e.kind = 3
  · rw [if_neg (by omega), if_neg (by omega), if_pos h3] at h
    simp only [usedP_mem, usePut_mem] at h
    rcases h with h | h
    · exact .inl (usedP_mem.2 h)
    · exact .inr ⟨h3, h.symm⟩
  · left
    revert h
    unfold leaveP
    repeat' split
    all_goals first | exact fun h => h | (intro h; omega)
theorem used_begun {f : Fl} {s : PS} : ∀ (l : List Ev) (k : Nat), k ≤ l.length → ∀ id, usedP (stK s l k).used id = true → usedP s.used id = true ∨ ∃ j e, j < k ∧ l[j]? = some e ∧ e.kind = 3 ∧ e.ride = id
  | l, 0, _, id, h => .inl h
  | l, k + 1, hk, id, h => by
    obtain ⟨e, he⟩ : ∃ e, l[k]? = some e := ⟨_, List.getElem?_eq_getElem (by omega)⟩
    have hst : stK s l (k + 1) = doP (stK s l k) e := by
      unfold stK
      rw [List.take_add_one, he, List.foldl_append]
      rfl
    rw [hst] at h
    rcases doP_used _ _ _ h with h1 | ⟨h1, h2⟩
    · rcases used_begun (f := f) l k (by omega) id h1 with h3 | ⟨j, e', a, b, c⟩
      · exact .inl h3
      · exact .inr ⟨j, e', by omega, b, c⟩
    · exact .inr ⟨k, e, by omega, he, h1, h2⟩

end Go.Proofs.Mis

/-
  Plain facts: the last moment that a bicycle was noticed, the reference's way; when a ride began.
-/
namespace Go.Proofs.Mis
open Go.Proofs.Cus

structure TopP (p : Int → Prop) (now v : Int) : Prop where
  pos : 0 ≤ v
  is : v = 0 ∨ (p v ∧ v ≤ now)
  le : ∀ t, p t → t ≤ now → t ≤ v
theorem TopP.start (now : Int) : TopP (fun _ => False) now 0 := ⟨Int.le_refl _, .inl rfl, fun _ h => h.elim⟩
theorem TopP.add {p : Int → Prop} {now v x : Int} (h : TopP p now v) (c : Prop) [Decidable c] : TopP (fun t => p t ∨ (c ∧ t = x)) now (if c ∧ x ≤ now then max v x else v) := by
  by_cases hc : c ∧ x ≤ now
  · rw [if_pos hc]
    refine ⟨by have := h.pos; omega, ?_, fun t ht hn => ?_⟩
    · rcases Int.le_total v x with h1 | h1
      · rw [Int.max_eq_right h1]; exact .inr ⟨.inr ⟨hc.1, rfl⟩, hc.2⟩
      · rw [Int.max_eq_left h1]; exact h.is.imp id fun ⟨a, b⟩ => ⟨.inl a, b⟩
    · rcases ht with ht | ⟨_, ht⟩
      · have := h.le t ht hn; omega
      · omega
  · rw [if_neg hc]
    refine ⟨h.pos, h.is.imp id fun ⟨a, b⟩ => ⟨.inl a, b⟩, fun t ht hn => ?_⟩
    rcases ht with ht | ⟨h1, ht⟩
    · exact h.le t ht hn
    · exact absurd ⟨h1, by omega⟩ hc
theorem TopP.congr {p q : Int → Prop} {now v : Int} (h : TopP p now v) (hq : ∀ t, p t ↔ q t) : TopP q now v :=
  ⟨h.pos, h.is.imp id fun ⟨a, b⟩ => ⟨(hq v).1 a, b⟩, fun t ht => h.le t ((hq t).2 ht)⟩
theorem TopP.sv {l : List Nt} {b now v : Int} (h : TopP (fun t => (b, t) ∈ l) now v) : v = sv l b now :=
  Top.unique ⟨h.pos, h.is, h.le⟩ (sv_top l b now)

/-- what the map of rides holds before the k-th event -/
def rmK (acc : List Ev) (k : Nat) : RM := (acc.take k).foldl rmOf []
theorem nt_mem : ∀ (l A : List Ev) (x : Nt), x ∈ ntAcc (A.foldl rmOf []) l ↔ ∃ i e, l[i]? = some e ∧ x ∈ ntOf (((A ++ l).take (A.length + i)).foldl rmOf []) e
  | [], A, x => by simp [ntAcc]
  | e :: l, A, x => by
    have ih := nt_mem l (A ++ [e]) x
    rw [List.foldl_append] at ih
    simp only [List.foldl_cons, List.foldl_nil] at ih
    simp only [ntAcc, List.mem_append]
    rw [ih]
    have hAl : A ++ [e] ++ l = A ++ e :: l := by simp
    rw [hAl]
    constructor
    · rintro (h | ⟨i, e', h1, h2⟩)
      · exact ⟨0, e, rfl, by simpa using h⟩
      · refine ⟨i + 1, e', by simpa using h1, ?_⟩
        rw [show A.length + (i + 1) = (A ++ [e]).length + i by simp; omega]
        exact h2
    · rintro ⟨i, e', h1, h2⟩
      cases i with
      | zero =>
        left
        simp at h1
        subst h1
        simpa using h2
      | succ i =>
        right
        refine ⟨i, e', by simpa using h1, ?_⟩
        rw [show (A ++ [e]).length + i = A.length + (i + 1) by simp; omega]
        exact h2
/-- the k-th event is of the bicycle, or took it out of a ride -/
def hitR (acc : List Ev) (b : Int) (k : Nat) (e : Ev) : Prop := e.bike = b ∨ (e.kind = 4 ∧ formerP (acc.take k) e.ride = b)
instance (acc : List Ev) (b : Int) (k : Nat) (e : Ev) : Decidable (hitR acc b k e) := inferInstanceAs (Decidable (_ ∨ _))
theorem swap_begun {f : Fl} {n : Nat} {acc : List Ev} (h : Replay f (beginP n) acc) (hn : f.bikes = n) {k : Nat} {e : Ev} (he : acc[k]? = some e) (h4 : e.kind = 4) : ((acc.take k).any (isRide e.ride)) = true := by
  obtain ⟨_, _, hc, _⟩ := h.at_ (g := fun _ => ()) he
  have hI : ∀ k, k ≤ acc.length → PInv n (stK (beginP n) acc k) := by
    intro k
    induction k with
    | zero => exact fun _ => PInv.begin n
    | succ k ih =>
      intro hk
      obtain ⟨e, he⟩ : ∃ e, acc[k]? = some e := ⟨_, List.getElem?_eq_getElem (by omega)⟩
      obtain ⟨h1, _, h3, h4, _⟩ := h.at_ (g := fun _ => ()) he
      rw [h4]
      have hb := (evErr_ok h1).2.1
      exact (ih (by omega)).step (by omega) h3
  have hk := (List.getElem?_eq_some_iff.1 he).1
  have hI := hI k (by omega)
  rw [ck4 h4 rfl] at hc
  cases hl : lookP (stK (beginP n) acc k).open_ e.ride with
  | none => rw [hl] at hc; cases hc
  | some t =>
    have hu := hI.used _ (lookP_some hl)
    rcases used_begun (f := f) acc k (by omega) e.ride hu with h1 | ⟨j, e', h1, h2, h3, h5⟩
    · simp [beginP, usedP] at h1
    · refine List.any_eq_true.2 ⟨e', List.mem_of_getElem? (i := j) (by rw [List.getElem?_take, if_pos h1]; exact h2), ?_⟩
      unfold isRide
      simp [h3, h5]
/-- what is noticed of a bicycle of the fleet, the reference's way -/
theorem notices_iff {f : Fl} {n : Nat} {acc : List Ev} (h : Replay f (beginP n) acc) (hn : f.bikes = n) (signs : List Sg) (b t : Int) :
    (b, t) ∈ notices acc signs ↔ (∃ k e, acc[k]? = some e ∧ hitR acc b k e ∧ t = e.at_) ∨ ∃ s ∈ signs, s.bike = b ∧ t = s.at_ := by
  unfold notices
  rw [List.mem_append, or_comm]
  have hs : (b, t) ∈ signs.map sgNt ↔ ∃ s ∈ signs, s.bike = b ∧ t = s.at_ := by
    simp only [List.mem_map, sgNt, Prod.mk.injEq]
    constructor
    · rintro ⟨s, h1, h2, h3⟩; exact ⟨s, h1, h2, h3.symm⟩
    · rintro ⟨s, h1, h2, h3⟩; exact ⟨s, h1, h2, h3.symm⟩
  rw [hs]
  have ha := nt_mem acc [] (b, t)
  simp only [List.foldl_nil, List.nil_append, List.length_nil, Nat.zero_add] at ha
  rw [ha]
  constructor
  · rintro (⟨k, e, h1, h2⟩ | h1)
    · left
      refine ⟨k, e, h1, ?_⟩
      unfold ntOf at h2
      unfold hitR
      split at h2
      · rename_i h4
        simp at h2
        rcases h2 with ⟨h2, h3⟩ | ⟨h2, h3⟩
        · exact ⟨.inl h2.symm, h3⟩
        · rw [rm_former _ _ (swap_begun h hn h1 h4)] at h2
          exact ⟨.inr ⟨h4, h2.symm⟩, h3⟩
      · simp at h2
        exact ⟨.inl h2.1.symm, h2.2⟩
    · exact .inr h1
  · rintro (⟨k, e, h1, h2, h3⟩ | h1)
    · left
      refine ⟨k, e, h1, ?_⟩
      unfold ntOf
      rcases h2 with h2 | ⟨h4, h2⟩
      · split <;> simp [h2, h3]
      · rw [if_pos h4, rm_former _ _ (swap_begun h hn h1 h4)]
        simp [h2, h3]
    · exact .inr h1

/-! when a ride began -/
def isStart (r : Int) (e : Ev) : Bool := decide (e.kind = 3) && decide (e.ride = r)
def begunP (acc : List Ev) (r : Int) : Int := ((acc.find? (isStart r)).map (·.at_)).getD 0
def bmOf (m : RM) (e : Ev) : RM := if e.kind = 3 then rput m e.ride e.at_ else m
theorem used_mono (s : PS) (e : Ev) (id : Int) (h : usedP s.used id = true) : usedP (doP s e).used id = true := by
  unfold doP
  simp only
  by_cases h3 : e.kind = 3
  · rw [if_neg (by omega), if_neg (by omega), if_pos h3]
    simp only [usedP_mem, usePut_mem]
    exact .inl (usedP_mem.1 h)
  · unfold leaveP
    repeat' split
    all_goals first | exact h | omega
theorem start_once {f : Fl} {s : PS} : ∀ {l : List Ev}, Replay f s l → ∀ r, usedP s.used r = true → ∀ e ∈ l, isStart r e = false := by
  intro l
  induction l generalizing s with
  | nil => intro _ r _ e he; simp at he
  | cons x l ih =>
    rintro ⟨h1, h2, h3, h4⟩ r hu e he
    rcases List.mem_cons.1 he with rfl | he
    · cases hs : isStart r e with
      | false => rfl
      | true =>
        unfold isStart at hs
        simp at hs
        unfold checkP at h3
        simp only at h3
        rw [if_neg (by omega), if_neg (by omega), if_pos hs.1, hs.2, if_pos hu] at h3
        split at h3 <;> cases h3
    · exact ih h4 r (used_mono _ _ _ hu) e he
theorem begun_map {f : Fl} : ∀ {l : List Ev} {s : PS} (m : RM), Replay f s l → ∀ r, rlook (l.foldl bmOf m) r = ((l.find? (isStart r)).map (·.at_)).getD (rlook m r)
  | [], _, m, _, r => rfl
  | x :: l, s, m, ⟨h1, h2, h3, h4⟩, r => by
    rw [List.foldl_cons, begun_map _ h4 r]
    cases hs : isStart r x with
    | true =>
      rw [List.find?_cons_of_pos hs]
      have hx : x.kind = 3 ∧ x.ride = r := by unfold isStart at hs; simpa using hs
      have hu : usedP (doP s x).used r = true := by
        unfold doP
        simp only
        rw [if_neg (by omega), if_neg (by omega), if_pos hx.1]
        simp only [usedP_mem, usePut_mem]
        exact .inr hx.2.symm
      have hno := start_once h4 r hu
      rw [List.find?_eq_none.2 (fun e he => by rw [hno e he]; decide)]
      unfold bmOf
      rw [if_pos hx.1, rput_look, if_pos hx.2.symm]
      rfl
    | false =>
      rw [List.find?_cons_of_neg (by rw [hs]; decide)]
      congr 1
      unfold bmOf
      split
      · rename_i h3'
        rw [rput_look, if_neg (fun e => ?_)]
        unfold isStart at hs
        simp [h3'] at hs
        exact hs e.symm
      · rfl
theorem begun_eq {f : Fl} {s : PS} {acc : List Ev} (h : Replay f s acc) (r : Int) : rlook (acc.foldl bmOf []) r = begunP acc r := by
  rw [begun_map [] h r]; rfl

end Go.Proofs.Mis

/-
  Plain facts: what is overdue.
-/
namespace Go.Proofs.Mis
open Go.Proofs.Cus

theorem run_full {f : Fl} : ∀ (l : List Ev) (s : PS) (za : List Ev), ∃ t, runR f accCb l (s, za) = (t.foldl doP s, za ++ t) ∧ Replay f s t ∧ t.Sublist l
  | [], s, za => ⟨[], by simp [runR], trivial, List.Sublist.refl _⟩
  | e :: l, s, za => by
    show ∃ t, runR f accCb l (tellR accCb za e (stepR f s e)) = (t.foldl doP s, za ++ t) ∧ _
    by_cases h0 : errR f s e = 0
    · by_cases hk : e.kind = 10
      · rw [step_beat h0 hk]
        obtain ⟨t, h1, h2, h3⟩ := run_full l s za
        exact ⟨t, h1, h2, h3.cons _⟩
      · obtain ⟨h1, h2, h3⟩ := step_do h0 hk
        rw [h1]
        obtain ⟨t, a1, a2, a3⟩ := run_full l (doP s e) (za ++ [e])
        refine ⟨e :: t, ?_, ⟨h2, hk, h3, a2⟩, a3.cons_cons _⟩
        show runR f accCb l (doP s e, accCb za (doP s e) e 0) = _
        rw [show accCb za (doP s e) e 0 = za ++ [e] from rfl, a1]
        simp
    · rw [step_err h0]
      show ∃ t, runR f accCb l (s, accCb za s e (errR f s e)) = _ ∧ _
      rw [show accCb za s e (errR f s e) = za by unfold accCb; rw [if_neg h0]]
      obtain ⟨t, h1, h2, h3⟩ := run_full l s za
      exact ⟨t, h1, h2, h3.cons _⟩
theorem run_replayed {f : Fl} : ∀ (l : List Ev) (s : PS), Replay f s l → (runR f nobCb l (s, ())).1 = l.foldl doP s
  | [], _, _ => rfl
  | e :: l, s, ⟨h1, h2, h3, h4⟩ => by
    show (runR f nobCb l (tellR nobCb () e (stepR f s e))).1 = _
    have he : errR f s e = 0 := by unfold errR; rw [if_neg (fun h => h h1), if_neg h2, h3]
    rw [(step_do he h2).1]
    exact run_replayed l (doP s e) h4
theorem Replay.parts {f : Fl} : ∀ (l m : List Ev) (s : PS), Replay f s (l ++ m) → Replay f s l ∧ Replay f (l.foldl doP s) m
  | [], _, _, h => ⟨trivial, h⟩
  | e :: l, m, s, ⟨h1, h2, h3, h4⟩ => by
    obtain ⟨a, b⟩ := Replay.parts l m (doP s e) h4
    exact ⟨⟨h1, h2, h3, a⟩, b⟩
/-- a part of a set is a set -/
theorem set_sub {xs l : List Ev} (h : l.Sublist (setOf xs)) : setOf l = l := by
  have hI := set_isSet xs
  refine (set_isSet l).unique ⟨hI.sorted.sublist h, fun e => ⟨fun he => ⟨he, fun e' he' hs => ?_⟩, fun he => he.1⟩⟩
  exact ((hI.mem e).1 (h.subset he)).2 e' ((hI.mem e').1 (h.subset he')).1 hs
def upTo (now : Int) (l : List Ev) : List Ev := l.filter fun e => decide (e.at_ ≤ now)
/-- the accepted events up to a moment lead to the state of that moment -/
theorem acc_until {f : Fl} (hok : flErr f = 0) (xs : List Ev) (now : Int) : spotsOf f (upTo now (accOf f xs)) = (stAtT f xs now).spots ∧ accOf f (untilP now xs) = upTo now (accOf f xs) := by
  have hs := (set_isSet xs).sorted
  obtain ⟨k, hk, hf, hd⟩ := early_take (l := setOf xs) (fun x => !decide (now < x.at_)) hs (fun a b hab hb => by simp at hb ⊢; omega)
  have hu : untilP now xs = (setOf xs).take k := hf
  obtain ⟨t1, a1, a2, a3⟩ := run_full (f := f) ((setOf xs).take k) (beginP (nbOf f)) []
  obtain ⟨t2, b1, b2, b3⟩ := run_full (f := f) ((setOf xs).drop k) (t1.foldl doP (beginP (nbOf f))) ([] ++ t1)
  have hacc : accOf f xs = t1 ++ t2 := by
    unfold accOf
    rw [if_pos hok]
    conv => lhs; rw [← List.take_append_drop k (setOf xs)]
    rw [runR_append, a1, b1]
    simp
  have hup : upTo now (accOf f xs) = t1 := by
    unfold upTo
    rw [hacc, List.filter_append]
    have h1 : t1.filter (fun e => decide (e.at_ ≤ now)) = t1 := List.filter_eq_self.2 fun e he => by
      have h2 := a3.subset he
      rw [← hf] at h2
      have := (List.mem_filter.1 h2).2
      simp at this; simpa using this
    have h2 : t2.filter (fun e => decide (e.at_ ≤ now)) = [] := List.filter_eq_nil_iff.2 fun e he => by
      have := hd e (b3.subset he)
      simp at this; simpa using this
    rw [h1, h2, List.append_nil]
  constructor
  · rw [hup]
    unfold spotsOf stAtT
    rw [if_pos hok, set_sub (a3.trans (List.take_sublist k _)), run_replayed t1 _ a2, hu]
    have := runR_fst (f := f) (cb := accCb) (cb2 := nobCb) ((setOf xs).take k) (beginP (nbOf f)) [] ()
    rw [← this, a1]
  · rw [hup]
    unfold accOf
    rw [if_pos hok, until_set, hu, a1]
    simp

def chkP (si ri : Int) : Int := if ((decide (si < 1) || decide (4294943999 < si)) || (decide (ri < 1) || decide (4294943999 < ri))) = true then 1 else 0
def overErr (f : Fl) (si ri now : Int) : Int := if chkP si ri ≠ 0 then chkP si ri else if flErr f ≠ 0 then flErr f else if (decide (now < 0) || decide (4294943999 < now)) = true then 1 else 0
def lateP (acc : List Ev) (signs : List Sg) (si ri now : Int) (b : Nat) (s : Sp) : Bool := (parkedS s && decide (si < now - sv (notices acc signs) b now)) || (decide (s.where_ = 3) && decide (ri < now - begunP acc s.ride))
def overL (acc : List Ev) (signs : List Sg) (si ri now : Int) (sp : List Sp) (k : Nat) : List Int := ((List.range k).filter fun b => lateP acc signs si ri now b (sp.getD b default)).map fun b : Nat => (b : Int)
def overOf (f : Fl) (xs : List Ev) (signs : List Sg) (si ri now : Int) : List Int := if overErr f si ri now = 0 then overL (accOf f xs) signs si ri now (stAtT f xs now).spots (nbOf f) else []
theorem overL_snoc (acc : List Ev) (signs : List Sg) (si ri now : Int) (sp : List Sp) (k : Nat) : overL acc signs si ri now sp (k + 1) = overL acc signs si ri now sp k ++ (if lateP acc signs si ri now k (sp.getD k default) = true then [(k : Int)] else []) := by
  unfold overL
  rw [List.range_succ, List.filter_append, List.map_append]
  congr 1
  by_cases h : lateP acc signs si ri now k (sp.getD k default) = true
  · rw [if_pos h]; simp only [List.filter_cons, h, if_true, List.filter_nil, List.map_cons, List.map_nil]
  · rw [if_neg h]; simp only [List.filter_cons, h, List.filter_nil]; rfl
theorem overL_len (acc : List Ev) (signs : List Sg) (si ri now : Int) (sp : List Sp) (k : Nat) : (overL acc signs si ri now sp k).length ≤ k := by
  unfold overL
  rw [List.length_map]
  have := List.length_filter_le (fun b => lateP acc signs si ri now b (sp.getD b default)) (List.range k)
  simpa using this
theorem over_ok {f : Fl} {si ri now : Int} (h : overErr f si ri now = 0) : chkP si ri = 0 ∧ flErr f = 0 ∧ 0 ≤ now ∧ now ≤ 4294943999 := by
  unfold overErr at h
  by_cases h1 : chkP si ri = 0
  · rw [if_neg (fun h => h h1)] at h
    by_cases h2 : flErr f = 0
    · rw [if_neg (fun h => h h2)] at h
      by_cases h3 : (decide (now < 0) || decide (4294943999 < now)) = true
      · rw [if_pos h3] at h; cases h
      · simp at h3; exact ⟨h1, h2, by omega, by omega⟩
    · rw [if_pos h2] at h; exact absurd h h2
  · rw [if_pos h1] at h; exact absurd h h1

end Go.Proofs.Mis

/-
  Plain facts: the laws of what is overdue.
-/
namespace Go.Proofs.Mis
open Go.Proofs.Cus

section
variable {acc : List Ev} {signs signs' : List Sg} {si ri now : Int} {sp : List Sp} {k : Nat}
theorem mem_over (b : Nat) : (b : Int) ∈ overL acc signs si ri now sp k ↔ b < k ∧ lateP acc signs si ri now b (sp.getD b default) = true := by
  unfold overL
  simp only [List.mem_map, List.mem_filter, List.mem_range]
  constructor
  · rintro ⟨a, ⟨h1, h2⟩, h3⟩
    have h4 : a = b := by omega
    subst h4; exact ⟨h1, h2⟩
  · rintro ⟨h1, h2⟩; exact ⟨b, ⟨h1, h2⟩, rfl⟩
theorem over_bikes {x : Int} (h : x ∈ overL acc signs si ri now sp k) : ∃ b : Nat, x = b ∧ b < k := by
  unfold overL at h
  simp only [List.mem_map, List.mem_filter, List.mem_range] at h
  obtain ⟨a, ⟨h1, _⟩, h3⟩ := h
  exact ⟨a, h3.symm, h1⟩
theorem over_sorted : (overL acc signs si ri now sp k).Pairwise (· < ·) := by
  unfold overL
  refine List.pairwise_map.2 (List.Pairwise.imp (fun h => by omega) (List.Pairwise.filter _ (List.pairwise_lt_range (n := k))))
theorem late_mono {si2 ri2 : Int} {b : Nat} {s : Sp} (h1 : si ≤ si2) (h2 : ri ≤ ri2) (h : lateP acc signs si2 ri2 now b s = true) : lateP acc signs si ri now b s = true := by
  unfold lateP at *
  simp only [Bool.or_eq_true, Bool.and_eq_true, decide_eq_true_eq] at *
  rcases h with ⟨a, b⟩ | ⟨a, b⟩
  · exact .inl ⟨a, by omega⟩
  · exact .inr ⟨a, by omega⟩
theorem over_mono {si2 ri2 x : Int} (h1 : si ≤ si2) (h2 : ri ≤ ri2) (h : x ∈ overL acc signs si2 ri2 now sp k) : x ∈ overL acc signs si ri now sp k := by
  obtain ⟨b, rfl, hb⟩ := over_bikes h
  exact (mem_over b).2 ⟨hb, late_mono h1 h2 ((mem_over b).1 h).2⟩
theorem over_congr (h : ∀ x, x ∈ notices acc signs ↔ x ∈ notices acc signs') : overL acc signs si ri now sp k = overL acc signs' si ri now sp k := by
  unfold overL
  congr 1
  refine List.filter_congr fun b _ => ?_
  unfold lateP
  rw [sv_congr (fun t => h _)]
theorem notices_congr (h : ∀ s, s ∈ signs ↔ s ∈ signs') (x : Nt) : x ∈ notices acc signs ↔ x ∈ notices acc signs' := by
  unfold notices
  simp only [List.mem_append, List.mem_map, h]
end
theorem accOf_congr {f : Fl} {xs ys : List Ev} (h : setOf ys = setOf xs) : accOf f ys = accOf f xs := by unfold accOf; rw [h]
theorem stAtT_congr {f : Fl} {xs ys : List Ev} (h : setOf ys = setOf xs) (now : Int) : stAtT f ys now = stAtT f xs now := by unfold stAtT untilP; rw [h]
theorem overOf_congr {f : Fl} {xs ys : List Ev} {signs signs' : List Sg} {si ri now : Int} (h : setOf ys = setOf xs) (hs : ∀ s, s ∈ signs' ↔ s ∈ signs) : overOf f ys signs' si ri now = overOf f xs signs si ri now := by
  unfold overOf
  rw [accOf_congr h, stAtT_congr h, over_congr (fun x => notices_congr hs x)]
theorem setOf_congr {xs ys : List Ev} (h : ∀ e, e ∈ ys ↔ e ∈ xs) : setOf ys = setOf xs :=
  ((set_isSet ys).congr h).unique (set_isSet xs)

/-! a sign at the moment -/
theorem sv_sign (acc : List Ev) (signs : List Sg) (b now : Int) (hn : 0 ≤ now) : sv (notices acc (signs ++ [⟨b, now⟩])) b now = now :=
  ((sv_top _ b now).unique ⟨hn, .inr ⟨by unfold notices; simp [sgNt], Int.le_refl _⟩, fun _ _ h => h⟩)
theorem sv_other (acc : List Ev) (signs : List Sg) (b c now t : Int) (hc : b ≠ c) : sv (notices acc (signs ++ [⟨c, t⟩])) b now = sv (notices acc signs) b now :=
  sv_congr fun u => by
    unfold notices
    simp only [List.map_append, List.mem_append, List.map_cons, List.map_nil, List.mem_singleton, sgNt, Prod.mk.injEq]
    constructor
    · rintro ((h | ⟨h, _⟩) | h)
      · exact .inl h
      · exact absurd h hc
      · exact .inr h
    · rintro (h | h)
      · exact .inl (.inl h)
      · exact .inr h
theorem late_sign (acc : List Ev) (signs : List Sg) (si ri now bike : Int) (b : Nat) (s : Sp) (hn : 0 ≤ now) (hs : 1 ≤ si) :
    lateP acc (signs ++ [⟨bike, now⟩]) si ri now b s = (lateP acc signs si ri now b s && (!decide ((b : Int) = bike) || decide (s.where_ = 3))) := by
  by_cases hb : (b : Int) = bike
  · subst hb
    unfold lateP
    rw [sv_sign acc signs b now hn]
    have h0 : decide (si < now - now) = false := by simp; omega
    rw [h0]
    by_cases h3 : s.where_ = 3
    · have : parkedS s = false := by unfold parkedS; simp [h3]
      simp [this, h3]
    · simp [h3]
  · unfold lateP
    rw [sv_other acc signs b bike now now hb]
    simp [hb]

/-! reports -/
def repEv (device seq now : Int) (i : Nat) (b : Int) : Ev := ⟨device, seq + i, now, now, 9, b, 0, 0, 0⟩
def repL (device seq now : Int) (l : List Int) : List Ev := l.mapIdx (repEv device seq now)
theorem repL_len (device seq now : Int) (l : List Int) : (repL device seq now l).length = l.length := by simp [repL]
theorem repL_snoc {device seq now : Int} {l : List Int} {k : Nat} {b : Int} (h : l[k]? = some b) : repL device seq now (l.take (k + 1)) = repL device seq now (l.take k) ++ [repEv device seq now k b] := by
  have hk := (List.getElem?_eq_some_iff.1 h).1
  unfold repL
  rw [List.take_add_one, h]
  simp only [Option.toList_some]
  rw [List.mapIdx_concat, List.length_take, Nat.min_eq_left (by omega)]
theorem repL_mem {device seq now : Int} {l : List Int} {e : Ev} : e ∈ repL device seq now l ↔ ∃ i b, l[i]? = some b ∧ e = repEv device seq now i b := by
  unfold repL
  rw [List.mem_iff_getElem?]
  simp only [List.getElem?_mapIdx]
  constructor
  · rintro ⟨i, h⟩
    cases hl : l[i]? with
    | none => rw [hl] at h; cases h
    | some b => rw [hl] at h; exact ⟨i, b, hl, (Option.some.inj h).symm⟩
  · rintro ⟨i, b, h, rfl⟩
    exact ⟨i, by rw [h]; rfl⟩
theorem evLess_seq {a b : Ev} (h1 : a.at_ = b.at_) (h2 : a.device = b.device) (h3 : a.seq < b.seq) : evLess a b = true := by
  unfold evLess Ev.keys
  simp only [lexLt]
  rw [if_neg (by omega), if_neg (by omega), if_pos (by omega)]
  simp; omega
theorem set_reports {xs : List Ev} {device seq now : Int} {l : List Int} (h : ∀ e ∈ xs, e.at_ < now ∧ (e.device ≠ device ∨ e.seq < seq)) : setOf (xs ++ repL device seq now l) = setOf xs ++ repL device seq now l := by
  have hs := set_isSet xs
  have hx : ∀ e ∈ setOf xs, e ∈ xs := fun e he => ((hs.mem e).1 he).1
  have hno : ∀ e ∈ xs, ∀ e' ∈ repL device seq now l, sameNum e e' = false := fun e he e' he' => by
    obtain ⟨i, b, _, rfl⟩ := repL_mem.1 he'
    cases hsn : sameNum e (repEv device seq now i b) with
    | false => rfl
    | true =>
      obtain ⟨h1, h2⟩ := same_iff.1 hsn
      simp only [repEv] at h1 h2
      rcases (h e he).2 with h3 | h3
      · exact absurd h1 h3
      · omega
  refine (set_isSet _).unique ⟨List.pairwise_append.2 ⟨hs.sorted, ?_, fun a ha b hb => ?_⟩, fun e => ?_⟩
  · unfold repL
    rw [List.pairwise_iff_getElem]
    intro i j hi hj hij
    simp only [List.getElem_mapIdx]
    exact evLess_seq rfl rfl (by simp only [repEv]; omega)
  · obtain ⟨i, c, _, rfl⟩ := repL_mem.1 hb
    exact (less_at (by simp only [repEv]; exact (h a (hx a ha)).1)).1
  · simp only [List.mem_append]
    constructor
    · rintro (he | he)
      · obtain ⟨h1, h2⟩ := (hs.mem e).1 he
        refine ⟨.inl h1, fun e' he' hsn => ?_⟩
        rcases he' with he' | he'
        · exact h2 e' he' hsn
        · rw [hno e h1 e' he'] at hsn; cases hsn
      · refine ⟨.inr he, fun e' he' hsn => ?_⟩
        rcases he' with he' | he'
        · rw [same_comm, hno e' he' e he] at hsn; cases hsn
        · obtain ⟨i, b, hi, rfl⟩ := repL_mem.1 he
          obtain ⟨j, c, hj, rfl⟩ := repL_mem.1 he'
          obtain ⟨_, h2⟩ := same_iff.1 hsn
          simp only [repEv] at h2
          have hij : i = j := by omega
          subst hij
          rw [hi] at hj
          cases hj
          exact less_irrefl _
    · rintro ⟨he | he, h2⟩
      · exact .inl ((hs.mem e).2 ⟨he, fun e' he' => h2 e' (.inl he')⟩)
      · exact .inr he

theorem doP_missing (s : PS) (e : Ev) (h : e.kind = 9) : doP s e = leaveP s e.bike.toNat ⟨6, 0, 0, false⟩ := by
  unfold doP
  simp only
  rw [if_neg (by omega), if_neg (by omega), if_neg (by omega), if_neg (by omega), if_neg (by omega), if_neg (by omega), if_neg (by omega), if_pos h]
theorem reps_replay {f : Fl} {device seq now : Int} (hok : flErr f = 0) (hd : 0 ≤ device ∧ device < f.devices) (hn : 0 ≤ now ∧ now ≤ 4294943999) (hq : 1 ≤ seq) :
    ∀ (l : List Int) (s : PS) (j : Nat), seq + (j : Int) + l.length - 1 ≤ 1048576 → l.Nodup → (∀ b ∈ l, 0 ≤ b ∧ b < f.bikes ∧ ∃ x, s.spots[b.toNat]? = some x ∧ x.where_ ≠ 5 ∧ x.where_ ≠ 6) →
      Replay f s (l.mapIdx fun i => repEv device seq now (j + i)) ∧ ∀ k : Nat, ((l.mapIdx fun i => repEv device seq now (j + i)).foldl doP s).spots[k]? = if (k : Int) ∈ l then some ⟨6, 0, 0, false⟩ else s.spots[k]?
  | [], s, j, _, _, _ => ⟨trivial, fun k => by simp⟩
  | b :: l, s, j, hl, hnd, hb => by
    simp only [List.length_cons, List.nodup_cons] at hl hnd
    obtain ⟨hb0, hb1, x, hx, hx5, hx6⟩ := hb b (by simp)
    have hk := (List.getElem?_eq_some_iff.1 hx).1
    have hdo : doP s (repEv device seq now j b) = leaveP s b.toNat ⟨6, 0, 0, false⟩ := doP_missing s _ rfl
    have hsp : (doP s (repEv device seq now j b)).spots = s.spots.set b.toNat ⟨6, 0, 0, false⟩ := by rw [hdo]; rfl
    obtain ⟨h1, h2⟩ := reps_replay hok hd hn hq l (doP s (repEv device seq now j b)) (j + 1) (by omega) hnd.2 fun c hc => by
      obtain ⟨c0, c1, y, hy, hy5, hy6⟩ := hb c (List.mem_cons_of_mem _ hc)
      refine ⟨c0, c1, y, ?_, hy5, hy6⟩
      rw [hsp, List.getElem?_set_ne (fun e => hnd.1 (by rw [show b = c by omega]; exact hc))]
      exact hy
    have hm : (b :: l).mapIdx (fun i => repEv device seq now (j + i)) = repEv device seq now j b :: l.mapIdx (fun i => repEv device seq now (j + 1 + i)) := by
      rw [List.mapIdx_cons]
      congr 1
      congr 1
      funext i
      rw [show j + 1 + i = j + (i + 1) by omega]
    rw [hm]
    refine ⟨⟨?_, by simp [repEv], ?_, h1⟩, fun k => ?_⟩
    · unfold evErr
      have hw : within (seq + (j : Int)) 1 1048576 = true := by unfold within; simp; omega
      have hw2 : within device 0 (f.devices - 1) = true := by unfold within; simp; omega
      have hw3 : within b 0 (f.bikes - 1) = true := by unfold within; simp; omega
      have h4 : within 9 1 10 = true := by decide
      have h5 : placed f (repEv device seq now j b) = true := by unfold placed repEv; simp
      have h6 : named f (repEv device seq now j b) = true := by unfold named repEv; simp
      rw [if_neg (fun h => h hok), if_neg (by show ¬ ((((!within device 0 (f.devices - 1) || !within (seq + (j : Int)) 1 1048576) || decide (now < 0)) || decide (now < now)) || decide (4294943999 < now)) = true; rw [hw, hw2]; simp; omega), if_neg (by simp [repEv, h4]), if_neg (by simp [repEv, hw3]), if_neg (by rw [h5]; decide), if_neg (by rw [h6]; decide)]
    · unfold checkP
      simp [repEv, List.getD_eq_getElem?_getD, hx, hx5, hx6, refuse]
    · rw [List.foldl_cons, h2 k, hsp]
      by_cases hkl : (k : Int) ∈ l
      · rw [if_pos hkl, if_pos (List.mem_cons_of_mem _ hkl)]
      · rw [if_neg hkl, List.getElem?_set]
        by_cases hkb : b.toNat = k
        · rw [if_pos hkb, if_pos (by omega), if_pos (by simp; omega)]
        · rw [if_neg hkb, if_neg (by simp; exact ⟨by omega, hkl⟩)]
theorem run_acc {f : Fl} : ∀ (l : List Ev) (s : PS) (z : List Ev), Replay f s l → runR f accCb l (s, z) = (l.foldl doP s, z ++ l)
  | [], _, _, _ => by simp [runR]
  | e :: l, s, z, ⟨h1, h2, h3, h4⟩ => by
    show runR f accCb l (tellR accCb z e (stepR f s e)) = _
    have he : errR f s e = 0 := by unfold errR; rw [if_neg (fun h => h h1), if_neg h2, h3]
    rw [(step_do he h2).1]
    show runR f accCb l (doP s e, accCb z (doP s e) e 0) = _
    rw [show accCb z (doP s e) e 0 = z ++ [e] from rfl, run_acc l (doP s e) _ h4]
    simp
theorem late_missing {acc : List Ev} {signs : List Sg} {si ri now : Int} {b : Nat} : lateP acc signs si ri now b ⟨6, 0, 0, false⟩ = false := by unfold lateP parkedS; simp
theorem late_where {acc : List Ev} {signs : List Sg} {si ri now : Int} {b : Nat} {s : Sp} (h : lateP acc signs si ri now b s = true) : s.where_ ≠ 5 ∧ s.where_ ≠ 6 := by
  unfold lateP parkedS at h
  simp at h
  omega
/-- what the reports lead to -/
theorem reports_do {f : Fl} {xs : List Ev} {signs : List Sg} {si ri now device seq : Int} (he : overErr f si ri now = 0) (hd : 0 ≤ device ∧ device < f.devices) (hq : 1 ≤ seq)
    (hl : seq + (overOf f xs signs si ri now).length - 1 ≤ 1048576) (h : ∀ e ∈ xs, e.at_ < now ∧ (e.device ≠ device ∨ e.seq < seq)) :
    (∀ k : Nat, (stAtT f (xs ++ repL device seq now (overOf f xs signs si ri now)) now).spots[k]? = if (k : Int) ∈ overOf f xs signs si ri now then some ⟨6, 0, 0, false⟩ else (stAtT f xs now).spots[k]?) ∧
    overOf f (xs ++ repL device seq now (overOf f xs signs si ri now)) signs si ri now = [] := by
  obtain ⟨_, hok, hn0, hn1⟩ := over_ok he
  have ho : overOf f xs signs si ri now = overL (accOf f xs) signs si ri now (stAtT f xs now).spots (nbOf f) := by unfold overOf; rw [if_pos he]
  obtain ⟨R, hR⟩ : ∃ R, R = repL device seq now (overOf f xs signs si ri now) := ⟨_, rfl⟩
  have hset : setOf (xs ++ R) = setOf xs ++ R := by rw [hR]; exact set_reports h
  have hat : ∀ e ∈ setOf xs, ¬ now < e.at_ := fun e he => by have := (h e (((set_isSet xs).mem e).1 he).1).1; omega
  have hatR : ∀ e ∈ R, ¬ now < e.at_ := fun e he => by
    rw [hR] at he
    obtain ⟨i, b, _, rfl⟩ := repL_mem.1 he
    simp [repEv]
  have hu : untilP now xs = setOf xs := by
    unfold untilP
    exact List.filter_eq_self.2 fun e he => by simp; have := hat e he; omega
  have hu2 : untilP now (xs ++ R) = setOf xs ++ R := by
    unfold untilP
    rw [hset]
    exact List.filter_eq_self.2 fun e he => by
      rcases List.mem_append.1 he with he | he
      · have := hat e he; simp; omega
      · have := hatR e he; simp; omega
  have hlen : (stAtT f xs now).spots.length = nbOf f := (runR_inv (cb := nobCb) (nb_eq hok) _ _ (PInv.begin _)).len
  have hnb := nb_eq hok
  obtain ⟨t, a1, a2, a3⟩ := run_full (f := f) (setOf xs) (beginP (nbOf f)) []
  rw [List.nil_append] at a1
  have hst : stAtT f xs now = t.foldl doP (beginP (nbOf f)) := by
    unfold stAtT
    rw [hu, ← runR_fst (f := f) (cb := accCb) (cb2 := nobCb) (setOf xs) (beginP (nbOf f)) [] (), a1]
  have hacc : accOf f xs = t := by unfold accOf; rw [if_pos hok, a1]
  obtain ⟨b1, b2⟩ := reps_replay hok hd ⟨hn0, hn1⟩ hq (overOf f xs signs si ri now) (stAtT f xs now) 0 (by omega) (by rw [ho]; exact over_sorted.imp (fun h => by omega)) fun b hb => by
    rw [ho] at hb
    obtain ⟨c, rfl, hc⟩ := over_bikes hb
    have hlt := (mem_over c).1 hb
    obtain ⟨x, hx⟩ : ∃ x, (stAtT f xs now).spots[c]? = some x := ⟨_, List.getElem?_eq_getElem (by omega)⟩
    have hx2 : (stAtT f xs now).spots.getD c default = x := by rw [List.getD_eq_getElem?_getD, hx]; rfl
    rw [hx2] at hlt
    exact ⟨by omega, by omega, x, by simpa using hx, late_where hlt.2⟩
  have hRe : (overOf f xs signs si ri now).mapIdx (fun i => repEv device seq now (0 + i)) = R := by rw [hR]; unfold repL; congr 1; funext i; rw [Nat.zero_add]
  rw [hRe] at b1 b2
  have hrun : runR f accCb (setOf xs ++ R) (beginP (nbOf f), []) = (R.foldl doP (stAtT f xs now), t ++ R) := by
    rw [runR_append, a1, ← hst, run_acc R _ _ b1]
  have hst2 : stAtT f (xs ++ R) now = R.foldl doP (stAtT f xs now) := by
    show (runR f nobCb (untilP now (xs ++ R)) (beginP (nbOf f), ())).1 = _
    rw [hu2, ← runR_fst (f := f) (cb := accCb) (cb2 := nobCb) (setOf xs ++ R) (beginP (nbOf f)) [] (), hrun]
  have hacc2 : accOf f (xs ++ R) = accOf f xs ++ R := by
    rw [hacc]
    unfold accOf
    rw [if_pos hok, hset, hrun]
  have hsp : ∀ k : Nat, (stAtT f (xs ++ R) now).spots[k]? = if (k : Int) ∈ overOf f xs signs si ri now then some ⟨6, 0, 0, false⟩ else (stAtT f xs now).spots[k]? := by rw [hst2]; exact b2
  rw [← hR]
  refine ⟨hsp, ?_⟩
  have ho2 : overOf f (xs ++ R) signs si ri now = overL (accOf f (xs ++ R)) signs si ri now (stAtT f (xs ++ R) now).spots (nbOf f) := by unfold overOf; rw [if_pos he]
  rw [ho2, hacc2]
  refine List.eq_nil_iff_forall_not_mem.2 fun x hx => ?_
  obtain ⟨b, rfl, hb⟩ := over_bikes hx
  have hlt := ((mem_over b).1 hx).2
  have hg : (stAtT f (xs ++ R) now).spots.getD b default = if (b : Int) ∈ overOf f xs signs si ri now then ⟨6, 0, 0, false⟩ else (stAtT f xs now).spots.getD b default := by
    rw [List.getD_eq_getElem?_getD, hsp b]
    split
    · rfl
    · rw [List.getD_eq_getElem?_getD]
  rw [hg] at hlt
  by_cases hbo : (b : Int) ∈ overOf f xs signs si ri now
  · rw [if_pos hbo, late_missing] at hlt; cases hlt
  · rw [if_neg hbo] at hlt
    refine hbo ?_
    rw [ho]
    refine (mem_over b).2 ⟨hb, ?_⟩
    have hkind : ∀ e ∈ R, e.kind = 9 ∧ e.bike ∈ overOf f xs signs si ri now := fun e he => by
      rw [hR] at he
      obtain ⟨i, c, hi, rfl⟩ := repL_mem.1 he
      exact ⟨rfl, List.mem_of_getElem? hi⟩
    have hsv : sv (notices (accOf f xs ++ R) signs) b now = sv (notices (accOf f xs) signs) b now := sv_congr fun u => by
      have key : ∀ (l : List Ev) (m : RM), (∀ e ∈ l, e.kind = 9 ∧ e.bike ∈ overOf f xs signs si ri now) → ((b : Int), u) ∉ ntAcc m l := by
        intro l
        induction l with
        | nil => intro m _ h; simp [ntAcc] at h
        | cons e l ih =>
          intro m hk hm
          obtain ⟨k9, kb⟩ := hk e (by simp)
          simp only [ntAcc, List.mem_append] at hm
          rcases hm with hm | hm
          · unfold ntOf at hm
            rw [if_neg (by omega)] at hm
            simp at hm
            exact hbo (hm.1 ▸ kb)
          · exact ih _ (fun e he => hk e (List.mem_cons_of_mem _ he)) hm
      have happ : ∀ (l m : List Ev) (r : RM), ntAcc r (l ++ m) = ntAcc r l ++ ntAcc (l.foldl rmOf r) m := by
        intro l
        induction l with
        | nil => intro m r; rfl
        | cons e l ih => intro m r; simp [ntAcc, ih]
      unfold notices
      rw [happ]
      simp only [List.mem_append]
      constructor
      · rintro (h | h | h)
        · exact .inl h
        · exact .inr h
        · exact absurd h (key R _ hkind)
      · rintro (h | h)
        · exact .inl h
        · exact .inr (.inl h)
    have hbg : ∀ r, begunP (accOf f xs ++ R) r = begunP (accOf f xs) r := fun r => by
      unfold begunP
      have hno : R.find? (isStart r) = none := List.find?_eq_none.2 (fun e he => by unfold isStart; simp [(hkind e he).1])
      rw [List.find?_append, hno]
      simp
    unfold lateP at hlt ⊢
    rw [hsv, hbg] at hlt
    exact hlt

/-! what Reports returns -/
def repErr (f : Fl) (xs : List Ev) (signs : List Sg) (si ri now device seq : Int) : Int :=
  if overErr f si ri now ≠ 0 then overErr f si ri now
  else if ((((decide (device < 0) || decide (f.devices ≤ device)) || decide (seq < 1)) || decide (1048576 < seq)) || decide (1048576 < seq + (overOf f xs signs si ri now).length - 1)) = true then 1 else 0
def repOf (f : Fl) (xs : List Ev) (signs : List Sg) (si ri now device seq : Int) : List Ev := if repErr f xs signs si ri now device seq = 0 then repL device seq now (overOf f xs signs si ri now) else []
theorem rep_ok {f : Fl} {xs : List Ev} {signs : List Sg} {si ri now device seq : Int} (h : repErr f xs signs si ri now device seq = 0) : overErr f si ri now = 0 ∧ (0 ≤ device ∧ device < f.devices) ∧ 1 ≤ seq ∧ seq + (overOf f xs signs si ri now).length - 1 ≤ 1048576 := by
  unfold repErr at h
  by_cases h1 : overErr f si ri now = 0
  · rw [if_neg (fun h => h h1)] at h
    split at h
    · cases h
    · rename_i h2
      simp at h2
      omega
  · rw [if_pos h1] at h; exact absurd h h1

end Go.Proofs.Mis

/-
  The walks: when bicycles were noticed.
-/
namespace Go.Proofs.Mis
open Go Go.RowKit Go.Proofs.E Go.Proofs.Cus

theorem fl51 {fs : Array Field} (h : Try.prog.underlying 51 = some (.struct fs) := by exact Try.underlying51) : FieldsLie Try.prog fs [(0, 1), (1, 1)] := by
  rw [Try.underlying51] at h
  cases h
  intro w
  kernel_rfl
theorem fl83 {fs : Array Field} (h : Try.prog.underlying 83 = some (.struct fs) := by exact Try.underlying83) : FieldsLie Try.prog fs [(0, 1), (1, 1)] := by
  rw [Try.underlying83] at h
  cases h
  intro w
  kernel_rfl
def Sg.cells (s : Sg) : List Value := [.int .i64 s.bike, .int .i64 s.at_]
abbrev SgsAt (w : World) (A : Option Addr) (n : Nat) (xs : List Sg) : Prop := SlAt w 2 Sg.cells A n xs
def ntV (x : Nt) : Array Value := #[.agg #[.int .i64 x.1, .int .i64 x.2]]
def rmV (m : RM) : List (Int × Value) := m.map fun p => (p.1, .int .i64 p.2)
theorem rmV_put : ∀ (m : RM) (r b : Int), mput (rmV m) r (.int .i64 b) = rmV (rput m r b)
  | [], r, b => rfl
  | p :: m, r, b => by
    have ih := rmV_put m r b
    unfold rmV at ih ⊢
    simp only [List.map_cons, mput, rput]
    split
    · simp
    · rw [ih]; rfl
theorem rmV_look (m : RM) (r : Int) : (mlook (rmV m) r).getD (.int .i64 0) = .int .i64 (rlook m r) := by
  unfold mlook rmV rlook
  rw [List.find?_map]
  cases h : m.find? ((fun p : Int × Value => p.1 == r) ∘ fun p : Int × Int => (p.1, Value.int .i64 p.2)) with
  | none =>
    have : m.find? (fun p => p.1 == r) = none := h
    rw [this]; rfl
  | some q =>
    have : m.find? (fun p => p.1 == r) = some q := h
    rw [this]; rfl
/-- what the iterator reads -/
structure NtR (b3 b2 : Nat) (sA : Option Addr) (sn sc : Nat) (signs : List Sg) (aA : Option Addr) (an ac : Nat) (acc : List Ev) (w : World) : Prop where
  c3 : w.cell? ⟨b3, 0, none⟩ = some (.slice sA sn sc)
  c2 : w.cell? ⟨b2, 0, none⟩ = some (.slice aA an ac)
  sg : SgsAt w sA sn signs
  ev : EvsAt w aA an acc
theorem ntAcc_append : ∀ (l m : List Ev) (r : RM), ntAcc r (l ++ m) = ntAcc r l ++ ntAcc (l.foldl rmOf r) m
  | [], _, _ => rfl
  | e :: l, m, r => by simp [ntAcc, ntAcc_append l m]
def preK (signs : List Sg) (acc : List Ev) (k : Nat) : List Nt := signs.map sgNt ++ ntAcc [] (acc.take k)
theorem preK_step {signs : List Sg} {acc : List Ev} {k : Nat} {e : Ev} (h : acc[k]? = some e) : preK signs acc (k + 1) = preK signs acc k ++ ntOf (rmK acc k) e ∧ rmK acc (k + 1) = rmOf (rmK acc k) e ∧ (preK signs acc k ++ ntOf (rmK acc k) e) <+: notices acc signs := by
  have hs : preK signs acc (k + 1) = preK signs acc k ++ ntOf (rmK acc k) e := by
    unfold preK
    rw [take_snoc _ _ _ h, ntAcc_append, List.append_assoc]
    simp [ntAcc, rmK]
  refine ⟨hs, ?_, ?_⟩
  · unfold rmK; rw [take_snoc _ _ _ h, List.foldl_append]; rfl
  · rw [← hs]
    unfold preK notices
    refine (List.prefix_append_right_inj _).2 ⟨ntAcc ((acc.take (k + 1)).foldl rmOf []) (acc.drop (k + 1)), ?_⟩
    rw [← ntAcc_append, List.take_append_drop]
theorem preS_step {signs : List Sg} {acc : List Ev} {k : Nat} {s : Sg} (h : signs[k]? = some s) : (signs.take (k + 1)).map sgNt = (signs.take k).map sgNt ++ [sgNt s] ∧ ((signs.take k).map sgNt ++ [sgNt s]) <+: notices acc signs := by
  have hs : (signs.take (k + 1)).map sgNt = (signs.take k).map sgNt ++ [sgNt s] := by rw [take_snoc _ _ _ h, List.map_append]; rfl
  refine ⟨hs, ?_⟩
  rw [← hs]
  unfold notices
  refine List.IsPrefix.trans ?_ (List.prefix_append _ _)
  rw [List.map_take]
  exact List.take_prefix _ _
theorem noticed_w (sA : Option Addr) (sn sc : Nat) (aA : Option Addr) (an ac : Nat) (w : World) : Calls Try.prog 43 #[.slice aA an ac, .slice sA sn sc] w fun e w' => ∃ x : Nat × Nat, e = .returned (.func (.func 64) #[] #[.pointer (some ⟨x.1, 0, none⟩), .pointer (some ⟨x.2, 0, none⟩)]) ∧ Mem w [box x.1 26 [.slice sA sn sc], box x.2 25 [.slice aA an ac]] w' := by
  refine H_enter Try.func43 rfl Try.ntmps43 rfl ?_
  refine H_seq ?_
  refine R0 ?_
  refine X_box (v := .slice _ _ _) rfl rfl fun b2 => ?_
  refine X_box (v := .slice _ _ _) rfl rfl fun b3 => ?_
  refine xV (e_as (q0 rfl)) rfl rfl ?_
  refine XN ?_
  refine thenJ_normal ?_
  refine H_seq ?_
  refine R0 ?_
  refine xV e_fn rfl rfl ?_
  refine xV (e_as (q0 rfl)) rfl rfl ?_
  refine XN ?_
  refine thenJ_normal ?_
  refine H_ret ?_
  exact ret1 rfl rfl rfl fun w' hw => ⟨(b3, b2), rfl, hw⟩
set_option maxRecDepth 20000 in
theorem noticed_iter (b3 b2 : Nat) (sA : Option Addr) (sn sc : Nat) (signs : List Sg) (aA : Option Addr) (an ac : Nat) (acc : List Ev) :
    IterM Try.prog 64 #[.pointer (some ⟨b3, 0, none⟩), .pointer (some ⟨b2, 0, none⟩)] ntV (notices acc signs) (NtR b3 b2 sA sn sc signs aA an ac acc) := by
  intro l w0 Y W hmY hR hw0 hyield
  have hRW := hR [] [] W (by simpa using hw0)
  have hsl := hRW.sg.1
  have hsn := hRW.sg.2.1
  have hal := hRW.ev.1
  have han := hRW.ev.2.1
  show Calls Try.prog 64 (([.func (.yield l) #[] #[], .pointer (some ⟨b3, 0, none⟩), .pointer (some ⟨b2, 0, none⟩)] : List Value).toArray) W _
  refine H_enterM hw0 (hmY _) Try.func64 rfl Try.ntmps64 rfl ?_
  refine H_seq ?_
  refine H_seq ?_
  refine R0 ?_
  refine xV (e_ld (v := .slice sA sn sc) Try.isAgg26 (q0 rfl) (fun _ w hw => (hR [] [] w (by simpa using hw)).c3)) rfl rfl ?_
  refine xV (e_len Try.underlying26 (q0 rfl)) rfl rfl ?_
  refine xV (e_mv (v := .int _ _) (q0 rfl)) rfl rfl ?_
  refine XN ?_
  refine thenJ_normal ?_
  refine H_block ?_
  refine H_loop [5, 11, 12, 13, 14, 15, 16, 17, 18, 19, 20, 21, 22, 23] (fun k : Nat => [(11, .int .i64 k)]) (fun k => Y ((signs.take k).map sgNt)) (fun k => k ≤ sn) (fun k => sn - k) 0 ⟨rfl, trivial⟩ (fun w hw => hw) ((hmY _).trans (hmY _).symm) (Nat.zero_le _) ?_
  rintro k g hk
  refine H_seq ?_
  refine R0 ?_
  refine xV (e_lt (q0 rfl) (q0 rfl)) rfl rfl ?_
  refine XN ?_
  refine thenJ_normal ?_
  refine H_seq ?_
  refine H_cond rfl (fun hlt => ?_) (fun hlt => ?_)
  · have hlt' : k < sn := by simpa using hlt
    obtain ⟨sb, soff, s, rfl, hsb, hsk, hsr⟩ := hRW.sg.at_ hlt'
    obtain ⟨hps, hpp⟩ := preS_step (acc := acc) hsk
    refine H_skip ?_
    refine thenJ_normal ?_
    refine H_seq ?_
    refine H_block ?_
    refine H_seq ?_
    refine R0 ?_
    refine xV (e_idx _ Try.underlying26 Try.sizeOf51 (q0 rfl) (q0 rfl) (fun _ => ⟨rfl, by omega⟩)) rfl rfl ?_
    refine xV (e_lds (vs := s.cells) Try.isAgg51 Try.sizeOf51 (q0 rfl) (fun _ w hw => by obtain ⟨s', hs', hr⟩ := (hR _ [] w (by simpa using hw)).sg.row hlt'; rw [hsk] at hs'; cases hs'; exact hr) rfl) rfl rfl ?_
    refine X_alloc Try.zeroValue51 rfl fun b5 => ?_
    refine X_st (v := .agg _) rfl rfl Try.sizeOf51 ?_
    refine XN ?_
    refine thenJ_normal ?_
    refine H_seq ?_
    refine R0 ?_
    refine xV (e_mv (q0 rfl)) rfl rfl ?_
    refine xV (e_fld Try.underlying51 rfl Try.sizeOf3 rfl (q0 rfl)) rfl rfl ?_
    refine xV (eL Try.isAgg3 (q0 rfl)) rfl rfl ?_
    refine xV (e_fld Try.underlying51 rfl Try.sizeOf3 rfl (q0 rfl)) rfl rfl ?_
    refine xV (eL Try.isAgg3 (q0 rfl)) rfl rfl ?_
    refine xV (e_build Try.underlying83 fl83 Try.zeroValue83 (pt (v := .int _ _) rfl (pt (v := .int _ _) rfl E.p0)) rfl) rfl rfl ?_
    refine X_yieldM (l := l) (own := [box b5 51 s.cells]) (Ya := Y ((signs.take k).map sgNt)) (Yb := Y ((signs.take k).map sgNt ++ [sgNt s])) rfl rfl rfl (hmY _) (hmY _) (fun w hw => hyield _ (sgNt s) _ w hpp rfl hw) ?_
    refine xV (e_not (q0 rfl)) rfl rfl ?_
    refine XN ?_
    refine thenJ_normal ?_
    refine H_cond rfl (fun hb => ?_) (fun hb => ?_)
    · cases hb
    · refine H_skip ?_
      refine blockJ_normal ?_
      refine thenJ_normal ?_
      refine R0 ?_
      refine xV (e_add (q0 rfl) (q0 rfl) (fun _ => ⟨rfl, by omega, by omega⟩)) rfl rfl ?_
      refine xV (e_mv (v := .int _ _) (q0 rfl)) rfl rfl ?_
      refine XN ?_
      exact loopJ_normal (k + 1) (by repeat (first | exact agree_self | exact agree_over | refine agree_upd rfl ?_ | refine agree_updL rfl ?_ | refine agree_over2 rfl ?_)) ⟨rfl, trivial⟩ (fun w hw => by show Mem _ (Y ((signs.take (k + 1)).map sgNt)) w; rw [hps]; exact Mem.cutX (X := [_]) hw) ((hmY _).trans (show marks (_ :: Y _) = [] by rw [marks_cons, hmY]; rfl).symm) (by show k + 1 ≤ sn; omega) (by show sn - (k + 1) < sn - k; omega)
  · have hend : k = sn := by simp at hlt; omega
    have hsg : (signs.take k).map sgNt = preK signs acc 0 := by rw [hend, ← hsl, List.take_length]; simp [preK, ntAcc]
    rw [hsg]
    refine H_exit ?_
    refine thenJ_exit ?_
    refine loopJ_exit ?_
    refine blockJ_hit ?_
    refine thenJ_normal ?_
    refine H_seq ?_
    refine R0 ?_
    refine X_eff (f_makeMap rfl fun b6 => ?_)
    refine xV (e_as (v := .map _) (q0 rfl)) rfl rfl ?_
    refine XN ?_
    refine thenJ_normal ?_
    refine H_seq ?_
    refine R0 ?_
    refine xV (e_ld (v := .slice aA an ac) Try.isAgg25 (q0 rfl) (fun _ w hw => (hR _ [_] w (hw.perm List.perm_append_comm)).c2)) rfl rfl ?_
    refine xV (e_len Try.underlying25 (q0 rfl)) rfl rfl ?_
    refine xV (e_mv (v := .int _ _) (q0 rfl)) rfl rfl ?_
    refine XN ?_
    refine thenJ_normal ?_
    refine H_block ?_
    refine H_loop [8, 27, 28, 29, 30, 31, 32, 33, 34, 35, 36, 37, 38, 39, 40, 41, 42, 43, 44, 45, 46, 47, 48, 49, 50, 51, 52, 53, 54, 55, 56, 57, 58, 59, 60, 61, 62, 63, 64, 65] (fun k : Nat => [(27, .int .i64 k)]) (fun k => imap b6 (rmV (rmK acc k)) :: Y (preK signs acc k)) (fun k => k ≤ an) (fun k => an - k) 0 ⟨rfl, trivial⟩ (fun w hw => hw) rfl (Nat.zero_le _) ?_
    rintro k g2 hk2
    refine H_seq ?_
    refine R0 ?_
    refine xV (e_lt (q0 rfl) (q0 rfl)) rfl rfl ?_
    refine XN ?_
    refine thenJ_normal ?_
    refine H_seq ?_
    refine H_cond rfl (fun hlt2 => ?_) (fun hlt2 => ?_)
    · have hlt2' : k < an := by simpa using hlt2
      obtain ⟨ab, aoff, e, rfl, habl, hek, her⟩ := hRW.ev.at_ hlt2'
      obtain ⟨hp1, hp2, hp3⟩ := preK_step (signs := signs) hek
      by_cases h4 : e.kind = 4
      · have hn4 : ntOf (rmK acc k) e = [(e.bike, e.at_)] ++ [(rlook (rmK acc k) e.ride, e.at_)] := by unfold ntOf; rw [if_pos h4]; rfl
        have hr4 : rmK acc (k + 1) = rput (rmK acc k) e.ride e.bike := by rw [hp2]; unfold rmOf; rw [if_pos (.inr h4)]
        rw [hn4, ← List.append_assoc] at hp1 hp3
        refine H_skip ?_
        refine thenJ_normal ?_
        refine H_seq ?_
        refine H_block ?_
        refine H_seq ?_
        refine R0 ?_
        refine xV (e_idx _ Try.underlying25 Try.sizeOf49 (q0 rfl) (q0 rfl) (fun _ => ⟨rfl, by omega⟩)) rfl rfl ?_
        refine xV (e_lds (vs := e.cells) Try.isAgg49 Try.sizeOf49 (q0 rfl) (fun _ w hw => by obtain ⟨s', hs', hr⟩ := (hR _ [_] w (hw.perm List.perm_append_comm)).ev.row hlt2'; rw [hek] at hs'; cases hs'; exact hr) rfl) rfl rfl ?_
        refine X_alloc Try.zeroValue49 rfl fun b8 => ?_
        refine X_st (v := .agg _) rfl rfl Try.sizeOf49 ?_
        refine XN ?_
        refine thenJ_normal ?_
        refine H_seq ?_
        refine H_seq ?_
        refine R0 ?_
        refine xV (e_mv (q0 rfl)) rfl rfl ?_
        refine xV (e_fld Try.underlying49 rfl Try.sizeOf3 rfl (q0 rfl)) rfl rfl ?_
        refine xV (eL Try.isAgg3 (q0 rfl)) rfl rfl ?_
        refine xV (e_fld Try.underlying49 rfl Try.sizeOf3 rfl (q0 rfl)) rfl rfl ?_
        refine xV (eL Try.isAgg3 (q0 rfl)) rfl rfl ?_
        refine xV (e_build Try.underlying83 fl83 Try.zeroValue83 (pt (v := .int _ _) rfl (pt (v := .int _ _) rfl E.p0)) rfl) rfl rfl ?_
        refine X_yieldM (l := l) (own := [box b8 49 e.cells, imap b6 (rmV (rmK acc k))]) (Ya := Y (preK signs acc k)) (Yb := Y (preK signs acc k ++ [(e.bike, e.at_)])) rfl rfl rfl (hmY _) (hmY _) (fun w hw => hyield _ (e.bike, e.at_) _ w ((List.prefix_append _ _).trans hp3) rfl hw) ?_
        refine xV (e_not (q0 rfl)) rfl rfl ?_
        refine XN ?_
        refine thenJ_normal ?_
        refine H_cond rfl (fun hb => ?_) (fun hb => ?_)
        · cases hb
        · refine H_skip ?_
          refine thenJ_normal ?_
          refine H_seq ?_
          refine R0 ?_
          refine xV (e_fld Try.underlying49 rfl Try.sizeOf3 rfl (q0 rfl)) rfl rfl ?_
          refine xV (eL Try.isAgg3 (q0 rfl)) rfl rfl ?_
          refine XN ?_
          refine thenJ_normal ?_
          refine H_block ?_
          refine H_seq ?_
          refine R0 ?_
          refine xV (e_eq (q0 rfl) (q0 rfl)) rfl rfl ?_
          refine xV (e_as (v := .bool _) (q0 rfl)) rfl rfl ?_
          refine XN ?_
          refine thenJ_normal ?_
          refine H_cond rfl (fun h3 => ?_) (fun h3 => ?_)
          · simp at h3; omega
          · refine H_seq ?_
            refine R0 ?_
            refine xV (e_eq (q0 rfl) (q0 rfl)) rfl rfl ?_
            refine xV (e_as (v := .bool _) (q0 rfl)) rfl rfl ?_
            refine XN ?_
            refine thenJ_normal ?_
            refine H_cond rfl (fun h4b => ?_) (fun h4b => ?_)
            · refine H_seq ?_
              refine H_seq ?_
              refine R0 ?_
              refine xV (e_mv (q0 rfl)) rfl rfl ?_
              refine xV (e_mv (v := .map _) (q0 rfl)) rfl rfl ?_
              refine xV (e_fld Try.underlying49 rfl Try.sizeOf3 rfl (q0 rfl)) rfl rfl ?_
              refine xV (eL Try.isAgg3 (q0 rfl)) rfl rfl ?_
              refine xV (e_lookG Try.underlying64 Try.underlying3 Try.zeroValue3 (q0 rfl) (q0 rfl) (fun w hw => (hw.item (k := 1) rfl : IMap w b6 _)) (fun _ => rmV_look (rmK acc k) e.ride)) rfl rfl ?_
              refine xV (e_fld Try.underlying49 rfl Try.sizeOf3 rfl (q0 rfl)) rfl rfl ?_
              refine xV (eL Try.isAgg3 (q0 rfl)) rfl rfl ?_
              refine xV (e_build Try.underlying83 fl83 Try.zeroValue83 (pt (v := .int _ _) rfl (pt (v := .int _ _) rfl E.p0)) rfl) rfl rfl ?_
              refine X_yieldM (l := l) (own := [box b8 49 e.cells, imap b6 (rmV (rmK acc k))]) (Ya := Y (preK signs acc k ++ [(e.bike, e.at_)])) (Yb := Y (preK signs acc k ++ [(e.bike, e.at_)] ++ [(rlook (rmK acc k) e.ride, e.at_)])) rfl rfl rfl (hmY _) (hmY _) (fun w hw => hyield _ (rlook (rmK acc k) e.ride, e.at_) _ w hp3 rfl hw) ?_
              refine xV (e_not (q0 rfl)) rfl rfl ?_
              refine XN ?_
              refine thenJ_normal ?_
              refine H_cond rfl (fun hb2 => ?_) (fun hb2 => ?_)
              · cases hb2
              · refine H_skip ?_
                refine thenJ_normal ?_
                refine R0 ?_
                refine xV (e_mv (v := .map _) (q0 rfl)) rfl rfl ?_
                refine xV (e_fld Try.underlying49 rfl Try.sizeOf3 rfl (q0 rfl)) rfl rfl ?_
                refine xV (eL Try.isAgg3 (q0 rfl)) rfl rfl ?_
                refine xV (e_fld Try.underlying49 rfl Try.sizeOf3 rfl (q0 rfl)) rfl rfl ?_
                refine xV (eL Try.isAgg3 (q0 rfl)) rfl rfl ?_
                refine X_eff (f_mapset 1 Try.underlying64 Try.underlying3 rfl rfl rfl rfl ?_)
                refine XN ?_
                refine blockJ_normal ?_
                refine blockJ_normal ?_
                refine thenJ_normal ?_
                refine R0 ?_
                refine xV (e_add (q0 rfl) (q0 rfl) (fun _ => ⟨rfl, by omega, by omega⟩)) rfl rfl ?_
                refine xV (e_mv (v := .int _ _) (q0 rfl)) rfl rfl ?_
                refine XN ?_
                exact loopJ_normal (k + 1) (by repeat (first | exact agree_self | exact agree_over | refine agree_upd rfl ?_ | refine agree_updL rfl ?_ | refine agree_over2 rfl ?_)) ⟨rfl, trivial⟩ (fun w hw => by show Mem _ (imap b6 (rmV (rmK acc (k + 1))) :: Y (preK signs acc (k + 1))) w; rw [hp1, hr4, ← rmV_put]; exact Mem.cutX (X := [_]) hw) (by show marks (imap b6 _ :: Y _) = marks (_ :: imap b6 _ :: Y _); rw [marks_cons, marks_cons, marks_cons, hmY, hmY]; rfl) (by show k + 1 ≤ an; omega) (by show an - (k + 1) < an - k; omega)
            · simp at h4b; omega
      · have hn4 : ntOf (rmK acc k) e = [(e.bike, e.at_)] := by unfold ntOf; rw [if_neg h4]
        rw [hn4] at hp1 hp3
        refine H_skip ?_
        refine thenJ_normal ?_
        refine H_seq ?_
        refine H_block ?_
        refine H_seq ?_
        refine R0 ?_
        refine xV (e_idx _ Try.underlying25 Try.sizeOf49 (q0 rfl) (q0 rfl) (fun _ => ⟨rfl, by omega⟩)) rfl rfl ?_
        refine xV (e_lds (vs := e.cells) Try.isAgg49 Try.sizeOf49 (q0 rfl) (fun _ w hw => by obtain ⟨s', hs', hr⟩ := (hR _ [_] w (hw.perm List.perm_append_comm)).ev.row hlt2'; rw [hek] at hs'; cases hs'; exact hr) rfl) rfl rfl ?_
        refine X_alloc Try.zeroValue49 rfl fun b8 => ?_
        refine X_st (v := .agg _) rfl rfl Try.sizeOf49 ?_
        refine XN ?_
        refine thenJ_normal ?_
        refine H_seq ?_
        refine H_seq ?_
        refine R0 ?_
        refine xV (e_mv (q0 rfl)) rfl rfl ?_
        refine xV (e_fld Try.underlying49 rfl Try.sizeOf3 rfl (q0 rfl)) rfl rfl ?_
        refine xV (eL Try.isAgg3 (q0 rfl)) rfl rfl ?_
        refine xV (e_fld Try.underlying49 rfl Try.sizeOf3 rfl (q0 rfl)) rfl rfl ?_
        refine xV (eL Try.isAgg3 (q0 rfl)) rfl rfl ?_
        refine xV (e_build Try.underlying83 fl83 Try.zeroValue83 (pt (v := .int _ _) rfl (pt (v := .int _ _) rfl E.p0)) rfl) rfl rfl ?_
        refine X_yieldM (l := l) (own := [box b8 49 e.cells, imap b6 (rmV (rmK acc k))]) (Ya := Y (preK signs acc k)) (Yb := Y (preK signs acc k ++ [(e.bike, e.at_)])) rfl rfl rfl (hmY _) (hmY _) (fun w hw => hyield _ (e.bike, e.at_) _ w hp3 rfl hw) ?_
        refine xV (e_not (q0 rfl)) rfl rfl ?_
        refine XN ?_
        refine thenJ_normal ?_
        refine H_cond rfl (fun hb => ?_) (fun hb => ?_)
        · cases hb
        · refine H_skip ?_
          refine thenJ_normal ?_
          refine H_seq ?_
          refine R0 ?_
          refine xV (e_fld Try.underlying49 rfl Try.sizeOf3 rfl (q0 rfl)) rfl rfl ?_
          refine xV (eL Try.isAgg3 (q0 rfl)) rfl rfl ?_
          refine XN ?_
          refine thenJ_normal ?_
          refine H_block ?_
          refine H_seq ?_
          refine R0 ?_
          refine xV (e_eq (q0 rfl) (q0 rfl)) rfl rfl ?_
          refine xV (e_as (v := .bool _) (q0 rfl)) rfl rfl ?_
          refine XN ?_
          refine thenJ_normal ?_
          refine H_cond rfl (fun h3 => ?_) (fun h3 => ?_)
          · have hr4 : rmK acc (k + 1) = rput (rmK acc k) e.ride e.bike := by rw [hp2]; unfold rmOf; rw [if_pos (.inl (by simpa using h3))]
            refine R0 ?_
            refine xV (e_mv (v := .map _) (q0 rfl)) rfl rfl ?_
            refine xV (e_fld Try.underlying49 rfl Try.sizeOf3 rfl (q0 rfl)) rfl rfl ?_
            refine xV (eL Try.isAgg3 (q0 rfl)) rfl rfl ?_
            refine xV (e_fld Try.underlying49 rfl Try.sizeOf3 rfl (q0 rfl)) rfl rfl ?_
            refine xV (eL Try.isAgg3 (q0 rfl)) rfl rfl ?_
            refine X_eff (f_mapset 1 Try.underlying64 Try.underlying3 rfl rfl rfl rfl ?_)
            refine XN ?_
            refine blockJ_normal ?_
            refine blockJ_normal ?_
            refine thenJ_normal ?_
            refine R0 ?_
            refine xV (e_add (q0 rfl) (q0 rfl) (fun _ => ⟨rfl, by omega, by omega⟩)) rfl rfl ?_
            refine xV (e_mv (v := .int _ _) (q0 rfl)) rfl rfl ?_
            refine XN ?_
            exact loopJ_normal (k + 1) (by repeat (first | exact agree_self | exact agree_over | refine agree_upd rfl ?_ | refine agree_updL rfl ?_ | refine agree_over2 rfl ?_)) ⟨rfl, trivial⟩ (fun w hw => by show Mem _ (imap b6 (rmV (rmK acc (k + 1))) :: Y (preK signs acc (k + 1))) w; rw [hp1, hr4, ← rmV_put]; exact Mem.cutX (X := [_]) hw) (by show marks (imap b6 _ :: Y _) = marks (_ :: imap b6 _ :: Y _); rw [marks_cons, marks_cons, marks_cons, hmY, hmY]; rfl) (by show k + 1 ≤ an; omega) (by show an - (k + 1) < an - k; omega)
          · refine H_seq ?_
            refine R0 ?_
            refine xV (e_eq (q0 rfl) (q0 rfl)) rfl rfl ?_
            refine xV (e_as (v := .bool _) (q0 rfl)) rfl rfl ?_
            refine XN ?_
            refine thenJ_normal ?_
            refine H_cond rfl (fun h4b => ?_) (fun h4b => ?_)
            · exact absurd (by simpa using h4b) h4
            · have hr4 : rmK acc (k + 1) = rmK acc k := by rw [hp2]; unfold rmOf; rw [if_neg (by simp at h3; omega)]
              refine H_skip ?_
              refine blockJ_normal ?_
              refine blockJ_normal ?_
              refine thenJ_normal ?_
              refine R0 ?_
              refine xV (e_add (q0 rfl) (q0 rfl) (fun _ => ⟨rfl, by omega, by omega⟩)) rfl rfl ?_
              refine xV (e_mv (v := .int _ _) (q0 rfl)) rfl rfl ?_
              refine XN ?_
              exact loopJ_normal (k + 1) (by repeat (first | exact agree_self | exact agree_over | refine agree_upd rfl ?_ | refine agree_updL rfl ?_ | refine agree_over2 rfl ?_)) ⟨rfl, trivial⟩ (fun w hw => by show Mem _ (imap b6 (rmV (rmK acc (k + 1))) :: Y (preK signs acc (k + 1))) w; rw [hp1, hr4]; exact Mem.cutX (X := [_]) hw) (by show marks (imap b6 _ :: Y _) = marks (_ :: imap b6 _ :: Y _); rw [marks_cons, marks_cons, marks_cons, hmY, hmY]; rfl) (by show k + 1 ≤ an; omega) (by show an - (k + 1) < an - k; omega)
    · have hend2 : k = an := by simp at hlt2; omega
      have hfin : preK signs acc k = notices acc signs := by rw [hend2, ← hal]; unfold preK notices; rw [List.take_length]
      refine H_exit ?_
      refine thenJ_exit ?_
      refine loopJ_exit ?_
      refine blockJ_hit ?_
      exact end0 rfl (show marks (_ :: Y _) = [] by rw [marks_cons, hmY]; rfl) fun w' hw => ⟨rfl, by rw [← hfin]; exact Mem.cutX (X := [_]) hw⟩

end Go.Proofs.Mis

/-
  The walks: the last moments that bicycles were noticed.
-/
namespace Go.Proofs.Mis
open Go Go.RowKit Go.Proofs.E Go.Proofs.Cus

abbrev inRow (A : Option Addr) (c : Nat) (xs : List Int) : E.Item := rowT 3 1 encInt A c xs
def seenP (nb : Nat) (now : Int) (l : List Nt) : List Int := l.foldl (outStep now) (List.replicate nb 0)
theorem seenP_len (nb : Nat) (now : Int) (l : List Nt) : (seenP nb now l).length = nb := by unfold seenP; rw [out_len]; simp
theorem seenP_snoc (nb : Nat) (now : Int) (l : List Nt) (x : Nt) : seenP nb now (l ++ [x]) = outStep now (seenP nb now l) x := by unfold seenP; rw [List.foldl_append]; rfl
theorem seenP_get {nb b : Nat} (now : Int) (l : List Nt) (h : b < nb) : (seenP nb now l)[b]? = some (sv l b now) := by
  unfold seenP sv
  exact out_get now l _ b 0 (by simp [h])
attribute [local irreducible] seenP notices
set_option maxRecDepth 20000 in
theorem seen_w (f : Fl) (a : FA) (nb : Nat) (aA : Option Addr) (an ac : Nat) (acc : List Ev) (sA : Option Addr) (sn sc : Nat) (signs : List Sg) (now : Int) (w : World) (hnb : f.bikes = nb) (hn1 : nb ≤ 1000) (ha : EvsAt w aA an acc) (hs : SgsAt w sA sn signs) :
    Calls Try.prog 29 #[.agg (f.cells a).toArray, .slice aA an ac, .slice sA sn sc, .int .i64 now] w fun e w' => ∃ b : Nat, e = .returned (.slice (some ⟨b, 0, none⟩) nb nb) ∧ Mem w [inRow (some ⟨b, 0, none⟩) nb (seenP nb now (notices acc signs))] w' := by
  refine H_enter Try.func29 rfl Try.ntmps29 rfl ?_
  refine H_seq ?_
  refine R0 ?_
  refine X_box (v := .agg _) rfl rfl fun b4 => ?_
  refine X_box (v := .int _ _) rfl rfl fun b7 => ?_
  refine xV (e_as (v := .slice _ _ _) (q0 rfl)) rfl rfl ?_
  refine XN ?_
  refine thenJ_normal ?_
  refine H_seq ?_
  refine R0 ?_
  refine xV (e_fld Try.underlying24 rfl Try.sizeOf3 rfl (q0 rfl)) rfl rfl ?_
  refine xV (eL Try.isAgg3 (q0 rfl)) rfl rfl ?_
  refine X_eff (f_make (i := Try.t3) (k := 1) (n := nb) (m := nb) encInt 0 Try.underlying22 (by kernel_rfl) rfl rfl rfl (by show Value.int .i64 f.bikes = _; rw [hnb]) (by show Value.int .i64 f.bikes = _; rw [hnb]) ⟨⟨Nat.le_refl _, by omega⟩, by decide⟩ rfl fun b13 => ?_)
  refine X_alloc Try.zeroValue22 rfl fun b9 => ?_
  refine X_st (v := .slice _ _ _) rfl rfl Try.sizeOf22 ?_
  refine XN ?_
  refine thenJ_normal ?_
  refine H_seq ?_
  refine H_seq ?_
  refine R0 ?_
  refine xV (e_mv (v := .slice _ _ _) (q0 rfl)) rfl rfl ?_
  refine xV (e_mv (v := .slice _ _ _) (q0 rfl)) rfl rfl ?_
  refine xCX (en Try.call43 (ha2 (q0 rfl) (q0 rfl))) (fun w _ => noticed_w sA sn sc aA an ac w) rfl (fun _ => rfl) fun x => ?_
  refine XN ?_
  refine thenJ_normal ?_
  refine H_block ?_
  have h0 : List.replicate nb (0 : Int) = seenP nb now [] := by unfold seenP; rfl
  rw [h0]
  refine H_rangeM (notices acc signs) (NtR x.1 x.2 sA sn sc signs aA an ac acc) (fun pre => [box x.1 26 [.slice sA sn sc], box x.2 25 [.slice aA an ac], box b9 22 [.slice (some ⟨b13, 0, none⟩) nb nb], inRow (some ⟨b13, 0, none⟩) nb (seenP nb now pre), box b7 3 [.int .i64 now], box b4 24 (f.cells a)]) rfl rfl Try.call64 (noticed_iter x.1 x.2 sA sn sc signs aA an ac acc) (fun _ => rfl) rfl (fun w hw => hw) (fun _ => rfl) (fun pre w hw => ⟨box_cell hw (k := 0) rfl rfl, box_cell hw (k := 1) rfl rfl, hs.mem hw, ha.mem hw⟩) ?_ ?_ rfl
  · rintro l D r pre ⟨yb, yt⟩ F hpre hmF
    have hlen := seenP_len nb now pre
    have hsn := seenP_snoc nb now pre (yb, yt)
    refine R0 ?_
    refine X_alloc Try.zeroValue83 rfl fun b10 => ?_
    refine X_st (v := .agg _) rfl rfl Try.sizeOf83 ?_
    refine XN ?_
    refine asgJ_normal (box b10 83 [.int .i64 yb, .int .i64 yt] :: ([box x.1 26 [.slice sA sn sc], box x.2 25 [.slice aA an ac], box b9 22 [.slice (some ⟨b13, 0, none⟩) nb nb], inRow (some ⟨b13, 0, none⟩) nb (seenP nb now pre), box b7 3 [.int .i64 now], box b4 24 (f.cells a)] ++ F)) hmF hmF (fun w hw => hw.mv2) fun r' => ?_
    refine H_block ?_
    refine H_seq ?_
    refine R0 ?_
    refine xV (e_fld Try.underlying83 rfl Try.sizeOf3 rfl (q0 rfl)) rfl rfl ?_
    refine xV (eL Try.isAgg3 (q0 rfl)) rfl rfl ?_
    refine xV (e_le (q0 rfl) (q0 rfl)) rfl rfl ?_
    refine xV (e_mv (v := .bool _) (q0 rfl)) rfl rfl ?_
    refine xVT (e_fld Try.underlying83 rfl Try.sizeOf3 rfl (q0 rfl)) rfl rfl rfl rfl ?_
    refine xVT (eL Try.isAgg3 (q1 rfl)) rfl rfl rfl rfl ?_
    refine xVT (e_fld Try.underlying24 rfl Try.sizeOf3 rfl (q0 rfl)) rfl rfl rfl rfl ?_
    refine xVT (eL Try.isAgg3 (q1 rfl)) rfl rfl rfl rfl ?_
    refine xVT (e_lt (q1 rfl) (q1 rfl)) rfl rfl rfl rfl ?_
    refine xV (e_and (q0 rfl) rfl (fun h => by first | rfl | (rw [h]; rfl))) rfl rfl ?_
    refine xV (e_mv (v := .bool _) (q0 rfl)) rfl rfl ?_
    refine xVT (e_fld Try.underlying83 rfl Try.sizeOf3 rfl (q0 rfl)) rfl rfl rfl rfl ?_
    refine xVT (eL Try.isAgg3 (q1 rfl)) rfl rfl rfl rfl ?_
    refine xVT (eL Try.isAgg3 (q0 rfl)) rfl rfl rfl rfl ?_
    refine xVT (e_le (q1 rfl) (q1 rfl)) rfl rfl rfl rfl ?_
    refine xV (e_and (q0 rfl) rfl (fun h => by first | rfl | (rw [h]; rfl))) rfl rfl ?_
    refine XN ?_
    refine thenJ_normal ?_
    refine H_cond rfl (fun hb => ?_) (fun hb => ?_)
    · have hb' : (0 ≤ yb ∧ yb < nb) ∧ yt ≤ now := by simp at hb; omega
      obtain ⟨bk, rfl⟩ : ∃ k : Nat, yb = k := ⟨yb.toNat, by omega⟩
      obtain ⟨v, hv⟩ : ∃ v, (seenP nb now pre)[bk]? = some v := ⟨_, List.getElem?_eq_getElem (by omega)⟩
      have hst : outStep now (seenP nb now pre) (bk, yt) = (seenP nb now pre).set bk (if v < yt then yt else v) := by
        have hmx : (if v < yt then yt else v) = max v yt := by split <;> omega
        rw [hmx]
        unfold outStep
        rw [if_pos ⟨by simp only; omega, hb'.2⟩]
        simp only [Int.toNat_natCast]
        rw [List.getD_eq_getElem?_getD, hv]
        rfl
      refine E.RT rfl rfl (by decide +kernel) ?_
      refine xV (eL Try.isAgg22 (q0 rfl)) rfl rfl ?_
      refine xV (e_fld Try.underlying83 rfl Try.sizeOf3 rfl (q0 rfl)) rfl rfl ?_
      refine xV (eL Try.isAgg3 (q0 rfl)) rfl rfl ?_
      refine xV (eL Try.isAgg22 (q0 rfl)) rfl rfl ?_
      refine xV (e_fld Try.underlying83 rfl Try.sizeOf3 rfl (q0 rfl)) rfl rfl ?_
      refine xV (eL Try.isAgg3 (q0 rfl)) rfl rfl ?_
      refine xV (e_idx _ Try.underlying22 Try.sizeOf3 (q0 rfl) (q0 rfl) (fun _ => ⟨rfl, by omega⟩)) rfl rfl ?_
      refine xV (e_ld (v := .int .i64 v) Try.isAgg3 (q0 rfl) (by exact rr0 6 (k := 1) (enc := encInt) rfl hv rfl)) rfl rfl ?_
      refine xV (e_fld Try.underlying83 rfl Try.sizeOf3 rfl (q0 rfl)) rfl rfl ?_
      refine xV (eL Try.isAgg3 (q0 rfl)) rfl rfl ?_
      refine xV (e_max (q0 rfl) (q0 rfl)) rfl rfl ?_
      refine xV (e_idx _ Try.underlying22 Try.sizeOf3 (q0 rfl) (q0 rfl) (fun _ => ⟨rfl, by omega⟩)) rfl rfl ?_
      refine XN ?_
      refine thenJ_normal ?_
      refine X_eff (f_storeR0 6 (k := 1) (enc := encInt) (if v < yt then yt else v) rfl rfl Try.sizeOf3 rfl rfl rfl hv rfl rfl ?_)
      refine XN ?_
      refine blockJ_normal ?_
      exact roundJ_normal fun w hw => by
        show Mem _ (_ :: _ :: ([_, _, _, inRow _ nb (seenP nb now (pre ++ [(_, yt)])), _, _] ++ F)) w
        rw [hsn, hst]
        exact Mem.cutM (S := [_, _]) (X := [_]) hw
    · have hb' : ¬ ((0 ≤ yb ∧ yb < (seenP nb now pre).length) ∧ yt ≤ now) := by simp at hb; omega
      have hst : outStep now (seenP nb now pre) (yb, yt) = seenP nb now pre := by unfold outStep; rw [if_neg hb']
      refine H_skip ?_
      refine blockJ_normal ?_
      exact roundJ_normal fun w hw => by
        show Mem _ (_ :: _ :: ([_, _, _, inRow _ nb (seenP nb now (pre ++ [(yb, yt)])), _, _] ++ F)) w
        rw [hsn, hst]
        exact Mem.cutM (S := [_, _]) (X := [_]) hw
  · intro D
    refine blockJ_normal ?_
    refine thenJ_normal ?_
    refine H_seq ?_
    refine R0 ?_
    refine xV (eL Try.isAgg22 (q0 rfl)) rfl rfl ?_
    refine xV (e_as (v := .slice _ _ _) (q0 rfl)) rfl rfl ?_
    refine XN ?_
    refine thenJ_normal ?_
    refine H_ret ?_
    exact ret_of_m rfl (res1 (v := .slice _ _ _) rfl rfl) fun w' hw => ⟨b13, rfl, hw.pick [3] (by decide)⟩

end Go.Proofs.Mis

/-
  The walks: Seen; the reference's way.
-/
namespace Go.Proofs.Mis
open Go Go.RowKit Go.Proofs.E Go.Proofs.Cus

def seenOf (f : Fl) (xs : List Ev) (signs : List Sg) (bike now : Int) : Int := if atErr f bike now = 0 then sv (notices (accOf f xs) signs) bike now else 0
attribute [local irreducible] seenP notices accOf flErr sv
set_option maxRecDepth 20000 in
theorem mseen_w (f : Fl) (a : FA) (A : Option Addr) (n c : Nat) (xs : List Ev) (sA : Option Addr) (sn sc : Nat) (signs : List Sg) (bike now : Int) (w : World) (hf : FlAt w f a) (hx : EvsAt w A n xs) (hs : SgsAt w sA sn signs) (hn : n ≤ 1000) (hpl : PlOk xs) :
    Calls Try.prog 12 #[.agg (f.cells a).toArray, .slice A n c, .slice sA sn sc, .int .i64 bike, .int .i64 now] w fun r w' => r = .returned (.tuple #[.int .i64 (seenOf f xs signs bike now), .int .i64 (atErr f bike now)]) ∧ Bel w w' := by
  have hxl := hx.1
  have hal := accOf_len f xs
  refine H_enter Try.func12 rfl Try.ntmps12 rfl ?_
  refine H_seq ?_
  refine R0 ?_
  refine X_box (v := .agg _) rfl rfl fun b5 => ?_
  refine xV (e_as (v := .int _ _) (q0 rfl)) rfl rfl ?_
  refine xV (e_as (v := .int _ _) (q0 rfl)) rfl rfl ?_
  refine XN ?_
  refine thenJ_normal ?_
  refine H_seq ?_
  refine R0 ?_
  refine xV (eS Try.isAgg24 Try.sizeOf24 (q0 rfl)) rfl rfl ?_
  refine xV (e_mv (v := .slice _ _ _) (q0 rfl)) rfl rfl ?_
  refine xCX (en Try.call28 (ha2 (q0 rfl) (q0 rfl))) (fun w hw => accepted_w f a A n c xs w (hf.mem hw) (hx.mem hw) (by omega) hpl) rfl (fun _ => rfl) fun r1 => ?_
  refine xV (e_mv (q0 rfl)) rfl rfl ?_
  refine xV (e_ext (q0 rfl) rfl) rfl rfl ?_
  refine xV (e_ext (q0 rfl) rfl) rfl rfl ?_
  refine xV (e_as (v := .slice _ _ _) (q0 rfl)) rfl rfl ?_
  refine xV (e_as (v := .int _ _) (q0 rfl)) rfl rfl ?_
  refine XN ?_
  refine thenJ_normal ?_
  refine H_seq ?_
  refine H_block ?_
  refine H_seq ?_
  refine R0 ?_
  refine xV (e_mv (v := .int _ _) (q0 rfl)) rfl rfl ?_
  refine xV (e_ne (q0 rfl) (q0 rfl)) rfl rfl ?_
  refine xV (e_as (v := .bool _) (q0 rfl)) rfl rfl ?_
  refine XN ?_
  refine thenJ_normal ?_
  refine H_cond rfl (fun h1 => ?_) (fun h1 => ?_)
  · have h1' : flErr f ≠ 0 := by simpa using h1
    have he : atErr f bike now = flErr f := by unfold atErr; rw [if_pos h1']
    have ho : seenOf f xs signs bike now = 0 := by unfold seenOf; rw [he, if_neg h1']
    rw [he, ho]
    refine H_seq ?_
    refine R0 ?_
    refine xV (e_mv (v := .int _ _) (q0 rfl)) rfl rfl ?_
    refine xV (e_as (v := .int _ _) (q0 rfl)) rfl rfl ?_
    refine xV (e_as (v := .int _ _) (q0 rfl)) rfl rfl ?_
    refine XN ?_
    refine thenJ_normal ?_
    refine H_ret ?_
    refine blockJ_ret ?_
    refine thenJ_ret ?_
    exact ret2 (v := .int _ _) (x := .int _ _) rfl rfl rfl rfl fun w' hw => ⟨rfl, hw.1⟩
  · have h1' : flErr f = 0 := by simpa using h1
    obtain ⟨hbk, -⟩ := flErr_ok h1'
    have hnb := nb_eq h1'
    refine H_seq ?_
    refine R0 ?_
    refine xV (e_mv (v := .int _ _) (q0 rfl)) rfl rfl ?_
    refine xV (e_lt (q0 rfl) (q0 rfl)) rfl rfl ?_
    refine xV (e_mv (v := .bool _) (q0 rfl)) rfl rfl ?_
    refine xVF (e_mv (v := .int _ _) (q0 rfl)) rfl rfl rfl rfl ?_
    refine xVF (e_fld Try.underlying24 rfl Try.sizeOf3 rfl (q0 rfl)) rfl rfl rfl rfl ?_
    refine xVF (eL Try.isAgg3 (q1 rfl)) rfl rfl rfl rfl ?_
    refine xVF (e_ge (q1 rfl) (q1 rfl)) rfl rfl rfl rfl ?_
    refine xV (e_or (q0 rfl) rfl (fun h => by first | rfl | (rw [h]; rfl))) rfl rfl ?_
    refine xV (e_as (v := .bool _) (q0 rfl)) rfl rfl ?_
    refine XN ?_
    refine thenJ_normal ?_
    refine H_cond rfl (fun h2 => ?_) (fun h2 => ?_)
    · have he : atErr f bike now = 7 := by unfold atErr; rw [if_neg (fun h => h h1'), if_pos h2]
      have ho : seenOf f xs signs bike now = 0 := by unfold seenOf; rw [he, if_neg (by decide)]
      rw [he, ho]
      refine H_seq ?_
      refine R0 ?_
      refine xV (e_as (v := .int _ _) (q0 rfl)) rfl rfl ?_
      refine xV (e_as (v := .int _ _) (q0 rfl)) rfl rfl ?_
      refine XN ?_
      refine thenJ_normal ?_
      refine H_ret ?_
      refine blockJ_ret ?_
      refine thenJ_ret ?_
      exact ret2 (v := .int _ _) (x := .int _ _) rfl rfl rfl rfl fun w' hw => ⟨rfl, hw.1⟩
    · refine H_seq ?_
      refine R0 ?_
      refine xV (e_mv (v := .int _ _) (q0 rfl)) rfl rfl ?_
      refine xV (e_lt (q0 rfl) (q0 rfl)) rfl rfl ?_
      refine xV (e_mv (v := .bool _) (q0 rfl)) rfl rfl ?_
      refine xVF (e_mv (v := .int _ _) (q0 rfl)) rfl rfl rfl rfl ?_
      refine xVF (e_gt (q1 rfl) (q0 rfl)) rfl rfl rfl rfl ?_
      refine xV (e_or (q0 rfl) rfl (fun h => by first | rfl | (rw [h]; rfl))) rfl rfl ?_
      refine xV (e_as (v := .bool _) (q0 rfl)) rfl rfl ?_
      refine XN ?_
      refine thenJ_normal ?_
      refine H_cond rfl (fun h3 => ?_) (fun h3 => ?_)
      · have he : atErr f bike now = 1 := by unfold atErr; rw [if_neg (fun h => h h1'), if_neg (by rw [h2]; decide), if_pos h3]
        have ho : seenOf f xs signs bike now = 0 := by unfold seenOf; rw [he, if_neg (by decide)]
        rw [he, ho]
        refine H_seq ?_
        refine R0 ?_
        refine xV (e_as (v := .int _ _) (q0 rfl)) rfl rfl ?_
        refine xV (e_as (v := .int _ _) (q0 rfl)) rfl rfl ?_
        refine XN ?_
        refine thenJ_normal ?_
        refine H_ret ?_
        refine blockJ_ret ?_
        refine thenJ_ret ?_
        exact ret2 (v := .int _ _) (x := .int _ _) rfl rfl rfl rfl fun w' hw => ⟨rfl, hw.1⟩
      · have he : atErr f bike now = 0 := by unfold atErr; rw [if_neg (fun h => h h1'), if_neg (by rw [h2]; decide), if_neg (by rw [h3]; decide)]
        have ho : seenOf f xs signs bike now = sv (notices (accOf f xs) signs) bike now := by unfold seenOf; rw [if_pos he]
        have hb0 : 0 ≤ bike ∧ bike < f.bikes := by simp at h2; omega
        rw [he, ho]
        obtain ⟨bk, rfl⟩ : ∃ k : Nat, bike = k := ⟨bike.toNat, by omega⟩
        have hg := seenP_get (nb := nbOf f) (b := bk) now (notices (accOf f xs) signs) (by omega)
        refine H_skip ?_
        refine blockJ_normal ?_
        refine thenJ_normal ?_
        refine H_seq ?_
        refine R0 ?_
        refine xV (eS Try.isAgg24 Try.sizeOf24 (q0 rfl)) rfl rfl ?_
        refine xV (e_mv (v := .slice _ _ _) (q0 rfl)) rfl rfl ?_
        refine xV (e_mv (v := .slice _ _ _) (q0 rfl)) rfl rfl ?_
        refine xV (e_mv (v := .int _ _) (q0 rfl)) rfl rfl ?_
        refine xCX (en Try.call29 (ha4 (q0 rfl) (q0 rfl) (q0 rfl) (q0 rfl))) (fun w hw => seen_w f a (nbOf f) r1.1 _ r1.2 (accOf f xs) sA sn sc signs now w hnb (by omega) (slAt_row hw (j := 0) rfl (fun _ => rfl) (by omega)) (hs.mem hw)) rfl (fun _ => rfl) fun b => ?_
        refine xV (e_mv (v := .int _ _) (q0 rfl)) rfl rfl ?_
        refine xV (e_idx bk Try.underlying22 Try.sizeOf3 (q0 rfl) (q0 rfl) (fun _ => ⟨rfl, by omega⟩)) rfl rfl ?_
        refine xV (e_ld (v := .int .i64 (sv (notices (accOf f xs) signs) bk now)) Try.isAgg3 (q0 rfl) (by exact rr0 0 (k := 1) (enc := encInt) rfl hg rfl)) rfl rfl ?_
        refine xV (e_as (v := .int _ _) (q0 rfl)) rfl rfl ?_
        refine xV (e_as (v := .int _ _) (q0 rfl)) rfl rfl ?_
        refine XN ?_
        refine thenJ_normal ?_
        refine H_ret ?_
        exact ret2 (v := .int _ _) (x := .int _ _) rfl rfl rfl rfl fun w' hw => ⟨rfl, hw.1⟩

theorem former_snoc (l : List Ev) (e : Ev) (r : Int) : formerP (l ++ [e]) r = if isRide r e = true then e.bike else formerP l r := by
  unfold formerP
  rw [List.filter_append]
  by_cases h : isRide r e = true
  · rw [if_pos h]; simp [List.filter_cons, h]
  · rw [if_neg h]; simp [List.filter_cons, h]
set_option maxRecDepth 20000 in
theorem former_w (A : Option Addr) (n c : Nat) (xs : List Ev) (i : Nat) (x : Ev) (w : World) (hx : EvsAt w A n xs) (hi : xs[i]? = some x) :
    Calls Try.prog 46 #[.slice A n c, .int .i64 i] w fun e w' => e = .returned (.int .i64 (formerP (xs.take i) x.ride)) ∧ Bel w w' := by
  have hxl := hx.1
  have hxn := hx.2.1
  have hin : i < n := by have := (List.getElem?_eq_some_iff.1 hi).1; omega
  obtain ⟨b, off, x', rfl, hbl, hx', hrx⟩ := hx.at_ hin
  rw [hi] at hx'
  cases hx'
  refine H_enter Try.func46 rfl Try.ntmps46 rfl ?_
  refine H_seq ?_
  refine R0 ?_
  refine xV (e_as (v := .int _ _) (q0 rfl)) rfl rfl ?_
  refine XN ?_
  refine thenJ_normal ?_
  refine H_seq ?_
  refine R0 ?_
  refine xV (e_as (v := .int _ _) (q0 rfl)) rfl rfl ?_
  refine XN ?_
  refine thenJ_normal ?_
  refine H_seq ?_
  refine H_seq ?_
  refine R0 ?_
  refine xV (e_as (v := .int _ _) (q0 rfl)) rfl rfl ?_
  refine XN ?_
  refine thenJ_normal ?_
  refine H_block ?_
  refine H_loop [5, 6, 7, 8, 9, 10, 11, 12, 13, 14, 15, 16, 17, 18, 19, 20, 21, 22, 23, 24, 25, 26, 27, 28, 29, 30, 31, 32, 33, 34, 35, 36, 37, 38, 39, 40, 41, 42, 43] (fun k : Nat => [(6, .int .i64 k), (5, .int .i64 (formerP (xs.take k) x.ride))]) (fun _ => []) (fun k => k ≤ i) (fun k => i - k) 0 ⟨rfl, rfl, trivial⟩ (fun _ h => h) rfl (Nat.zero_le _) ?_
  rintro k g hk
  refine H_seq ?_
  refine H_seq ?_
  refine R0 ?_
  refine xV (e_mv (v := .int _ _) (q0 rfl)) rfl rfl ?_
  refine xV (e_mv (v := .int _ _) (q0 rfl)) rfl rfl ?_
  refine xV (e_lt (q0 rfl) (q0 rfl)) rfl rfl ?_
  refine XN ?_
  refine thenJ_normal ?_
  refine H_cond rfl (fun hlt => ?_) (fun hlt => ?_)
  · have hlt' : k < i := by simpa using hlt
    obtain ⟨e, hek, hre⟩ := hx.row (i := k) (by omega)
    have hsn := former_snoc (xs.take k) e x.ride
    rw [← take_snoc _ _ _ hek] at hsn
    refine H_skip ?_
    refine thenJ_normal ?_
    refine H_seq ?_
    refine H_block ?_
    refine H_seq ?_
    refine R1 rfl (by decide +kernel) ?_
    refine xV (e_mv (v := .slice _ _ _) (q0 rfl)) rfl rfl ?_
    refine xV (e_mv (v := .int _ _) (q0 rfl)) rfl rfl ?_
    refine xV (e_idx _ Try.underlying25 Try.sizeOf49 (q0 rfl) (q0 rfl) (fun _ => ⟨rfl, by omega⟩)) rfl rfl ?_
    refine xV (e_fld Try.underlying49 rfl Try.sizeOf3 rfl (q0 rfl)) rfl rfl ?_
    refine xV (eL Try.isAgg3 (q0 rfl)) rfl rfl ?_
    refine xV (e_eq (q0 rfl) (q0 rfl)) rfl rfl ?_
    refine xV (e_mv (v := .bool _) (q0 rfl)) rfl rfl ?_
    refine xVF (e_mv (v := .slice _ _ _) (q0 rfl)) rfl rfl rfl rfl ?_
    refine xVF (e_mv (v := .int _ _) (q0 rfl)) rfl rfl rfl rfl ?_
    refine xVF (e_idx _ Try.underlying25 Try.sizeOf49 (q1 rfl) (q1 rfl) (fun _ => ⟨rfl, by omega⟩)) rfl rfl rfl rfl ?_
    refine xVF (e_fld Try.underlying49 rfl Try.sizeOf3 rfl (q1 rfl)) rfl rfl rfl rfl ?_
    refine xVF (eL Try.isAgg3 (q1 rfl)) rfl rfl rfl rfl ?_
    refine xVF (e_eq (q1 rfl) (q0 rfl)) rfl rfl rfl rfl ?_
    refine xV (e_or (q0 rfl) rfl (fun h => by first | rfl | (rw [h]; rfl))) rfl rfl ?_
    refine xV (e_mv (v := .bool _) (q0 rfl)) rfl rfl ?_
    refine xVT (e_mv (v := .slice _ _ _) (q0 rfl)) rfl rfl rfl rfl ?_
    refine xVT (e_mv (v := .int _ _) (q0 rfl)) rfl rfl rfl rfl ?_
    refine xVT (e_idx _ Try.underlying25 Try.sizeOf49 (q1 rfl) (q1 rfl) (fun _ => ⟨rfl, by omega⟩)) rfl rfl rfl rfl ?_
    refine xVT (e_fld Try.underlying49 rfl Try.sizeOf3 rfl (q1 rfl)) rfl rfl rfl rfl ?_
    refine xVT (eL Try.isAgg3 (q1 rfl)) rfl rfl rfl rfl ?_
    refine xVT (e_mv (v := .slice _ _ _) (q0 rfl)) rfl rfl rfl rfl ?_
    refine xVT (e_mv (v := .int _ _) (q0 rfl)) rfl rfl rfl rfl ?_
    refine xVT (e_idx _ Try.underlying25 Try.sizeOf49 (q1 rfl) (q1 rfl) (fun _ => ⟨rfl, by omega⟩)) rfl rfl rfl rfl ?_
    refine xVT (e_fld Try.underlying49 rfl Try.sizeOf3 rfl (q1 rfl)) rfl rfl rfl rfl ?_
    refine xVT (eL Try.isAgg3 (q1 rfl)) rfl rfl rfl rfl ?_
    refine xVT (e_eq (q1 rfl) (q1 rfl)) rfl rfl rfl rfl ?_
    refine xV (e_and (q0 rfl) rfl (fun h => by first | rfl | (rw [h]; rfl))) rfl rfl ?_
    refine XN ?_
    refine thenJ_normal ?_
    refine H_cond rfl (fun hb => ?_) (fun hb => ?_)
    · rw [if_pos (by unfold isRide; exact hb)] at hsn
      refine R0 ?_
      refine xV (e_mv (v := .slice _ _ _) (q0 rfl)) rfl rfl ?_
      refine xV (e_mv (v := .int _ _) (q0 rfl)) rfl rfl ?_
      refine xV (e_idx _ Try.underlying25 Try.sizeOf49 (q0 rfl) (q0 rfl) (fun _ => ⟨rfl, by omega⟩)) rfl rfl ?_
      refine xV (e_fld Try.underlying49 rfl Try.sizeOf3 rfl (q0 rfl)) rfl rfl ?_
      refine xV (eL Try.isAgg3 (q0 rfl)) rfl rfl ?_
      refine xV (e_as (v := .int _ _) (q0 rfl)) rfl rfl ?_
      refine XN ?_
      refine blockJ_normal ?_
      refine thenJ_normal ?_
      refine R0 ?_
      refine xV (e_mv (v := .int _ _) (q0 rfl)) rfl rfl ?_
      refine xV (e_add (q0 rfl) (q0 rfl) (fun _ => ⟨rfl, by omega, by omega⟩)) rfl rfl ?_
      refine xV (e_as (v := .int _ _) (q0 rfl)) rfl rfl ?_
      refine XN ?_
      exact loopJ_normal (k + 1) (by repeat (first | exact agree_self | exact agree_over | refine agree_upd rfl ?_ | refine agree_updL rfl ?_ | refine agree_over2 rfl ?_)) ⟨rfl, by show _ = Value.int .i64 (formerP (xs.take (k + 1)) x.ride); rw [hsn]; rfl, trivial⟩ (fun w hw => mem_nil.2 hw.1) rfl (by show k + 1 ≤ i; omega) (by show i - (k + 1) < i - k; omega)
    · rw [if_neg (by unfold isRide; rw [show ((decide (e.kind = 3) || decide (e.kind = 4)) && decide (e.ride = x.ride)) = false from hb]; decide)] at hsn
      refine H_skip ?_
      refine blockJ_normal ?_
      refine thenJ_normal ?_
      refine R0 ?_
      refine xV (e_mv (v := .int _ _) (q0 rfl)) rfl rfl ?_
      refine xV (e_add (q0 rfl) (q0 rfl) (fun _ => ⟨rfl, by omega, by omega⟩)) rfl rfl ?_
      refine xV (e_as (v := .int _ _) (q0 rfl)) rfl rfl ?_
      refine XN ?_
      exact loopJ_normal (k + 1) (by repeat (first | exact agree_self | exact agree_over | refine agree_upd rfl ?_ | refine agree_updL rfl ?_ | refine agree_over2 rfl ?_)) ⟨rfl, by show _ = Value.int .i64 (formerP (xs.take (k + 1)) x.ride); rw [hsn]; rfl, trivial⟩ (fun w hw => mem_nil.2 hw.1) rfl (by show k + 1 ≤ i; omega) (by show i - (k + 1) < i - k; omega)
  · have hkn : k = i := by simp at hlt; omega
    refine H_exit ?_
    refine thenJ_exit ?_
    refine loopJ_exit ?_
    refine blockJ_hit ?_
    refine thenJ_normal ?_
    refine H_seq ?_
    refine R0 ?_
    refine xV (e_mv (v := .int _ _) (q0 rfl)) rfl rfl ?_
    refine xV (e_as (v := .int _ _) (q0 rfl)) rfl rfl ?_
    refine XN ?_
    refine thenJ_normal ?_
    refine H_ret ?_
    exact ret1 (v := .int _ _) rfl rfl rfl fun w' hw => ⟨by rw [hkn], hw.1⟩
set_option maxRecDepth 20000 in
theorem rseen_w (f : Fl) (nb : Nat) (aA : Option Addr) (an ac : Nat) (acc : List Ev) (sA : Option Addr) (sn sc : Nat) (signs : List Sg) (b now : Int) (w : World) (hnb : f.bikes = nb) (hrep : Replay f (beginP nb) acc) (ha : EvsAt w aA an acc) (hs : SgsAt w sA sn signs) :
    Calls Try.prog 31 #[.slice aA an ac, .slice sA sn sc, .int .i64 b, .int .i64 now] w fun e w' => e = .returned (.int .i64 (sv (notices acc signs) b now)) ∧ Bel w w' := by
  have hal := ha.1
  have han := ha.2.1
  have hsl := hs.1
  have hsn := hs.2.1
  refine H_enter Try.func31 rfl Try.ntmps31 rfl ?_
  refine H_seq ?_
  refine R0 ?_
  refine xV (e_as (v := .int _ _) (q0 rfl)) rfl rfl ?_
  refine XN ?_
  refine thenJ_normal ?_
  refine H_seq ?_
  refine R0 ?_
  refine xV (e_as (v := .int _ _) (q0 rfl)) rfl rfl ?_
  refine XN ?_
  refine thenJ_normal ?_
  refine H_seq ?_
  refine H_seq ?_
  refine R0 ?_
  refine xV (e_as (v := .int _ _) (q0 rfl)) rfl rfl ?_
  refine XN ?_
  refine thenJ_normal ?_
  refine H_block ?_
  refine H_loop [9, 10, 11, 12, 14, 15, 16, 17, 18, 19, 20, 21, 22, 23, 24, 25, 26, 27, 28, 29, 30, 31, 32, 33, 34, 35, 36, 37, 38, 39, 40, 41, 42, 43, 44, 45, 46, 47, 48, 49, 50] (fun q : Nat × Int => [(10, .int .i64 q.1), (9, .int .i64 q.2)]) (fun _ => []) (fun q => q.1 ≤ an ∧ TopP (fun t => ∃ k e, k < q.1 ∧ acc[k]? = some e ∧ hitR acc b k e ∧ t = e.at_) now q.2) (fun q => an - q.1) (0, 0) ⟨rfl, rfl, trivial⟩ (fun _ h => h) rfl ⟨Nat.zero_le _, (TopP.start now).congr fun t => ⟨fun h => h.elim, fun ⟨k, _, h, _⟩ => by omega⟩⟩ ?_
  rintro ⟨k, v⟩ g ⟨hk, htop⟩
  simp only at hk htop
  refine H_seq ?_
  refine H_seq ?_
  refine R0 ?_
  refine xV (e_mv (v := .int _ _) (q0 rfl)) rfl rfl ?_
  refine xV (e_mv (v := .slice _ _ _) (q0 rfl)) rfl rfl ?_
  refine xV (e_len Try.underlying25 (q0 rfl)) rfl rfl ?_
  refine xV (e_lt (q0 rfl) (q0 rfl)) rfl rfl ?_
  refine XN ?_
  refine thenJ_normal ?_
  refine H_cond rfl (fun hlt => ?_) (fun hlt => ?_)
  · have hlt' : k < an := by simpa using hlt
    obtain ⟨ab, aoff, e, rfl, habl, hek, her⟩ := ha.at_ hlt'
    have hadd := htop.add (x := e.at_) (hitR acc b k e)
    have hcon : ∀ t, ((∃ k' e', k' < k ∧ acc[k']? = some e' ∧ hitR acc b k' e' ∧ t = e'.at_) ∨ (hitR acc b k e ∧ t = e.at_)) ↔ ∃ k' e', k' < k + 1 ∧ acc[k']? = some e' ∧ hitR acc b k' e' ∧ t = e'.at_ := fun t => by
      constructor
      · rintro (⟨k', e', h1, h2, h3⟩ | ⟨h1, h2⟩)
        · exact ⟨k', e', by omega, h2, h3⟩
        · exact ⟨k, e, by omega, hek, h1, h2⟩
      · rintro ⟨k', e', h1, h2, h3, h4⟩
        by_cases hkk : k' = k
        · subst hkk
          rw [hek] at h2
          cases h2
          exact .inr ⟨h3, h4⟩
        · exact .inl ⟨k', e', by omega, h2, h3, h4⟩
    have hadd2 := hadd.congr hcon
    refine H_skip ?_
    refine thenJ_normal ?_
    refine H_seq ?_
    refine H_block ?_
    refine H_seq ?_
    refine R0 ?_
    refine xV (e_mv (v := .slice _ _ _) (q0 rfl)) rfl rfl ?_
    refine xV (e_mv (v := .int _ _) (q0 rfl)) rfl rfl ?_
    refine xV (e_idx _ Try.underlying25 Try.sizeOf49 (q0 rfl) (q0 rfl) (fun _ => ⟨rfl, by omega⟩)) rfl rfl ?_
    refine xV (eS Try.isAgg49 Try.sizeOf49 (q0 rfl)) rfl rfl ?_
    refine X_alloc Try.zeroValue49 rfl fun b11 => ?_
    refine X_st (v := .agg _) rfl rfl Try.sizeOf49 ?_
    refine XN ?_
    refine thenJ_normal ?_
    refine H_seq ?_
    refine R0 ?_
    refine xV (e_fld Try.underlying49 rfl Try.sizeOf3 rfl (q0 rfl)) rfl rfl ?_
    refine xV (eL Try.isAgg3 (q0 rfl)) rfl rfl ?_
    refine xV (e_eq (q0 rfl) (q0 rfl)) rfl rfl ?_
    refine xV (e_mv (v := .bool _) (q0 rfl)) rfl rfl ?_
    refine xVT (e_mv (v := .slice _ _ _) (q0 rfl)) rfl rfl rfl rfl ?_
    refine xVT (e_mv (v := .int _ _) (q0 rfl)) rfl rfl rfl rfl ?_
    refine xCT (en Try.call46 (ha2 (q1 (v := .slice _ _ _) rfl) (q1 (v := .int _ _) rfl))) (fun _ w hm => former_w _ an ac acc k e w (ha.mem hm) hek) rfl rfl rfl rfl ?_
    refine xVT (e_mv (v := .int _ _) (q0 rfl)) rfl rfl rfl rfl ?_
    refine xVT (e_eq (q1 rfl) (q1 rfl)) rfl rfl rfl rfl ?_
    refine xV (e_and (q0 rfl) rfl (fun h => by first | rfl | (rw [h]; rfl))) rfl rfl ?_
    refine xV (e_as (v := .bool _) (q0 rfl)) rfl rfl ?_
    refine XN ?_
    refine thenJ_normal ?_
    refine H_seq ?_
    refine R0 ?_
    refine xV (e_fld Try.underlying49 rfl Try.sizeOf3 rfl (q0 rfl)) rfl rfl ?_
    refine xV (eL Try.isAgg3 (q0 rfl)) rfl rfl ?_
    refine xV (e_mv (v := .int _ _) (q0 rfl)) rfl rfl ?_
    refine xV (e_eq (q0 rfl) (q0 rfl)) rfl rfl ?_
    refine xV (e_mv (v := .bool _) (q0 rfl)) rfl rfl ?_
    refine xVF (e_mv (v := .bool _) (q0 rfl)) rfl rfl rfl rfl ?_
    refine xV (e_or (q0 rfl) rfl (fun h => by first | rfl | (rw [h]; rfl))) rfl rfl ?_
    refine xV (e_mv (v := .bool _) (q0 rfl)) rfl rfl ?_
    refine xVT (e_fld Try.underlying49 rfl Try.sizeOf3 rfl (q0 rfl)) rfl rfl rfl rfl ?_
    refine xVT (eL Try.isAgg3 (q1 rfl)) rfl rfl rfl rfl ?_
    refine xVT (e_mv (v := .int _ _) (q0 rfl)) rfl rfl rfl rfl ?_
    refine xVT (e_le (q1 rfl) (q1 rfl)) rfl rfl rfl rfl ?_
    refine xV (e_and (q0 rfl) rfl (fun h => by first | rfl | (rw [h]; rfl))) rfl rfl ?_
    refine XN ?_
    refine thenJ_normal ?_
    refine H_cond rfl (fun hb => ?_) (fun hb => ?_)
    · have hb' : hitR acc b k e ∧ e.at_ ≤ now := by
        simp at hb
        unfold hitR
        exact hb
      rw [if_pos hb'] at hadd2
      have hmx : (if v < e.at_ then e.at_ else v) = max v e.at_ := by split <;> omega
      rw [← hmx] at hadd2
      refine R0 ?_
      refine xV (e_mv (v := .int _ _) (q0 rfl)) rfl rfl ?_
      refine xV (e_fld Try.underlying49 rfl Try.sizeOf3 rfl (q0 rfl)) rfl rfl ?_
      refine xV (eL Try.isAgg3 (q0 rfl)) rfl rfl ?_
      refine xV (e_max (q0 rfl) (q0 rfl)) rfl rfl ?_
      refine xV (e_as (v := .int _ _) (q0 rfl)) rfl rfl ?_
      refine XN ?_
      refine blockJ_normal ?_
      refine thenJ_normal ?_
      refine R0 ?_
      refine xV (e_mv (v := .int _ _) (q0 rfl)) rfl rfl ?_
      refine xV (e_add (q0 rfl) (q0 rfl) (fun _ => ⟨rfl, by omega, by omega⟩)) rfl rfl ?_
      refine xV (e_as (v := .int _ _) (q0 rfl)) rfl rfl ?_
      refine XN ?_
      exact loopJ_normal (k + 1, if v < e.at_ then e.at_ else v) (by repeat (first | exact agree_self | exact agree_over | refine agree_upd rfl ?_ | refine agree_updL rfl ?_ | refine agree_over2 rfl ?_)) ⟨rfl, rfl, trivial⟩ (fun w hw => mem_nil.2 hw.1) rfl ⟨by show k + 1 ≤ an; omega, hadd2⟩ (by show an - (k + 1) < an - k; omega)
    · have hb' : ¬ (hitR acc b k e ∧ e.at_ ≤ now) := by
        simp at hb
        unfold hitR
        rintro ⟨h1, h2⟩
        have := hb h1
        omega
      rw [if_neg hb'] at hadd2
      refine H_skip ?_
      refine blockJ_normal ?_
      refine thenJ_normal ?_
      refine R0 ?_
      refine xV (e_mv (v := .int _ _) (q0 rfl)) rfl rfl ?_
      refine xV (e_add (q0 rfl) (q0 rfl) (fun _ => ⟨rfl, by omega, by omega⟩)) rfl rfl ?_
      refine xV (e_as (v := .int _ _) (q0 rfl)) rfl rfl ?_
      refine XN ?_
      exact loopJ_normal (k + 1, v) (by repeat (first | exact agree_self | exact agree_over | refine agree_upd rfl ?_ | refine agree_updL rfl ?_ | refine agree_over2 rfl ?_)) ⟨rfl, rfl, trivial⟩ (fun w hw => mem_nil.2 hw.1) rfl ⟨by show k + 1 ≤ an; omega, hadd2⟩ (by show an - (k + 1) < an - k; omega)
  · have hend : k = an := by simp at hlt; omega
    subst hend
    refine H_exit ?_
    refine thenJ_exit ?_
    refine loopJ_exit ?_
    refine blockJ_hit ?_
    refine thenJ_normal ?_
    refine H_seq ?_
    refine H_seq ?_
    refine R0 ?_
    refine xV (e_as (v := .int _ _) (q0 rfl)) rfl rfl ?_
    refine XN ?_
    refine thenJ_normal ?_
    refine H_block ?_
    refine H_loop [9, 13, 51, 52, 53, 54, 55, 56, 57, 58, 59, 60, 61, 62, 63, 64, 65, 66, 67, 68, 69, 70, 71, 72, 73, 74, 75, 76, 77, 78, 79] (fun q : Nat × Int => [(13, .int .i64 q.1), (9, .int .i64 q.2)]) (fun _ => []) (fun q => q.1 ≤ sn ∧ TopP (fun t => (∃ k e, acc[k]? = some e ∧ hitR acc b k e ∧ t = e.at_) ∨ ∃ s ∈ signs.take q.1, s.bike = b ∧ t = s.at_) now q.2) (fun q => sn - q.1) (0, v) ⟨rfl, rfl, trivial⟩ (fun _ h => h) rfl ⟨Nat.zero_le _, htop.congr fun t => by
      constructor
      · rintro ⟨k, e, _, h⟩; exact .inl ⟨k, e, h⟩
      · rintro (⟨k, e, h1, h⟩ | ⟨s, h, _⟩)
        · exact ⟨k, e, by have := (List.getElem?_eq_some_iff.1 h1).1; omega, h1, h⟩
        · simp at h⟩ ?_
    rintro ⟨j, u⟩ g2 ⟨hj, htop2⟩
    simp only at hj htop2
    refine H_seq ?_
    refine H_seq ?_
    refine R0 ?_
    refine xV (e_mv (v := .int _ _) (q0 rfl)) rfl rfl ?_
    refine xV (e_mv (v := .slice _ _ _) (q0 rfl)) rfl rfl ?_
    refine xV (e_len Try.underlying26 (q0 rfl)) rfl rfl ?_
    refine xV (e_lt (q0 rfl) (q0 rfl)) rfl rfl ?_
    refine XN ?_
    refine thenJ_normal ?_
    refine H_cond rfl (fun hlt2 => ?_) (fun hlt2 => ?_)
    · have hlt2' : j < sn := by simpa using hlt2
      obtain ⟨sb, soff, s, rfl, hsbl, hsj, hsr⟩ := hs.at_ hlt2'
      have hadd := htop2.add (x := s.at_) (s.bike = b)
      have hadd2 := hadd.congr (q := fun t => (∃ k e, acc[k]? = some e ∧ hitR acc b k e ∧ t = e.at_) ∨ ∃ s' ∈ signs.take (j + 1), s'.bike = b ∧ t = s'.at_) fun t => by
        rw [take_snoc _ _ _ hsj]
        constructor
        · rintro ((h | ⟨s', h1, h2⟩) | ⟨h1, h2⟩)
          · exact .inl h
          · exact .inr ⟨s', List.mem_append.2 (.inl h1), h2⟩
          · exact .inr ⟨s, List.mem_append.2 (.inr (by simp)), h1, h2⟩
        · rintro (h | ⟨s', h1, h2⟩)
          · exact .inl (.inl h)
          · rcases List.mem_append.1 h1 with h1 | h1
            · exact .inl (.inr ⟨s', h1, h2⟩)
            · rw [List.mem_singleton.1 h1] at h2; exact .inr h2
      refine H_skip ?_
      refine thenJ_normal ?_
      refine H_seq ?_
      refine H_block ?_
      refine H_seq ?_
      refine R0 ?_
      refine xV (e_mv (v := .slice _ _ _) (q0 rfl)) rfl rfl ?_
      refine xV (e_mv (v := .int _ _) (q0 rfl)) rfl rfl ?_
      refine xV (e_idx _ Try.underlying26 Try.sizeOf51 (q0 rfl) (q0 rfl) (fun _ => ⟨rfl, by omega⟩)) rfl rfl ?_
      refine xV (e_fld Try.underlying51 rfl Try.sizeOf3 rfl (q0 rfl)) rfl rfl ?_
      refine xV (eL Try.isAgg3 (q0 rfl)) rfl rfl ?_
      refine xV (e_mv (v := .int _ _) (q0 rfl)) rfl rfl ?_
      refine xV (e_eq (q0 rfl) (q0 rfl)) rfl rfl ?_
      refine xV (e_mv (v := .bool _) (q0 rfl)) rfl rfl ?_
      refine xVT (e_mv (v := .slice _ _ _) (q0 rfl)) rfl rfl rfl rfl ?_
      refine xVT (e_mv (v := .int _ _) (q0 rfl)) rfl rfl rfl rfl ?_
      refine xVT (e_idx _ Try.underlying26 Try.sizeOf51 (q1 rfl) (q1 rfl) (fun _ => ⟨rfl, by omega⟩)) rfl rfl rfl rfl ?_
      refine xVT (e_fld Try.underlying51 rfl Try.sizeOf3 rfl (q1 rfl)) rfl rfl rfl rfl ?_
      refine xVT (eL Try.isAgg3 (q1 rfl)) rfl rfl rfl rfl ?_
      refine xVT (e_mv (v := .int _ _) (q0 rfl)) rfl rfl rfl rfl ?_
      refine xVT (e_le (q1 rfl) (q1 rfl)) rfl rfl rfl rfl ?_
      refine xV (e_and (q0 rfl) rfl (fun h => by first | rfl | (rw [h]; rfl))) rfl rfl ?_
      refine XN ?_
      refine thenJ_normal ?_
      refine H_cond rfl (fun hb => ?_) (fun hb => ?_)
      · have hb' : s.bike = b ∧ s.at_ ≤ now := by simpa using hb
        rw [if_pos hb'] at hadd2
        have hmx : (if u < s.at_ then s.at_ else u) = max u s.at_ := by split <;> omega
        rw [← hmx] at hadd2
        refine R0 ?_
        refine xV (e_mv (v := .int _ _) (q0 rfl)) rfl rfl ?_
        refine xV (e_mv (v := .slice _ _ _) (q0 rfl)) rfl rfl ?_
        refine xV (e_mv (v := .int _ _) (q0 rfl)) rfl rfl ?_
        refine xV (e_idx _ Try.underlying26 Try.sizeOf51 (q0 rfl) (q0 rfl) (fun _ => ⟨rfl, by omega⟩)) rfl rfl ?_
        refine xV (e_fld Try.underlying51 rfl Try.sizeOf3 rfl (q0 rfl)) rfl rfl ?_
        refine xV (eL Try.isAgg3 (q0 rfl)) rfl rfl ?_
        refine xV (e_max (q0 rfl) (q0 rfl)) rfl rfl ?_
        refine xV (e_as (v := .int _ _) (q0 rfl)) rfl rfl ?_
        refine XN ?_
        refine blockJ_normal ?_
        refine thenJ_normal ?_
        refine R0 ?_
        refine xV (e_mv (v := .int _ _) (q0 rfl)) rfl rfl ?_
        refine xV (e_add (q0 rfl) (q0 rfl) (fun _ => ⟨rfl, by omega, by omega⟩)) rfl rfl ?_
        refine xV (e_as (v := .int _ _) (q0 rfl)) rfl rfl ?_
        refine XN ?_
        exact loopJ_normal (j + 1, if u < s.at_ then s.at_ else u) (by repeat (first | exact agree_self | exact agree_over | refine agree_upd rfl ?_ | refine agree_updL rfl ?_ | refine agree_over2 rfl ?_)) ⟨rfl, rfl, trivial⟩ (fun w hw => mem_nil.2 hw.1) rfl ⟨by show j + 1 ≤ sn; omega, hadd2⟩ (by show sn - (j + 1) < sn - j; omega)
      · have hb' : ¬ (s.bike = b ∧ s.at_ ≤ now) := by simpa using hb
        rw [if_neg hb'] at hadd2
        refine H_skip ?_
        refine blockJ_normal ?_
        refine thenJ_normal ?_
        refine R0 ?_
        refine xV (e_mv (v := .int _ _) (q0 rfl)) rfl rfl ?_
        refine xV (e_add (q0 rfl) (q0 rfl) (fun _ => ⟨rfl, by omega, by omega⟩)) rfl rfl ?_
        refine xV (e_as (v := .int _ _) (q0 rfl)) rfl rfl ?_
        refine XN ?_
        exact loopJ_normal (j + 1, u) (by repeat (first | exact agree_self | exact agree_over | refine agree_upd rfl ?_ | refine agree_updL rfl ?_ | refine agree_over2 rfl ?_)) ⟨rfl, rfl, trivial⟩ (fun w hw => mem_nil.2 hw.1) rfl ⟨by show j + 1 ≤ sn; omega, hadd2⟩ (by show sn - (j + 1) < sn - j; omega)
    · have hend2 : j = sn := by simp at hlt2; omega
      subst hend2
      rw [← hsl, List.take_length] at htop2
      have hfin := (htop2.congr fun t => (notices_iff hrep hnb signs b t).symm).sv
      refine H_exit ?_
      refine thenJ_exit ?_
      refine loopJ_exit ?_
      refine blockJ_hit ?_
      refine thenJ_normal ?_
      refine H_seq ?_
      refine R0 ?_
      refine xV (e_mv (v := .int _ _) (q0 rfl)) rfl rfl ?_
      refine xV (e_as (v := .int _ _) (q0 rfl)) rfl rfl ?_
      refine XN ?_
      refine thenJ_normal ?_
      refine H_ret ?_
      exact ret1 (v := .int _ _) rfl rfl rfl fun w' hw => ⟨ret_int hfin, hw.1⟩

end Go.Proofs.Mis

/-
  The walks: what is overdue.
-/
namespace Go.Proofs.Mis
open Go Go.RowKit Go.Proofs.E Go.Proofs.Cus

def paV (si ri : Int) : List Value := [.int .i64 si, .int .i64 ri]
theorem limit_w (n : Int) (w : World) : Calls Try.prog 36 #[.int .i64 n] w fun e w' => e = .returned (.bool (decide (1 ≤ n) && decide (n ≤ 4294943999))) ∧ Bel w w' := by
  refine H_enter Try.func36 rfl Try.ntmps36 rfl ?_
  refine H_seq ?_
  refine R0 ?_
  refine xV (e_as (v := .bool _) (q0 rfl)) rfl rfl ?_
  refine XN ?_
  refine thenJ_normal ?_
  refine H_seq ?_
  refine R0 ?_
  refine xV (e_mv (v := .int _ _) (q0 rfl)) rfl rfl ?_
  refine xV (e_le (q0 rfl) (q0 rfl)) rfl rfl ?_
  refine xV (e_mv (v := .bool _) (q0 rfl)) rfl rfl ?_
  refine xVT (e_mv (v := .int _ _) (q0 rfl)) rfl rfl rfl rfl ?_
  refine xVT (e_le (q1 rfl) (q0 rfl)) rfl rfl rfl rfl ?_
  refine xV (e_and (q0 rfl) rfl (fun h => by first | rfl | (rw [h]; rfl))) rfl rfl ?_
  refine xV (e_as (v := .bool _) (q0 rfl)) rfl rfl ?_
  refine XN ?_
  refine thenJ_normal ?_
  refine H_ret ?_
  exact ret1 (v := .bool _) rfl rfl rfl fun w' hw => ⟨rfl, hw.1⟩
theorem check_w (si ri : Int) (w : World) : Calls Try.prog 17 #[.agg (paV si ri).toArray] w fun e w' => e = .returned (.int .i64 (chkP si ri)) ∧ Bel w w' := by
  refine H_enter Try.func17 rfl Try.ntmps17 rfl ?_
  refine H_seq ?_
  refine R0 ?_
  refine X_box (v := .agg _) rfl rfl fun b1 => ?_
  refine xV (e_as (v := .int _ _) (q0 rfl)) rfl rfl ?_
  refine XN ?_
  refine thenJ_normal ?_
  refine H_seq ?_
  refine H_seq ?_
  refine R0 ?_
  refine xV (e_fld Try.underlying34 rfl Try.sizeOf3 rfl (q0 rfl)) rfl rfl ?_
  refine xV (eL Try.isAgg3 (q0 rfl)) rfl rfl ?_
  refine xC (en Try.call36 (ha1 (q0 rfl))) (fun _ w _ => limit_w si w) rfl rfl ?_
  refine xV (e_not (q0 rfl)) rfl rfl ?_
  refine xV (e_mv (v := .bool _) (q0 rfl)) rfl rfl ?_
  refine xVF (e_fld Try.underlying34 rfl Try.sizeOf3 rfl (q0 rfl)) rfl rfl rfl rfl ?_
  refine xVF (eL Try.isAgg3 (q1 rfl)) rfl rfl rfl rfl ?_
  refine xCF (en Try.call36 (ha1 (q1 (v := .int _ _) rfl))) (fun _ w _ => limit_w ri w) rfl rfl rfl rfl ?_
  refine xVF (e_not (q1 rfl)) rfl rfl rfl rfl ?_
  refine xV (e_or (q0 rfl) rfl (fun h => by first | rfl | (rw [h]; rfl))) rfl rfl ?_
  refine XN ?_
  refine thenJ_normal ?_
  refine H_cond rfl (fun h => ?_) (fun h => ?_)
  · refine H_seq ?_
    refine R0 ?_
    refine xV (e_as (v := .int _ _) (q0 rfl)) rfl rfl ?_
    refine XN ?_
    refine thenJ_normal ?_
    refine H_ret ?_
    refine thenJ_ret ?_
    exact ret1 (v := .int _ _) rfl rfl rfl fun w' hw => ⟨ret_int (by unfold chkP; rw [if_pos (by simp at h ⊢; omega)]), hw.1⟩
  · refine H_skip ?_
    refine thenJ_normal ?_
    refine H_seq ?_
    refine R0 ?_
    refine xV (e_as (v := .int _ _) (q0 rfl)) rfl rfl ?_
    refine XN ?_
    refine thenJ_normal ?_
    refine H_ret ?_
    exact ret1 (v := .int _ _) rfl rfl rfl fun w' hw => ⟨ret_int (by unfold chkP; rw [if_neg (by simp at h ⊢; omega)]), hw.1⟩
theorem rcheck_w (si ri : Int) (w : World) : Calls Try.prog 18 #[.agg (paV si ri).toArray] w fun e w' => e = .returned (.int .i64 (chkP si ri)) ∧ Bel w w' := by
  refine H_enter Try.func18 rfl Try.ntmps18 rfl ?_
  refine H_seq ?_
  refine R0 ?_
  refine X_box (v := .agg _) rfl rfl fun b1 => ?_
  refine xV (e_as (v := .int _ _) (q0 rfl)) rfl rfl ?_
  refine XN ?_
  refine thenJ_normal ?_
  refine H_seq ?_
  refine H_seq ?_
  refine R0 ?_
  refine xV (e_fld Try.underlying34 rfl Try.sizeOf3 rfl (q0 rfl)) rfl rfl ?_
  refine xV (eL Try.isAgg3 (q0 rfl)) rfl rfl ?_
  refine xV (e_lt (q0 rfl) (q0 rfl)) rfl rfl ?_
  refine xV (e_mv (v := .bool _) (q0 rfl)) rfl rfl ?_
  refine xVF (e_fld Try.underlying34 rfl Try.sizeOf3 rfl (q0 rfl)) rfl rfl rfl rfl ?_
  refine xVF (eL Try.isAgg3 (q1 rfl)) rfl rfl rfl rfl ?_
  refine xVF (e_gt (q1 rfl) (q0 rfl)) rfl rfl rfl rfl ?_
  refine xV (e_or (q0 rfl) rfl (fun h => by first | rfl | (rw [h]; rfl))) rfl rfl ?_
  refine xV (e_mv (v := .bool _) (q0 rfl)) rfl rfl ?_
  refine xVF (e_fld Try.underlying34 rfl Try.sizeOf3 rfl (q0 rfl)) rfl rfl rfl rfl ?_
  refine xVF (eL Try.isAgg3 (q1 rfl)) rfl rfl rfl rfl ?_
  refine xVF (e_lt (q1 rfl) (q0 rfl)) rfl rfl rfl rfl ?_
  refine xV (e_or (q0 rfl) rfl (fun h => by first | rfl | (rw [h]; rfl))) rfl rfl ?_
  refine xV (e_mv (v := .bool _) (q0 rfl)) rfl rfl ?_
  refine xVF (e_fld Try.underlying34 rfl Try.sizeOf3 rfl (q0 rfl)) rfl rfl rfl rfl ?_
  refine xVF (eL Try.isAgg3 (q1 rfl)) rfl rfl rfl rfl ?_
  refine xVF (e_gt (q1 rfl) (q0 rfl)) rfl rfl rfl rfl ?_
  refine xV (e_or (q0 rfl) rfl (fun h => by first | rfl | (rw [h]; rfl))) rfl rfl ?_
  refine XN ?_
  refine thenJ_normal ?_
  refine H_cond rfl (fun h => ?_) (fun h => ?_)
  · refine H_seq ?_
    refine R0 ?_
    refine xV (e_as (v := .int _ _) (q0 rfl)) rfl rfl ?_
    refine XN ?_
    refine thenJ_normal ?_
    refine H_ret ?_
    refine thenJ_ret ?_
    exact ret1 (v := .int _ _) rfl rfl rfl fun w' hw => ⟨ret_int (by unfold chkP; rw [if_pos (by simp at h ⊢; omega)]), hw.1⟩
  · refine H_skip ?_
    refine thenJ_normal ?_
    refine H_seq ?_
    refine R0 ?_
    refine xV (e_as (v := .int _ _) (q0 rfl)) rfl rfl ?_
    refine XN ?_
    refine thenJ_normal ?_
    refine H_ret ?_
    exact ret1 (v := .int _ _) rfl rfl rfl fun w' hw => ⟨ret_int (by unfold chkP; rw [if_neg (by simp at h ⊢; omega)]), hw.1⟩
theorem mbefore_w (A : Option Addr) (n c : Nat) (xs : List Ev) (now : Int) (w : World) (hx : EvsAt w A n xs) (hn : n ≤ 10000) :
    Calls Try.prog 33 #[.slice A n c, .int .i64 now] w fun r w' => ∃ x : Option Addr × Nat, r = .returned (.slice x.1 (upTo now xs).length x.2) ∧ Mem w [evRow x.1 x.2 (upTo now xs)] w' := by
  have hxl := hx.1
  obtain ⟨F, hF⟩ : ∃ F : Nat → List Ev, F = fun k => upTo now (xs.take k) := ⟨_, rfl⟩
  have hF0 : F 0 = [] := by rw [hF]; rfl
  have hFn : F n = upTo now xs := by rw [hF]; simp only [← hxl, List.take_length]
  have hFs : ∀ k e, xs[k]? = some e → F (k + 1) = F k ++ (if e.at_ ≤ now then [e] else []) := fun k e he => by
    rw [hF]; simp only [upTo, take_snoc _ _ _ he, List.filter_append]
    congr 1
    by_cases h : e.at_ ≤ now
    · rw [if_pos h]; simp [List.filter_cons, h]
    · rw [if_neg h]; simp [List.filter_cons, h]
  have hFl : ∀ k, (F k).length ≤ n := fun k => by
    rw [hF]
    have h1 := List.length_filter_le (fun e : Ev => decide (e.at_ ≤ now)) (xs.take k)
    rw [List.length_take] at h1
    simp only [upTo]
    omega
  rw [← hFn]
  clear hF hFn
  refine H_enter Try.func33 rfl Try.ntmps33 rfl ?_
  refine H_seq ?_
  refine R0 ?_
  refine xV (e_as (v := .slice _ _ _) (q0 rfl)) rfl rfl ?_
  refine XN ?_
  refine thenJ_normal ?_
  refine H_seq ?_
  refine R0 ?_
  refine xV (e_as (v := .slice _ _ _) (q0 rfl)) rfl rfl ?_
  refine XN ?_
  refine thenJ_normal ?_
  refine H_seq ?_
  refine H_seq ?_
  refine R0 ?_
  refine xV (e_mv (v := .slice _ _ _) (q0 rfl)) rfl rfl ?_
  refine xV (e_len Try.underlying25 (q0 rfl)) rfl rfl ?_
  refine xV (e_mv (v := .int _ _) (q0 rfl)) rfl rfl ?_
  refine XN ?_
  refine thenJ_normal ?_
  refine H_block ?_
  refine H_loop [5, 7, 10, 11, 12, 13, 14, 15, 16, 17, 18, 19, 20, 21, 22] (fun q : Nat × Option Addr × Nat => [(10, .int .i64 q.1), (5, .slice q.2.1 (F q.1).length q.2.2)]) (fun q => [evRow q.2.1 q.2.2 (F q.1)]) (fun q => q.1 ≤ n) (fun q => n - q.1) (0, none, 0) ⟨rfl, by show _ = Value.slice none (F 0).length 0; rw [hF0]; rfl, trivial⟩ (fun w hw => by show Mem _ [evRow none 0 (F 0)] w; rw [hF0]; exact hw.nilRow _ _ _ rfl) rfl (Nat.zero_le _) ?_
  rintro ⟨k, oA, oc⟩ g hk
  simp only at hk
  refine H_seq ?_
  refine R0 ?_
  refine xV (e_lt (q0 rfl) (q0 rfl)) rfl rfl ?_
  refine XN ?_
  refine thenJ_normal ?_
  refine H_seq ?_
  refine H_cond rfl (fun hlt => ?_) (fun hlt => ?_)
  · have hlt' : k < n := by simpa using hlt
    obtain ⟨b, off, e, rfl, hbl, he, hre⟩ := hx.at_ hlt'
    have hs := hFs k e he
    have hl := hFl k
    refine H_skip ?_
    refine thenJ_normal ?_
    refine H_seq ?_
    refine H_block ?_
    refine H_seq ?_
    refine R0 ?_
    refine xV (e_idx _ Try.underlying25 Try.sizeOf49 (q0 rfl) (q0 rfl) (fun _ => ⟨rfl, by omega⟩)) rfl rfl ?_
    refine xV (eS Try.isAgg49 Try.sizeOf49 (q0 rfl)) rfl rfl ?_
    refine X_alloc Try.zeroValue49 rfl fun b7 => ?_
    refine X_st (v := .agg _) rfl rfl Try.sizeOf49 ?_
    refine XN ?_
    refine thenJ_normal ?_
    refine H_seq ?_
    refine R0 ?_
    refine xV (e_fld Try.underlying49 rfl Try.sizeOf3 rfl (q0 rfl)) rfl rfl ?_
    refine xV (eL Try.isAgg3 (q0 rfl)) rfl rfl ?_
    refine xV (e_mv (v := .int _ _) (q0 rfl)) rfl rfl ?_
    refine xV (e_le (q0 rfl) (q0 rfl)) rfl rfl ?_
    refine XN ?_
    refine thenJ_normal ?_
    refine H_cond rfl (fun hb => ?_) (fun hb => ?_)
    · rw [if_pos (by simpa using hb)] at hs
      refine R0 ?_
      refine xV (e_mv (v := .slice _ _ _) (q0 rfl)) rfl rfl ?_
      refine xV (eS Try.isAgg49 Try.sizeOf49 (q0 rfl)) rfl rfl ?_
      refine X_push (k := 9) (i := Try.t49) 1 (e) Try.underlying25 (by kernel_rfl) rfl rfl rfl rfl Try.sizeOf49 Try.zeroValue49 rfl rfl rfl rfl rfl rfl ⟨by simp only; omega, by decide⟩ rfl rfl fun PB A1 c1 => ?_
      refine xV (e_as (v := .slice _ _ _) (q0 rfl)) rfl rfl ?_
      refine XN ?_
      refine blockJ_normal ?_
      refine thenJ_normal ?_
      refine R0 ?_
      refine xV (e_add (q0 rfl) (q0 rfl) (fun _ => ⟨rfl, by omega, by omega⟩)) rfl rfl ?_
      refine xV (e_mv (v := .int _ _) (q0 rfl)) rfl rfl ?_
      refine XN ?_
      exact loopJ_normal (k + 1, A1, c1) (by repeat (first | exact agree_self | exact agree_over | refine agree_upd rfl ?_ | refine agree_updL rfl ?_ | refine agree_over2 rfl ?_)) ⟨rfl, by show _ = Value.slice A1 (F (k + 1)).length c1; rw [hs]; rfl, trivial⟩ (fun w hw => by show Mem _ [evRow A1 c1 (F (k + 1))] w; rw [hs]; exact hw.tail) rfl (by show k + 1 ≤ _; omega) (by show n - (k + 1) < n - k; omega)
    · rw [if_neg (by simpa using hb), List.append_nil] at hs
      refine H_skip ?_
      refine blockJ_normal ?_
      refine thenJ_normal ?_
      refine R0 ?_
      refine xV (e_add (q0 rfl) (q0 rfl) (fun _ => ⟨rfl, by omega, by omega⟩)) rfl rfl ?_
      refine xV (e_mv (v := .int _ _) (q0 rfl)) rfl rfl ?_
      refine XN ?_
      exact loopJ_normal (k + 1, oA, oc) (by repeat (first | exact agree_self | exact agree_over | refine agree_upd rfl ?_ | refine agree_updL rfl ?_ | refine agree_over2 rfl ?_)) ⟨rfl, by show _ = Value.slice oA (F (k + 1)).length oc; rw [hs]; rfl, trivial⟩ (fun w hw => by show Mem _ [evRow oA oc (F (k + 1))] w; rw [hs]; exact hw.tail) rfl (by show k + 1 ≤ _; omega) (by show n - (k + 1) < n - k; omega)
  · have hend : k = n := by simp at hlt; omega
    subst hend
    refine H_exit ?_
    refine thenJ_exit ?_
    refine loopJ_exit ?_
    refine blockJ_hit ?_
    refine thenJ_normal ?_
    refine H_seq ?_
    refine R0 ?_
    refine xV (e_mv (v := .slice _ _ _) (q0 rfl)) rfl rfl ?_
    refine xV (e_as (v := .slice _ _ _) (q0 rfl)) rfl rfl ?_
    refine XN ?_
    refine thenJ_normal ?_
    refine H_ret ?_
    exact ret1 (v := .slice _ _ _) rfl rfl rfl fun w' hw => ⟨(oA, oc), rfl, hw⟩

end Go.Proofs.Mis

/-
  The walks: the program's Overdue.
-/
namespace Go.Proofs.Mis
open Go Go.RowKit Go.Proofs.E Go.Proofs.Cus

theorem spSel {l : List Sp} {k : Nat} {x : Sp} (h : l[k]? = some x) : l.getD k default = x := by rw [List.getD_eq_getElem?_getD, h]; rfl
theorem begun_bound {f : Fl} {s : PS} : ∀ {l : List Ev}, Replay f s l → ∀ r, 0 ≤ begunP l r ∧ begunP l r ≤ 4294943999 := by
  intro l h r
  unfold begunP
  cases hf : l.find? (isStart r) with
  | none => simp
  | some e =>
    have hm := List.mem_of_find?_eq_some hf
    obtain ⟨k, hk⟩ := List.mem_iff_getElem?.1 hm
    obtain ⟨h1, _⟩ := h.at_ (g := fun _ => ()) hk
    have := (evErr_ok h1).2.2.2.2
    simpa using this
attribute [local irreducible] seenP notices accOf flErr sv chkP overErr overL begunP spotsOf upTo
set_option maxHeartbeats 1000000 in
set_option maxRecDepth 20000 in
theorem overdue_w (f : Fl) (a : FA) (A : Option Addr) (n c : Nat) (xs : List Ev) (sA : Option Addr) (sn sc : Nat) (signs : List Sg) (si ri now : Int) (w : World) (hf : FlAt w f a) (hx : EvsAt w A n xs) (hs : SgsAt w sA sn signs) (hn : n ≤ 1000) (hpl : PlOk xs) :
    Calls Try.prog 14 #[.agg (f.cells a).toArray, .slice A n c, .slice sA sn sc, .agg (paV si ri).toArray, .int .i64 now] w fun r w' => ∃ x : Option Addr × Nat, r = .returned (.tuple #[.slice x.1 (overOf f xs signs si ri now).length x.2, .int .i64 (overErr f si ri now)]) ∧ Mem w [inRow x.1 x.2 (overOf f xs signs si ri now)] w' := by
  have hxl := hx.1
  have hal := accOf_len f xs
  refine H_enter Try.func14 rfl Try.ntmps14 rfl ?_
  refine H_seq ?_
  refine R0 ?_
  refine X_box (v := .agg _) rfl rfl fun b5 => ?_
  refine X_box (v := .agg _) rfl rfl fun b8 => ?_
  refine xV (e_as (v := .slice _ _ _) (q0 rfl)) rfl rfl ?_
  refine xV (e_as (v := .int _ _) (q0 rfl)) rfl rfl ?_
  refine XN ?_
  refine thenJ_normal ?_
  refine H_seq ?_
  refine H_seq ?_
  refine R0 ?_
  refine xV (eS Try.isAgg34 Try.sizeOf34 (q0 rfl)) rfl rfl ?_
  refine xC (en Try.call17 (ha1 (q0 rfl))) (fun _ w _ => check_w si ri w) rfl rfl ?_
  refine xV (e_as (v := .int _ _) (q0 rfl)) rfl rfl ?_
  refine XN ?_
  refine thenJ_normal ?_
  refine H_seq ?_
  refine R0 ?_
  refine xV (e_mv (v := .int _ _) (q0 rfl)) rfl rfl ?_
  refine xV (e_ne (q0 rfl) (q0 rfl)) rfl rfl ?_
  refine XN ?_
  refine thenJ_normal ?_
  refine H_cond rfl (fun h1 => ?_) (fun h1 => ?_)
  · have h1' : chkP si ri ≠ 0 := by simpa using h1
    have he : overErr f si ri now = chkP si ri := by unfold overErr; rw [if_pos h1']
    have ho : overOf f xs signs si ri now = [] := by unfold overOf; rw [he, if_neg h1']
    rw [he, ho]
    refine H_seq ?_
    refine R0 ?_
    refine xV (e_mv (v := .int _ _) (q0 rfl)) rfl rfl ?_
    refine xV (e_as (v := .slice _ _ _) (q0 rfl)) rfl rfl ?_
    refine xV (e_as (v := .int _ _) (q0 rfl)) rfl rfl ?_
    refine XN ?_
    refine thenJ_normal ?_
    refine H_ret ?_
    refine thenJ_ret ?_
    exact ret2 (v := .slice _ _ _) (x := .int _ _) rfl rfl rfl rfl fun w' hw => ⟨(none, 0), rfl, (mem_nil.2 hw.1).nilRow _ _ _ rfl⟩
  · have h1' : chkP si ri = 0 := by simpa using h1
    refine H_skip ?_
    refine thenJ_normal ?_
    refine H_seq ?_
    refine R0 ?_
    refine xV (eS Try.isAgg24 Try.sizeOf24 (q0 rfl)) rfl rfl ?_
    refine xV (e_mv (v := .slice _ _ _) (q0 rfl)) rfl rfl ?_
    refine xCX (en Try.call28 (ha2 (q0 rfl) (q0 rfl))) (fun w hw => accepted_w f a A n c xs w (hf.mem hw) (hx.mem hw) (by omega) hpl) rfl (fun _ => rfl) fun r1 => ?_
    refine xV (e_mv (q0 rfl)) rfl rfl ?_
    refine xV (e_ext (q0 rfl) rfl) rfl rfl ?_
    refine xV (e_ext (q0 rfl) rfl) rfl rfl ?_
    refine xV (e_as (v := .slice _ _ _) (q0 rfl)) rfl rfl ?_
    refine xV (e_as (v := .int _ _) (q0 rfl)) rfl rfl ?_
    refine XN ?_
    refine thenJ_normal ?_
    refine H_seq ?_
    refine H_seq ?_
    refine R0 ?_
    refine xV (e_mv (v := .int _ _) (q0 rfl)) rfl rfl ?_
    refine xV (e_ne (q0 rfl) (q0 rfl)) rfl rfl ?_
    refine XN ?_
    refine thenJ_normal ?_
    refine H_cond rfl (fun h2 => ?_) (fun h2 => ?_)
    · have h2' : flErr f ≠ 0 := by simpa using h2
      have he : overErr f si ri now = flErr f := by unfold overErr; rw [if_neg (fun h => h h1'), if_pos h2']
      have ho : overOf f xs signs si ri now = [] := by unfold overOf; rw [he, if_neg h2']
      rw [he, ho]
      refine H_seq ?_
      refine R0 ?_
      refine xV (e_mv (v := .int _ _) (q0 rfl)) rfl rfl ?_
      refine xV (e_as (v := .slice _ _ _) (q0 rfl)) rfl rfl ?_
      refine xV (e_as (v := .int _ _) (q0 rfl)) rfl rfl ?_
      refine XN ?_
      refine thenJ_normal ?_
      refine H_ret ?_
      refine thenJ_ret ?_
      exact ret2 (v := .slice _ _ _) (x := .int _ _) rfl rfl rfl rfl fun w' hw => ⟨(none, 0), rfl, (mem_nil.2 hw.1).nilRow _ _ _ rfl⟩
    · have h2' : flErr f = 0 := by simpa using h2
      obtain ⟨hbk, -⟩ := flErr_ok h2'
      have hnb := nb_eq h2'
      refine H_skip ?_
      refine thenJ_normal ?_
      refine H_seq ?_
      refine H_seq ?_
      refine R0 ?_
      refine xV (e_mv (v := .int _ _) (q0 rfl)) rfl rfl ?_
      refine xV (e_lt (q0 rfl) (q0 rfl)) rfl rfl ?_
      refine xV (e_mv (v := .bool _) (q0 rfl)) rfl rfl ?_
      refine xVF (e_mv (v := .int _ _) (q0 rfl)) rfl rfl rfl rfl ?_
      refine xVF (e_gt (q1 rfl) (q0 rfl)) rfl rfl rfl rfl ?_
      refine xV (e_or (q0 rfl) rfl (fun h => by first | rfl | (rw [h]; rfl))) rfl rfl ?_
      refine XN ?_
      refine thenJ_normal ?_
      refine H_cond rfl (fun h3 => ?_) (fun h3 => ?_)
      · have he : overErr f si ri now = 1 := by unfold overErr; rw [if_neg (fun h => h h1'), if_neg (fun h => h h2'), if_pos h3]
        have ho : overOf f xs signs si ri now = [] := by unfold overOf; rw [he, if_neg (by decide)]
        rw [he, ho]
        refine H_seq ?_
        refine R0 ?_
        refine xV (e_as (v := .slice _ _ _) (q0 rfl)) rfl rfl ?_
        refine xV (e_as (v := .int _ _) (q0 rfl)) rfl rfl ?_
        refine XN ?_
        refine thenJ_normal ?_
        refine H_ret ?_
        refine thenJ_ret ?_
        exact ret2 (v := .slice _ _ _) (x := .int _ _) rfl rfl rfl rfl fun w' hw => ⟨(none, 0), rfl, (mem_nil.2 hw.1).nilRow _ _ _ rfl⟩
      · have he : overErr f si ri now = 0 := by unfold overErr; rw [if_neg (fun h => h h1'), if_neg (fun h => h h2'), if_neg (by rw [h3]; decide)]
        have ho : overOf f xs signs si ri now = overL (accOf f xs) signs si ri now (stAtT f xs now).spots (nbOf f) := by unfold overOf; rw [if_pos he]
        obtain ⟨_, _, hn0, hnM⟩ := over_ok he
        rw [he, ho]
        obtain ⟨hau, _⟩ := acc_until h2' xs now
        obtain ⟨hrep, _⟩ := replay_of h2' xs (fun _ => ())
        have hspl : (stAtT f xs now).spots.length = nbOf f := (runR_inv (cb := nobCb) (nb_eq h2') _ _ (PInv.begin _)).len
        have hupl : (upTo now (accOf f xs)).length ≤ (accOf f xs).length := by unfold upTo; exact List.length_filter_le _ _
        have hplu : PlOk (upTo now (accOf f xs)) := fun e he => by
          unfold upTo at he
          have h5 := (List.mem_filter.1 he).1
          obtain ⟨t, h6, _, h8⟩ := run_full (f := f) (setOf xs) (beginP (nbOf f)) []
          have h7 : accOf f xs = t := by unfold accOf; rw [if_pos h2', h6]; simp
          rw [h7] at h5
          exact hpl e ((set_isSet xs).mem e |>.1 (h8.subset h5)).1
        generalize hsp0 : (stAtT f xs now).spots = sp at *
        generalize hac0 : accOf f xs = acc at *
        have hbb := begun_bound hrep
        have hbe := begun_eq hrep
        obtain ⟨r11, r12⟩ := r1
        refine H_skip ?_
        refine thenJ_normal ?_
        refine H_seq ?_
        refine R0 ?_
        refine X_eff (f_makeMap rfl fun b15 => ?_)
        refine xV (e_as (v := .map _) (q0 rfl)) rfl rfl ?_
        refine XN ?_
        refine thenJ_normal ?_
        refine H_seq ?_
        refine H_seq ?_
        refine R0 ?_
        refine xV (e_mv (v := .slice _ _ _) (q0 rfl)) rfl rfl ?_
        refine xV (e_len Try.underlying25 (q0 rfl)) rfl rfl ?_
        refine xV (e_mv (v := .int _ _) (q0 rfl)) rfl rfl ?_
        refine XN ?_
        refine thenJ_normal ?_
        refine H_block ?_
        refine H_loop [17, 46, 47, 48, 49, 50, 51, 52, 53, 54, 55, 56, 57, 58] (fun k : Nat => [(46, .int .i64 k)]) (fun k => [imap b15 (rmV ((acc.take k).foldl bmOf [])), evRow r11 r12 acc, box b8 34 (paV si ri), box b5 24 (f.cells a)]) (fun k => k ≤ acc.length) (fun k => acc.length - k) 0 ⟨rfl, trivial⟩ (fun w hw => hw) rfl (Nat.zero_le _) ?_
        rintro k g hk
        refine H_seq ?_
        refine R0 ?_
        refine xV (e_lt (q0 rfl) (q0 rfl)) rfl rfl ?_
        refine XN ?_
        refine thenJ_normal ?_
        refine H_seq ?_
        refine H_cond rfl (fun hlt => ?_) (fun hlt => ?_)
        · have hlt' : k < acc.length := by simpa using hlt
          obtain ⟨e, hek⟩ : ∃ e, acc[k]? = some e := ⟨_, List.getElem?_eq_getElem hlt'⟩
          have hfold : (acc.take (k + 1)).foldl bmOf [] = bmOf ((acc.take k).foldl bmOf []) e := by rw [take_snoc _ _ _ hek, List.foldl_append]; rfl
          refine H_know (fun w hw => rowT_at (j := 1) hw rfl (by omega)) fun ⟨rb, hrb⟩ => ?_
          subst hrb
          refine H_skip ?_
          refine thenJ_normal ?_
          refine H_seq ?_
          refine H_block ?_
          refine H_seq ?_
          refine R0 ?_
          refine xV (e_idx _ Try.underlying25 Try.sizeOf49 (q0 rfl) (q0 rfl) (fun _ => ⟨rfl, by omega⟩)) rfl rfl ?_
          refine xV (eS Try.isAgg49 Try.sizeOf49 (q0 rfl)) rfl rfl ?_
          refine X_alloc Try.zeroValue49 rfl fun b17 => ?_
          refine X_st (v := .agg _) rfl rfl Try.sizeOf49 ?_
          refine XN ?_
          refine thenJ_normal ?_
          refine H_seq ?_
          refine R0 ?_
          refine xV (e_fld Try.underlying49 rfl Try.sizeOf3 rfl (q0 rfl)) rfl rfl ?_
          refine xV (eL Try.isAgg3 (q0 rfl)) rfl rfl ?_
          refine xV (e_eq (q0 rfl) (q0 rfl)) rfl rfl ?_
          refine XN ?_
          refine thenJ_normal ?_
          refine H_cond rfl (fun h3b => ?_) (fun h3b => ?_)
          · have hb3 : bmOf ((acc.take k).foldl bmOf []) e = rput ((acc.take k).foldl bmOf []) e.ride e.at_ := by unfold bmOf; rw [if_pos (by simpa using h3b)]
            refine R0 ?_
            refine xV (e_mv (v := .map _) (q0 rfl)) rfl rfl ?_
            refine xV (e_fld Try.underlying49 rfl Try.sizeOf3 rfl (q0 rfl)) rfl rfl ?_
            refine xV (eL Try.isAgg3 (q0 rfl)) rfl rfl ?_
            refine xV (e_fld Try.underlying49 rfl Try.sizeOf3 rfl (q0 rfl)) rfl rfl ?_
            refine xV (eL Try.isAgg3 (q0 rfl)) rfl rfl ?_
            refine X_eff (f_mapset 1 Try.underlying64 Try.underlying3 rfl rfl rfl rfl ?_)
            refine XN ?_
            refine blockJ_normal ?_
            refine thenJ_normal ?_
            refine R0 ?_
            refine xV (e_add (q0 rfl) (q0 rfl) (fun _ => ⟨rfl, by omega, by omega⟩)) rfl rfl ?_
            refine xV (e_mv (v := .int _ _) (q0 rfl)) rfl rfl ?_
            refine XN ?_
            exact loopJ_normal (k + 1) (by repeat (first | exact agree_self | exact agree_over | refine agree_upd rfl ?_ | refine agree_updL rfl ?_ | refine agree_over2 rfl ?_)) ⟨rfl, trivial⟩ (fun w hw => by show Mem _ [imap b15 (rmV ((acc.take (k + 1)).foldl bmOf [])), _, _, _] w; rw [hfold, hb3, ← rmV_put]; exact hw.tail) rfl (by show k + 1 ≤ _; omega) (by show acc.length - (k + 1) < acc.length - k; omega)
          · have hb3 : bmOf ((acc.take k).foldl bmOf []) e = (acc.take k).foldl bmOf [] := by unfold bmOf; rw [if_neg (by simpa using h3b)]
            refine H_skip ?_
            refine blockJ_normal ?_
            refine thenJ_normal ?_
            refine R0 ?_
            refine xV (e_add (q0 rfl) (q0 rfl) (fun _ => ⟨rfl, by omega, by omega⟩)) rfl rfl ?_
            refine xV (e_mv (v := .int _ _) (q0 rfl)) rfl rfl ?_
            refine XN ?_
            exact loopJ_normal (k + 1) (by repeat (first | exact agree_self | exact agree_over | refine agree_upd rfl ?_ | refine agree_updL rfl ?_ | refine agree_over2 rfl ?_)) ⟨rfl, trivial⟩ (fun w hw => by show Mem _ [imap b15 (rmV ((acc.take (k + 1)).foldl bmOf [])), _, _, _] w; rw [hfold, hb3]; exact hw.tail) rfl (by show k + 1 ≤ _; omega) (by show acc.length - (k + 1) < acc.length - k; omega)
        · have hend : k = acc.length := by simp at hlt; omega
          rw [hend, List.take_length]
          refine H_exit ?_
          refine thenJ_exit ?_
          refine loopJ_exit ?_
          refine blockJ_hit ?_
          refine thenJ_normal ?_
          refine H_seq ?_
          refine R0 ?_
          refine xV (eS Try.isAgg24 Try.sizeOf24 (q0 rfl)) rfl rfl ?_
          refine xV (e_mv (v := .slice _ _ _) (q0 rfl)) rfl rfl ?_
          refine xV (e_mv (v := .slice _ _ _) (q0 rfl)) rfl rfl ?_
          refine xV (e_mv (v := .int _ _) (q0 rfl)) rfl rfl ?_
          refine xCX (en Try.call29 (ha4 (q0 rfl) (q0 rfl) (q0 rfl) (q0 rfl))) (fun w hw => seen_w f a (nbOf f) r11 _ r12 acc sA sn sc signs now w hnb (by omega) (slAt_row hw (j := 1) rfl (fun _ => rfl) (by omega)) (hs.mem hw)) rfl (fun _ => rfl) fun b => ?_
          refine xV (e_as (v := .slice _ _ _) (q0 rfl)) rfl rfl ?_
          refine XN ?_
          refine thenJ_normal ?_
          refine H_seq ?_
          refine RA rfl (by decide +kernel) ?_
          refine aV 0 (by decide +kernel) rfl (eS Try.isAgg24 Try.sizeOf24 (q0 rfl)) rfl ?_
          refine aV 1 (by decide +kernel) rfl (e_mv (v := .slice _ _ _) (q0 rfl)) rfl ?_
          refine aV 2 (by decide +kernel) rfl (e_mv (v := .int _ _) (q0 rfl)) rfl ?_
          refine rdy1 (i := 3) (by decide +kernel) (sub_drop 0) ?_
          refine aL rfl (f_callx (en Try.call33 (ha2 (q0 rfl) (q0 rfl))) (fun w hw => mbefore_w r11 _ r12 acc now w (slAt_row hw (j := 2) rfl (fun _ => rfl) (by omega)) (by omega)) rfl (fun _ => rfl) fun U => ?_)
          refine rdy1 (i := 4) (by decide +kernel) (sub_drop 1) ?_
          refine aL rfl (f_callx (en Try.call32 (ha2 (q0 rfl) (q0 rfl))) (fun w hw => spots_w f a U.1 _ U.2 (upTo now acc) w (hf.mem hw) (slAt_row hw (j := 0) rfl (fun _ => rfl) (by omega)) (by omega) hplu) rfl (fun _ => rfl) fun P => ?_)
          refine aI 1 ?_
          refine aRL (sub_drop 2) ?_
          refine aV 5 (by decide +kernel) rfl (e_mv (q0 rfl)) rfl ?_
          refine aV 6 (by decide +kernel) rfl (e_ext (q0 rfl) rfl) rfl ?_
          refine aV 7 (by decide +kernel) rfl (e_ext (q0 rfl) rfl) rfl ?_
          refine aV 8 (by decide +kernel) rfl (e_as (v := .slice _ _ _) (q0 rfl)) rfl ?_
          refine aV 9 (by decide +kernel) rfl (e_as (v := .int _ _) (q0 rfl)) rfl ?_
          refine aZ (by decide +kernel) (sub_drop 0) ?_
          refine thenJ_normal ?_
          refine H_seq ?_
          refine H_seq ?_
          rw [hau, h2']
          obtain ⟨P1, P2⟩ := P
          refine R0 ?_
          refine xV (e_mv (v := .int _ _) (q0 rfl)) rfl rfl ?_
          refine xV (e_ne (q0 rfl) (q0 rfl)) rfl rfl ?_
          refine XN ?_
          refine thenJ_normal ?_
          refine H_cond rfl (fun h6 => ?_) (fun h6 => ?_)
          · simp at h6
          · refine H_skip ?_
            refine thenJ_normal ?_
            refine H_seq ?_
            refine R0 ?_
            refine xV (e_as (v := .slice _ _ _) (q0 rfl)) rfl rfl ?_
            refine XN ?_
            refine thenJ_normal ?_
            refine H_seq ?_
            refine H_seq ?_
            refine R0 ?_
            refine xV (e_mv (v := .slice _ _ _) (q0 rfl)) rfl rfl ?_
            refine xV (e_len Try.underlying65 (q0 rfl)) rfl rfl ?_
            refine xV (e_mv (v := .int _ _) (q0 rfl)) rfl rfl ?_
            refine XN ?_
            refine thenJ_normal ?_
            refine H_block ?_
            have hO0 : overL acc signs si ri now sp 0 = [] := by unfold overL; rfl
            refine H_loop [20, 21, 22, 77, 78, 79, 80, 81, 82, 83, 84, 85, 86, 87, 88, 89, 90, 91, 92, 93, 94, 95, 96, 97, 98, 99, 100, 101, 102, 103, 104, 105, 106, 107, 108, 109, 110, 111, 112, 113, 114, 115, 116, 117, 118, 119, 120, 121, 122, 123, 124, 125] (fun q : Nat × Option Addr × Nat => [(77, .int .i64 q.1), (20, .slice q.2.1 (overL acc signs si ri now sp q.1).length q.2.2)]) (fun q => [inRow q.2.1 q.2.2 (overL acc signs si ri now sp q.1), spRow P1 P2 sp, inRow (some ⟨b, 0, none⟩) (nbOf f) (seenP (nbOf f) now (notices acc signs)), imap b15 (rmV (acc.foldl bmOf [])), box b8 34 (paV si ri), box b5 24 (f.cells a)]) (fun q => q.1 ≤ sp.length) (fun q => sp.length - q.1) (0, none, 0) ⟨rfl, by show _ = Value.slice none (overL acc signs si ri now sp 0).length 0; rw [hO0]; rfl, trivial⟩ (fun w hw => by show Mem _ (inRow none 0 (overL acc signs si ri now sp 0) :: _) w; rw [hO0]; exact (hw.pick [1, 2, 3, 5, 6] (by decide)).nilRow _ _ _ rfl) rfl (Nat.zero_le _) ?_
            rintro ⟨k, oA, oc⟩ g2 hk2
            simp only at hk2
            refine H_seq ?_
            refine R0 ?_
            refine xV (e_lt (q0 rfl) (q0 rfl)) rfl rfl ?_
            refine XN ?_
            refine thenJ_normal ?_
            refine H_seq ?_
            refine H_cond rfl (fun hlt2 => ?_) (fun hlt2 => ?_)
            · have hlt2' : k < sp.length := by simpa using hlt2
              obtain ⟨x, hxk⟩ : ∃ x, sp[k]? = some x := ⟨_, List.getElem?_eq_getElem hlt2'⟩
              have hg := seenP_get (nb := nbOf f) (b := k) now (notices acc signs) (by omega)
              have hsvb := sv_bound (notices acc signs) k now hn0
              have hbx := hbb x.ride
              have hsn := overL_snoc acc signs si ri now sp k
              rw [spSel hxk] at hsn
              have hll := overL_len acc signs si ri now sp k
              refine H_know (fun w hw => rowT_at (j := 1) hw rfl (by omega)) fun ⟨pb, hpb⟩ => ?_
              subst hpb
              refine H_skip ?_
              refine thenJ_normal ?_
              refine H_seq ?_
              refine H_block ?_
              refine H_seq ?_
              refine R0 ?_
              refine xV (e_mv (v := .int _ _) (q0 rfl)) rfl rfl ?_
              refine xV (e_idx _ Try.underlying65 Try.sizeOf55 (q0 rfl) (q0 rfl) (fun _ => ⟨rfl, by omega⟩)) rfl rfl ?_
              refine xV (eS Try.isAgg55 Try.sizeOf55 (q0 rfl)) rfl rfl ?_
              refine X_alloc Try.zeroValue55 rfl fun b22 => ?_
              refine xV (e_as (v := .int _ _) (q0 rfl)) rfl rfl ?_
              refine X_st (v := .agg _) rfl rfl Try.sizeOf55 ?_
              refine XN ?_
              refine thenJ_normal ?_
              refine H_block ?_
              refine H_seq ?_
              refine R1 rfl (by decide +kernel) ?_
              refine xV (e_fld Try.underlying55 rfl Try.sizeOf3 rfl (q0 rfl)) rfl rfl ?_
              refine xV (eL Try.isAgg3 (q0 rfl)) rfl rfl ?_
              refine xV (e_eq (q0 rfl) (q0 rfl)) rfl rfl ?_
              refine xV (e_mv (v := .bool _) (q0 rfl)) rfl rfl ?_
              refine xVF (e_fld Try.underlying55 rfl Try.sizeOf3 rfl (q0 rfl)) rfl rfl rfl rfl ?_
              refine xVF (eL Try.isAgg3 (q1 rfl)) rfl rfl rfl rfl ?_
              refine xVF (e_eq (q1 rfl) (q0 rfl)) rfl rfl rfl rfl ?_
              refine xV (e_or (q0 rfl) rfl (fun h => by first | rfl | (rw [h]; rfl))) rfl rfl ?_
              refine xV (e_mv (v := .bool _) (q0 rfl)) rfl rfl ?_
              refine xVT (e_mv (v := .int _ _) (q0 rfl)) rfl rfl rfl rfl ?_
              refine xVT (e_mv (v := .slice _ _ _) (q0 rfl)) rfl rfl rfl rfl ?_
              refine xVT (e_mv (v := .int _ _) (q0 rfl)) rfl rfl rfl rfl ?_
              refine xVT (e_idx k Try.underlying22 Try.sizeOf3 (q1 rfl) (q1 rfl) (fun _ => ⟨rfl, by omega⟩)) rfl rfl rfl rfl ?_
              refine xVT (e_ld (v := .int .i64 (sv (notices acc signs) k now)) Try.isAgg3 (q1 rfl) (by exact rr0 3 (k := 1) (enc := encInt) rfl hg rfl)) rfl rfl rfl rfl ?_
              refine xVT (e_sub (q1 rfl) (q1 rfl) (fun _ => ⟨rfl, by omega, by omega⟩)) rfl rfl rfl rfl ?_
              refine xVT (e_fld Try.underlying34 rfl Try.sizeOf3 rfl (q0 rfl)) rfl rfl rfl rfl ?_
              refine xVT (eL Try.isAgg3 (q1 rfl)) rfl rfl rfl rfl ?_
              refine xVT (e_gt (q1 rfl) (q1 rfl)) rfl rfl rfl rfl ?_
              refine xV (e_and (q0 rfl) rfl (fun h => by first | rfl | (rw [h]; rfl))) rfl rfl ?_
              refine xV (e_as (v := .bool _) (q0 rfl)) rfl rfl ?_
              refine XN ?_
              refine thenJ_normal ?_
              refine H_cond rfl (fun hb1 => ?_) (fun hb1 => ?_)
              · rw [if_pos (by unfold lateP; rw [show (parkedS x && decide (si < now - sv (notices acc signs) k now)) = true from hb1]; rfl)] at hsn
                refine R0 ?_
                refine xV (e_mv (v := .slice _ _ _) (q0 rfl)) rfl rfl ?_
                refine xV (e_mv (v := .int _ _) (q0 rfl)) rfl rfl ?_
                refine X_push (k := 1) (i := Try.t3) 1 ((k : Int)) Try.underlying22 (by kernel_rfl) rfl rfl rfl rfl Try.sizeOf3 Try.zeroValue3 rfl rfl rfl rfl rfl rfl ⟨by simp only; omega, by decide⟩ rfl rfl fun PB A1 c1 => ?_
                refine xV (e_as (v := .slice _ _ _) (q0 rfl)) rfl rfl ?_
                refine XN ?_
                refine blockJ_normal ?_
                refine blockJ_normal ?_
                refine thenJ_normal ?_
                refine R0 ?_
                refine xV (e_add (q0 rfl) (q0 rfl) (fun _ => ⟨rfl, by omega, by omega⟩)) rfl rfl ?_
                refine xV (e_mv (v := .int _ _) (q0 rfl)) rfl rfl ?_
                refine XN ?_
                exact loopJ_normal (k + 1, A1, c1) (by repeat (first | exact agree_self | exact agree_over | refine agree_upd rfl ?_ | refine agree_updL rfl ?_ | refine agree_over2 rfl ?_)) ⟨rfl, by show _ = Value.slice A1 (overL acc signs si ri now sp (k + 1)).length c1; rw [hsn]; rfl, trivial⟩ (fun w hw => by show Mem _ (inRow A1 c1 (overL acc signs si ri now sp (k + 1)) :: _) w; rw [hsn]; exact hw.tail) rfl (by show k + 1 ≤ _; omega) (by show sp.length - (k + 1) < sp.length - k; omega)
              · refine H_seq ?_
                refine R0 ?_
                refine xV (e_fld Try.underlying55 rfl Try.sizeOf3 rfl (q0 rfl)) rfl rfl ?_
                refine xV (eL Try.isAgg3 (q0 rfl)) rfl rfl ?_
                refine xV (e_eq (q0 rfl) (q0 rfl)) rfl rfl ?_
                refine xV (e_mv (v := .bool _) (q0 rfl)) rfl rfl ?_
                refine xVT (e_mv (v := .int _ _) (q0 rfl)) rfl rfl rfl rfl ?_
                refine xVT (e_mv (v := .map _) (q0 rfl)) rfl rfl rfl rfl ?_
                refine xVT (e_fld Try.underlying55 rfl Try.sizeOf3 rfl (q0 rfl)) rfl rfl rfl rfl ?_
                refine xVT (eL Try.isAgg3 (q1 rfl)) rfl rfl rfl rfl ?_
                refine xVT (e_lookG Try.underlying64 Try.underlying3 Try.zeroValue3 (q1 rfl) (q1 rfl) (fun w hw => (hw.item (k := 4) rfl : IMap w b15 _)) (fun _ => (rmV_look _ x.ride).trans (by rw [hbe]))) rfl rfl rfl rfl ?_
                refine xVT (e_sub (q1 rfl) (q1 rfl) (fun _ => ⟨rfl, by omega, by omega⟩)) rfl rfl rfl rfl ?_
                refine xVT (e_fld Try.underlying34 rfl Try.sizeOf3 rfl (q0 rfl)) rfl rfl rfl rfl ?_
                refine xVT (eL Try.isAgg3 (q1 rfl)) rfl rfl rfl rfl ?_
                refine xVT (e_gt (q1 rfl) (q1 rfl)) rfl rfl rfl rfl ?_
                refine xV (e_and (q0 rfl) rfl (fun h => by first | rfl | (rw [h]; rfl))) rfl rfl ?_
                refine xV (e_as (v := .bool _) (q0 rfl)) rfl rfl ?_
                refine XN ?_
                refine thenJ_normal ?_
                refine H_cond rfl (fun hb2 => ?_) (fun hb2 => ?_)
                · rw [if_pos (by unfold lateP; rw [show (decide (x.where_ = 3) && decide (ri < now - begunP acc x.ride)) = true from hb2]; simp)] at hsn
                  refine R0 ?_
                  refine xV (e_mv (v := .slice _ _ _) (q0 rfl)) rfl rfl ?_
                  refine xV (e_mv (v := .int _ _) (q0 rfl)) rfl rfl ?_
                  refine X_push (k := 1) (i := Try.t3) 1 ((k : Int)) Try.underlying22 (by kernel_rfl) rfl rfl rfl rfl Try.sizeOf3 Try.zeroValue3 rfl rfl rfl rfl rfl rfl ⟨by simp only; omega, by decide⟩ rfl rfl fun PB A1 c1 => ?_
                  refine xV (e_as (v := .slice _ _ _) (q0 rfl)) rfl rfl ?_
                  refine XN ?_
                  refine blockJ_normal ?_
                  refine blockJ_normal ?_
                  refine thenJ_normal ?_
                  refine R0 ?_
                  refine xV (e_add (q0 rfl) (q0 rfl) (fun _ => ⟨rfl, by omega, by omega⟩)) rfl rfl ?_
                  refine xV (e_mv (v := .int _ _) (q0 rfl)) rfl rfl ?_
                  refine XN ?_
                  exact loopJ_normal (k + 1, A1, c1) (by repeat (first | exact agree_self | exact agree_over | refine agree_upd rfl ?_ | refine agree_updL rfl ?_ | refine agree_over2 rfl ?_)) ⟨rfl, by show _ = Value.slice A1 (overL acc signs si ri now sp (k + 1)).length c1; rw [hsn]; rfl, trivial⟩ (fun w hw => by show Mem _ (inRow A1 c1 (overL acc signs si ri now sp (k + 1)) :: _) w; rw [hsn]; exact hw.tail) rfl (by show k + 1 ≤ _; omega) (by show sp.length - (k + 1) < sp.length - k; omega)
                · rw [if_neg (by unfold lateP; rw [show (parkedS x && decide (si < now - sv (notices acc signs) k now)) = false from hb1, show (decide (x.where_ = 3) && decide (ri < now - begunP acc x.ride)) = false from hb2]; decide), List.append_nil] at hsn
                  refine H_skip ?_
                  refine blockJ_normal ?_
                  refine blockJ_normal ?_
                  refine thenJ_normal ?_
                  refine R0 ?_
                  refine xV (e_add (q0 rfl) (q0 rfl) (fun _ => ⟨rfl, by omega, by omega⟩)) rfl rfl ?_
                  refine xV (e_mv (v := .int _ _) (q0 rfl)) rfl rfl ?_
                  refine XN ?_
                  exact loopJ_normal (k + 1, oA, oc) (by repeat (first | exact agree_self | exact agree_over | refine agree_upd rfl ?_ | refine agree_updL rfl ?_ | refine agree_over2 rfl ?_)) ⟨rfl, by show _ = Value.slice oA (overL acc signs si ri now sp (k + 1)).length oc; rw [hsn]; rfl, trivial⟩ (fun w hw => by show Mem _ (inRow oA oc (overL acc signs si ri now sp (k + 1)) :: _) w; rw [hsn]; exact hw.tail) rfl (by show k + 1 ≤ _; omega) (by show sp.length - (k + 1) < sp.length - k; omega)
            · have hend2 : k = nbOf f := by simp at hlt2; omega
              subst hend2
              refine H_exit ?_
              refine thenJ_exit ?_
              refine loopJ_exit ?_
              refine blockJ_hit ?_
              refine thenJ_normal ?_
              refine H_seq ?_
              refine R0 ?_
              refine xV (e_mv (v := .slice _ _ _) (q0 rfl)) rfl rfl ?_
              refine xV (e_as (v := .slice _ _ _) (q0 rfl)) rfl rfl ?_
              refine xV (e_as (v := .int _ _) (q0 rfl)) rfl rfl ?_
              refine XN ?_
              refine thenJ_normal ?_
              refine H_ret ?_
              exact ret2 (v := .slice _ _ _) (x := .int _ _) rfl rfl rfl rfl fun w' hw => ⟨(oA, oc), rfl, hw.pick [0] (by decide)⟩

end Go.Proofs.Mis
