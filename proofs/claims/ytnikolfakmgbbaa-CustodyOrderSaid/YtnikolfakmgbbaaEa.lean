/-
  A small logic of our own over the model: frames as functions; memory as a list of owned items; what a piece of code does.
-/
import Derived.Sort.QuietThIn
import Derived.TacticsIn
import Derived.Below
import Derived.Laws.AppendOwn
import Derived.RangeFuncLeaves
import Derived.MapKept
namespace Go.Proofs.E
open Go Go.RowKit

/-! ### frames -/
abbrev Fr := Nat → Value
def upd (f : Fr) (i : Nat) (v : Value) : Fr := fun j => bif Nat.beq j i then v else f j
def ev (f : Fr) : Operand → Value
  | .tmp t => f t
  | .const v => v
  | .global g => .pointer (some ⟨g, 0, none⟩)
  | .func g => .func (.func g) #[] #[]

structure IsFr (N : Nat) (ds : List Deferred) (a : Act) (f : Fr) : Prop where
  size : a.tmps.size = N
  get : ∀ i, a.tmps.getD i undef = f i
  defers : a.defers = ds

theorem IsFr.eval {N : Nat} {ds : List Deferred} {a : Act} {f : Fr} (h : IsFr N ds a f) : a.eval = ev f := by
  funext x
  cases x with
  | tmp t => exact h.get t
  | const v => rfl
  | global g => rfl
  | func g => rfl

theorem IsFr.put {N : Nat} {ds : List Deferred} {a : Act} {f : Fr} (h : IsFr N ds a f) {d : Nat} (hd : Nat.blt d N = true) (v : Value) : IsFr N ds (a.put (some d) v) (upd f d v) := by
  have hlt : d < a.tmps.size := by rw [h.size]; simpa using hd
  refine ⟨by simp [Act.put, h.size], fun i => ?_, h.defers⟩
  unfold upd
  by_cases hi : i = d
  · subst hi
    simp [Act.put, hlt]
  · have h1 : Nat.beq i d = false := by
      cases hb : Nat.beq i d with
      | false => rfl
      | true => exact absurd (Nat.eq_of_beq_eq_true hb) hi
    have h2 := h.get i
    simp only [Act.put, h1, cond_false]
    rw [← h2]
    simp only [Array.getD_eq_getD_getElem?]
    rw [Array.getElem?_setIfInBounds_ne (Ne.symm hi)]
theorem IsFr.put_none {N : Nat} {ds : List Deferred} {a : Act} {f : Fr} (h : IsFr N ds a f) (v : Value) : IsFr N ds (a.put none v) f := h

/-- the Bool that a guard looks at -/
def isB (v : Value) (b : Bool) : Bool := match v with | .bool x => x == b | _ => false
def gd (f : Fr) : Option (Nat × Bool) → List (Option Nat) → Bool
  | none, _ => true
  | some (j, b), dsts => match dsts[j]? with | some (some d) => isB (f d) b | _ => false

theorem wanted_fr {N : Nat} {ds : List Deferred} {a : Act} {f : Fr} (h : IsFr N ds a f) (o : Oper) (ops : List Oper) : Region.wanted o (yielded ops.toArray a.tmps) = gd f o.guard (ops.map (·.dst)) := by
  unfold Region.wanted gd
  cases hg : o.guard with
  | none => rfl
  | some p =>
    obtain ⟨j, b⟩ := p
    simp only [yielded, List.getElem?_toArray, List.getElem?_map]
    cases hj : ops[j]? with
    | none => simp
    | some oj =>
      simp only [Option.bind_some, Option.map_some]
      cases hd : oj.dst with
      | none => simp
      | some d =>
        simp only [Option.bind_some]
        have h2 := h.get d
        rw [Array.getD_eq_getD_getElem?] at h2
        cases ht : a.tmps[d]? with
        | none =>
          rw [ht] at h2
          simp only [Option.getD_none] at h2
          rw [← h2]
          simp [isB, undef]
        | some v =>
          rw [ht] at h2
          simp only [Option.getD_some] at h2
          rw [← h2]
          cases v <;> simp [isB]

/-! ### memory -/
structure Item where
  fp : Nat → Prop
  A : World → Prop
  st : ∀ w w', (∀ b, fp b → w'.heap[b]? = w.heap[b]?) → A w → A w'
  due : List Deferred := []

/-- what the items leave to be done when the function ends -/
def marks (L : List Item) : List Deferred := L.flatMap (·.due)
theorem marks_cons (it : Item) (L : List Item) : marks (it :: L) = it.due ++ marks L := by simp [marks]
theorem marks_append (L L' : List Item) : marks (L ++ L') = marks L ++ marks L' := by simp [marks]
theorem marks_set : ∀ {L : List Item} {k : Nat} {it it' : Item}, L[k]? = some it → it'.due = it.due → marks (L.set k it') = marks L
  | [], _, _, _, h, _ => by simp at h
  | x :: L, 0, it, it', h, e => by simp at h; subst h; simp [marks, e]
  | x :: L, k + 1, it, it', h, e => by
    have := marks_set (L := L) (k := k) (it := it) (it' := it') (by simpa using h) e
    simp only [List.set_cons_succ, marks_cons, this]

/-- blocks that were there are as they were; draws only go on -/
structure Bel (w w' : World) : Prop extends Below w.heap.size w w' where
  drawn : w.drawn ≤ w'.drawn
theorem Bel.refl (w : World) : Bel w w := ⟨Below.refl _ _, Nat.le_refl _⟩
theorem Bel.trans {a b c : World} (h : Bel a b) (k : Bel b c) : Bel a c := ⟨h.toBelow.trans (k.toBelow.mono h.size), Nat.le_trans h.drawn k.drawn⟩
theorem Bel.alloc (w : World) (o : Obj) : Bel w (w.alloc o) := ⟨(Below.refl _ _).alloc (Nat.le_refl _) _, Nat.le_refl _⟩

def Mem (w0 : World) (L : List Item) (w : World) : Prop :=
  Bel w0 w ∧ (∀ it ∈ L, it.A w) ∧ (∀ it ∈ L, ∀ b, it.fp b → w0.heap.size ≤ b ∧ b < w.heap.size) ∧ L.Pairwise (fun x y => ∀ b, x.fp b → ¬ y.fp b)

theorem Mem.below {w0 w : World} {L : List Item} (h : Mem w0 L w) : Bel w0 w := h.1
theorem Mem.start (w : World) : Mem w [] w := ⟨Bel.refl _, by simp, by simp, .nil⟩
theorem mem_nil {w0 w : World} : Mem w0 [] w ↔ Bel w0 w := ⟨fun h => h.1, fun h => ⟨h, by simp, by simp, .nil⟩⟩

/-- what leaves all blocks alone, but for draws and new blocks -/
theorem Mem.call {w0 w w' : World} {L : List Item} (h : Mem w0 L w) (hb : Bel w w') : Mem w0 L w' := by
  obtain ⟨h1, h2, h3, h4⟩ := h
  refine ⟨h1.trans hb, fun it hi => it.st w w' (fun b hf => hb.block b (h3 it hi b hf).2) (h2 it hi), fun it hi b hf => ⟨(h3 it hi b hf).1, Nat.lt_of_lt_of_le (h3 it hi b hf).2 hb.size⟩, h4⟩

/-- a call that hands back items of its own -/
theorem Mem.callNew {w0 w w' : World} {L L' : List Item} (h : Mem w0 L w) (hc : Mem w L' w') : Mem w0 (L' ++ L) w' := by
  have h' := h.call hc.1
  obtain ⟨h1, h2, h3, h4⟩ := h'
  obtain ⟨c1, c2, c3, c4⟩ := hc
  refine ⟨h1, ?_, ?_, ?_⟩
  · intro it hi
    rcases List.mem_append.1 hi with hi | hi
    · exact c2 it hi
    · exact h2 it hi
  · intro it hi b hf
    rcases List.mem_append.1 hi with hi | hi
    · exact ⟨Nat.le_trans h.1.size (c3 it hi b hf).1, (c3 it hi b hf).2⟩
    · exact h3 it hi b hf
  · refine List.pairwise_append.2 ⟨c4, h4, fun x hx y hy b hf hg => ?_⟩
    have e1 := (c3 x hx b hf).1
    have e2 := (h.2.2.1 y hy b hg).2
    omega

/-- a new block -/
theorem Mem.new {w0 w : World} {L : List Item} (h : Mem w0 L w) (o : Obj) (it : Item) (hf : ∀ b, it.fp b → b = w.heap.size) (hA : it.A (w.alloc o)) : Mem w0 (it :: L) (w.alloc o) := by
  have hb : Bel w (w.alloc o) := Bel.alloc w o
  have h' := h.call hb
  obtain ⟨h1, h2, h3, h4⟩ := h'
  refine ⟨h1, ?_, ?_, ?_⟩
  · intro x hx
    rcases List.mem_cons.1 hx with rfl | hx
    · exact hA
    · exact h2 x hx
  · intro x hx b hb
    rcases List.mem_cons.1 hx with rfl | hx
    · have := hf b hb; subst this; exact ⟨h.1.size, by simp⟩
    · exact h3 x hx b hb
  · refine List.pairwise_cons.2 ⟨fun y hy b hb hg => ?_, h4⟩
    have e := hf b hb
    have := (h.2.2.1 y hy b hg).2
    omega

/-- item k is turned into another of the same footprint; nothing else is touched -/
theorem Mem.set {w0 w w' : World} {L : List Item} {k : Nat} {it it' : Item} (h : Mem w0 L w) (hk : L[k]? = some it) (hfp : ∀ b, it'.fp b → it.fp b) (hA : it'.A w')
    (hos : w'.os = w.os ∧ w'.tape = w.tape ∧ w'.output = w.output ∧ w'.heap.size = w.heap.size ∧ w.drawn ≤ w'.drawn) (hout : ∀ b, ¬ it.fp b → w'.heap[b]? = w.heap[b]?) : Mem w0 (L.set k it') w' := by
  obtain ⟨h1, h2, h3, h4⟩ := h
  have hmem := List.mem_of_getElem? hk
  refine ⟨⟨⟨hos.1.trans h1.os, hos.2.1.trans h1.tape, hos.2.2.1.trans h1.output, by rw [hos.2.2.2.1]; exact h1.size, fun b hb => (hout b (fun hf => by have := (h3 it hmem b hf).1; omega)).trans (h1.block b hb)⟩, Nat.le_trans h1.drawn hos.2.2.2.2⟩, ?_, ?_, ?_⟩
  · intro x hx
    obtain ⟨j, hj⟩ := List.mem_iff_getElem?.1 hx
    rw [List.getElem?_set] at hj
    split at hj
    · split at hj
      · cases hj; exact hA
      · cases hj
    · rename_i hne
      have hxm := List.mem_of_getElem? hj
      refine x.st w w' (fun b hf => hout b (fun hg => ?_)) (h2 x hxm)
      rcases Nat.lt_or_gt_of_ne hne with hlt | hlt
      · obtain ⟨p, hp⟩ := List.getElem?_eq_some_iff.1 hk
        obtain ⟨q, hq⟩ := List.getElem?_eq_some_iff.1 hj
        have := List.pairwise_iff_getElem.1 h4 k j p q hlt b (hp ▸ hg)
        exact this (hq ▸ hf)
      · obtain ⟨p, hp⟩ := List.getElem?_eq_some_iff.1 hk
        obtain ⟨q, hq⟩ := List.getElem?_eq_some_iff.1 hj
        have := List.pairwise_iff_getElem.1 h4 j k q p hlt b (hq ▸ hf)
        exact this (hp ▸ hg)
  · intro x hx b hb
    rw [hos.2.2.2.1]
    obtain ⟨j, hj⟩ := List.mem_iff_getElem?.1 hx
    rw [List.getElem?_set] at hj
    split at hj
    · split at hj
      · cases hj; exact h3 it hmem b (hfp b hb)
      · cases hj
    · exact h3 x (List.mem_of_getElem? hj) b hb
  · rw [List.pairwise_iff_getElem] at h4 ⊢
    intro i j hi hj hij b hb hg
    simp only [List.length_set] at hi hj
    obtain ⟨p, hp⟩ := List.getElem?_eq_some_iff.1 hk
    simp only [List.getElem_set] at hb hg
    split at hb
    · rename_i e
      subst e
      rw [if_neg (by omega)] at hg
      exact h4 k j hi hj hij b (hp ▸ hfp b hb) hg
    · split at hg
      · rename_i e
        subst e
        exact h4 i k hi hj hij b hb (hp ▸ hfp b hg)
      · exact h4 i j hi hj hij b hb hg

/-- some of the items, in another order -/
theorem Mem.pick {w0 w : World} {L : List Item} (h : Mem w0 L w) (idx : List Nat) (hn : idx.Nodup) : Mem w0 (idx.filterMap (L[·]?)) w := by
  obtain ⟨h1, h2, h3, h4⟩ := h
  have hsub : ∀ x ∈ idx.filterMap (L[·]?), x ∈ L := fun x hx => by
    obtain ⟨i, _, hi⟩ := List.mem_filterMap.1 hx
    exact List.mem_of_getElem? hi
  refine ⟨h1, fun x hx => h2 x (hsub x hx), fun x hx => h3 x (hsub x hx), ?_⟩
  have hne2 : ∀ a b (ha : a < idx.length) (hb : b < idx.length), a < b → idx[a] ≠ idx[b] := List.pairwise_iff_getElem.1 hn
  refine List.pairwise_filterMap.2 (List.pairwise_iff_getElem.2 fun a b' ha hb' hab => ?_)
  have hne := hne2 a b' ha hb' hab
  revert hne
  generalize idx[a] = i
  generalize idx[b'] = j
  intro hne x hx y hy b hb hg
  obtain ⟨p, hp⟩ := List.getElem?_eq_some_iff.1 hx
  obtain ⟨q, hq⟩ := List.getElem?_eq_some_iff.1 hy
  rw [List.pairwise_iff_getElem] at h4
  rcases Nat.lt_or_gt_of_ne hne with hlt | hlt
  · exact h4 i j p q hlt b (hp ▸ hb) (hq ▸ hg)
  · exact h4 j i q p hlt b (hq ▸ hg) (hp ▸ hb)

theorem Mem.item {w0 w : World} {L : List Item} (h : Mem w0 L w) {k : Nat} {it : Item} (hk : L[k]? = some it) : it.A w := h.2.1 it (List.mem_of_getElem? hk)
theorem Mem.itemLt {w0 w : World} {L : List Item} (h : Mem w0 L w) {k : Nat} {it : Item} (hk : L[k]? = some it) {b : Nat} (hb : it.fp b) : w0.heap.size ≤ b ∧ b < w.heap.size := h.2.2.1 it (List.mem_of_getElem? hk) b hb

/-! ### two kinds of items -/
/-- block b is just these cells -/
def box (b : Nat) (t : TypeId) (cs : List Value) : Item where
  fp := fun x => x = b
  A := fun w => w.heap[b]? = some (.cells cs.toArray t (0, 0))
  st := fun _ _ h hA => (h b rfl).trans hA

/-- a fact that speaks of old memory, and of no block -/
def fact (p : Prop) : Item where
  fp := fun _ => False
  A := fun _ => p
  st := fun _ _ _ h => h

theorem Mem.newBox {w0 w : World} {L : List Item} (h : Mem w0 L w) (t : TypeId) (cs : List Value) : Mem w0 (box w.heap.size t cs :: L) (w.alloc (.cells cs.toArray t)) :=
  h.new _ _ (fun _ h => h) (heap_alloc_new w _)

theorem box_cell {w0 w : World} {L : List Item} (h : Mem w0 L w) {k b : Nat} {t : TypeId} {cs : List Value} (hk : L[k]? = some (box b t cs)) {i : Nat} {v : Value} (hi : cs[i]? = some v) : w.cell? ⟨b, i, none⟩ = some v := by
  have hA : w.heap[b]? = some (.cells cs.toArray t (0, 0)) := h.item hk
  simp [World.cell?, hA, hi]
theorem box_free {w0 w : World} {L : List Item} (h : Mem w0 L w) {k b : Nat} {t : TypeId} {cs : List Value} (hk : L[k]? = some (box b t cs)) (i : Nat) : w.frozen? ⟨b, i, none⟩ = false := by
  have hA : w.heap[b]? = some (.cells cs.toArray t (0, 0)) := h.item hk
  simp [World.frozen?, hA]
theorem box_set {w0 w : World} {L : List Item} (h : Mem w0 L w) {k b : Nat} {t : TypeId} {cs : List Value} (hk : L[k]? = some (box b t cs)) (i : Nat) (v : Value) :
    Mem w0 (L.set k (box b t (cs.set i v))) (w.setCell ⟨b, i, none⟩ v) := by
  have hA : w.heap[b]? = some (.cells cs.toArray t (0, 0)) := h.item hk
  refine h.set hk (fun _ h => h) ?_ ⟨rfl, rfl, rfl, by simp [World.setCell], Nat.le_refl _⟩ (fun b' hb' => ?_)
  · show (w.setCell ⟨b, i, none⟩ v).heap[b]? = _
    simp [World.setCell, Array.getElem?_modify, hA]
  · have hne : b ≠ b' := fun e => hb' e.symm
    simp [World.setCell, Array.getElem?_modify, hne]

end Go.Proofs.E
