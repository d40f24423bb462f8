/-
  A map with int keys, in memory: it reads as the list of its pairs, in the order in which the keys came. Look-up, store, made.
-/
import Derived.Test.YtnikolfakmgbbaaEc
import Derived.Carry
namespace Go.Proofs.E
open Go Go.RowKit

/-- an entry of the block, as a pair -/
def pairIs (e : MapEntry) (p : Int × Value) : Prop := e.key = .int .i64 p.1 ∧ e.val = p.2
inductive PairsAre : List MapEntry → List (Int × Value) → Prop
  | nil : PairsAre [] []
  | cons {e p es ps} : pairIs e p → PairsAre es ps → PairsAre (e :: es) (p :: ps)

/-- the entries came one behind the other, ahead of the clock -/
structure BornOk (es : List MapEntry) (clock : Nat) : Prop where
  asc : es.Pairwise (fun a b => a.born < b.born)
  lt : ∀ e ∈ es, e.born < clock
def IMap (w : World) (b : Nat) (ps : List (Int × Value)) : Prop := ∃ es clock, w.heap[b]? = some (.map es clock) ∧ PairsAre es.toList ps ∧ BornOk es.toList clock
theorem BornOk.push {es : List MapEntry} {c : Nat} (h : BornOk es c) {e : MapEntry} (he : e.born = c) : BornOk (es ++ [e]) (c + 1) :=
  ⟨List.pairwise_append.2 ⟨h.asc, by simp, fun a ha b hb => by simp at hb; subst hb; rw [he]; exact h.lt a ha⟩, fun a ha => by
    rcases List.mem_append.1 ha with ha | ha
    · have := h.lt a ha; omega
    · simp at ha; subst ha; omega⟩
theorem BornOk.modify {es : List MapEntry} {c j : Nat} {g : MapEntry → MapEntry} (h : BornOk es c) (hg : ∀ e, (g e).born = e.born) : BornOk (es.modify j g) c := by
  have hm : (es.modify j g).map (·.born) = es.map (·.born) := by
    apply List.ext_getElem?
    intro i
    simp only [List.getElem?_map, List.getElem?_modify]
    cases es[i]? with
    | none => rfl
    | some e => by_cases hi : j = i <;> simp [hi, hg]
  constructor
  · have h1 : (es.map (·.born)).Pairwise (· < ·) := List.pairwise_map.2 h.asc
    rw [← hm] at h1
    exact List.pairwise_map.1 h1
  · intro e he
    have : e.born ∈ (es.modify j g).map (·.born) := List.mem_map.2 ⟨e, he, rfl⟩
    rw [hm] at this
    obtain ⟨e', he', e1⟩ := List.mem_map.1 this
    rw [← e1]; exact h.lt e' he'
theorem BornOk.sub {es es' : List MapEntry} {c : Nat} (h : BornOk es c) (hs : es'.Sublist es) : BornOk es' c := ⟨h.asc.sublist hs, fun e he => h.lt e (hs.mem he)⟩

def mlook (ps : List (Int × Value)) (k : Int) : Option Value := (ps.find? (fun p => p.1 == k)).map (·.2)
def hasKey (ps : List (Int × Value)) (k : Int) : Bool := ps.any (fun p => p.1 == k)
def mput (ps : List (Int × Value)) (k : Int) (v : Value) : List (Int × Value) :=
  match ps with
  | [] => [(k, v)]
  | p :: r => if p.1 == k then (k, v) :: r else p :: mput r k v

theorem IMap.kept {w w' : World} {b : Nat} {ps : List (Int × Value)} (h : IMap w b ps) (he : w'.heap[b]? = w.heap[b]?) : IMap w' b ps := by
  obtain ⟨es, c, h1, h2⟩ := h
  exact ⟨es, c, he.trans h1, h2⟩
theorem IMap.lt {w : World} {b : Nat} {ps : List (Int × Value)} (h : IMap w b ps) : b < w.heap.size := by
  obtain ⟨es, c, h1, h2⟩ := h
  exact (Array.getElem?_eq_some_iff.1 h1).1
theorem IMap.alloc {w : World} {b : Nat} {ps : List (Int × Value)} (h : IMap w b ps) (o : Obj) : IMap (w.alloc o) b ps :=
  h.kept (Below.heap_alloc w o b h.lt)
theorem IMap.setCell {w : World} {b : Nat} {ps : List (Int × Value)} (h : IMap w b ps) (p : Addr) (v : Value) : IMap (w.setCell p v) b ps := by
  obtain ⟨es, c, h1, h2⟩ := h
  refine ⟨es, c, ?_, h2⟩
  by_cases e : p.block = b
  · simp [World.setCell, Array.getElem?_modify, e, h1]
  · simp [World.setCell, Array.getElem?_modify, e, h1]
theorem IMap.made (w : World) : IMap (w.alloc (.map #[] 0)) w.heap.size [] := by
  exact ⟨#[], 0, (MapKept.heap_alloc w _).1, .nil, ⟨by simp, by simp⟩⟩

section
variable {P : Program} {t kt et : TypeId}

theorem run_checkKey10000 (hk : P.underlying kt = some (.int .i64)) (e : Bool) (k : Int) (w : World) : (Instr.checkKey e 10000 kt (.int .i64 k)).run P w = .ok () w := by
  rw [show (10000 : Nat) = 9999 + 1 from rfl, Instr.checkKey]
  simp [run_underlying hk]

theorem findNow_pairs (k : Int) : ∀ (es : List MapEntry) (ps : List (Int × Value)) (i : Nat), PairsAre es ps →
    (mlook ps k = none ∧ Instr.findNow (.int .i64) (.int .i64 k) es i = some none) ∨ (∃ j v, mlook ps k = some v ∧ Instr.findNow (.int .i64) (.int .i64 k) es i = some (some (i + j, v)) ∧ j < es.length) := by
  intro es
  induction es with
  | nil => intro ps i h; cases h; exact .inl ⟨rfl, rfl⟩
  | cons e es ih =>
    intro ps i h
    cases h with
    | cons hp hr =>
      rename_i p ps
      obtain ⟨hk, hv⟩ := hp
      by_cases hkk : p.1 = k
      · refine .inr ⟨0, p.2, by simp [mlook, hkk], ?_, by simp⟩
        simp [Instr.findNow, Instr.sameNow, hk, hkk, hv]
      · have hne : (k == p.1) = false := beq_eq_false_iff_ne.2 fun e => hkk e.symm
        rcases ih ps (i + 1) hr with ⟨h1, h2⟩ | ⟨j, v, h1, h2, h3⟩
        · refine .inl ⟨by simpa [mlook, hkk] using h1, ?_⟩
          simp [Instr.findNow, Instr.sameNow, hk, hne, h2]
        · refine .inr ⟨j + 1, v, by simpa [mlook, hkk] using h1, ?_, by simp; omega⟩
          simp [Instr.findNow, Instr.sameNow, hk, hne, h2]
          omega

theorem run_lookup_imap {w : World} {b : Nat} {ps : List (Int × Value)} {z : Value} (ht : P.underlying t = some (.map kt et)) (hk : P.underlying kt = some (.int .i64)) (hz : ∀ w, (zeroValue et).run P w = .ok z w)
    (h : IMap w b ps) (k : Int) : (Instr.lookup t (.map (some b)) (.int .i64 k) false).run P w = .ok ((mlook ps k).getD z) w := by
  obtain ⟨es, c, h1, h2⟩ := h
  rcases findNow_pairs k es.toList ps 0 h2.1 with ⟨ha, hb⟩ | ⟨j, v, ha, hb, _⟩
  · simp [Instr.lookup, run_underlying ht, MapKept.run_getObj_map h1, run_checkKey10000 hk, run_underlying hk, Instr.findKey, hb, ha, hz, Result.andThen]
  · simp [Instr.lookup, run_underlying ht, MapKept.run_getObj_map h1, run_checkKey10000 hk, run_underlying hk, Instr.findKey, hb, ha, Result.andThen]
theorem run_lookup_ok_imap {w : World} {b : Nat} {ps : List (Int × Value)} {z : Value} (ht : P.underlying t = some (.map kt et)) (hk : P.underlying kt = some (.int .i64)) (hz : ∀ w, (zeroValue et).run P w = .ok z w)
    (h : IMap w b ps) (k : Int) : (Instr.lookup t (.map (some b)) (.int .i64 k) true).run P w = .ok (.tuple #[(mlook ps k).getD z, .bool (mlook ps k).isSome]) w := by
  obtain ⟨es, c, h1, h2⟩ := h
  rcases findNow_pairs k es.toList ps 0 h2.1 with ⟨ha, hb⟩ | ⟨j, v, ha, hb, _⟩
  · simp [Instr.lookup, run_underlying ht, MapKept.run_getObj_map h1, run_checkKey10000 hk, run_underlying hk, Instr.findKey, hb, ha, hz, Result.andThen]
  · simp [Instr.lookup, run_underlying ht, MapKept.run_getObj_map h1, run_checkKey10000 hk, run_underlying hk, Instr.findKey, hb, ha, Result.andThen]

theorem pairs_modify (k : Int) (v : Value) : ∀ (es : List MapEntry) (ps : List (Int × Value)) (i : Nat), PairsAre es ps →
    (Instr.findNow (.int .i64) (.int .i64 k) es i = some none ∧ mput ps k v = ps ++ [(k, v)]) ∨
    (∃ j x e, Instr.findNow (.int .i64) (.int .i64 k) es i = some (some (i + j, x)) ∧ es[j]? = some e ∧ e.key = .int .i64 k ∧ PairsAre (es.modify j fun e => { e with key := .int .i64 k, val := v }) (mput ps k v)) := by
  intro es
  induction es with
  | nil => intro ps i h; cases h; exact .inl ⟨rfl, rfl⟩
  | cons e es ih =>
    intro ps i h
    cases h with
    | cons hp hr =>
      rename_i p ps
      obtain ⟨hk, hv⟩ := hp
      by_cases hkk : p.1 = k
      · refine .inr ⟨0, e.val, e, ?_, rfl, by rw [hk, hkk], ?_⟩
        · simp [Instr.findNow, Instr.sameNow, hk, hkk]
        · simp only [mput, hkk, beq_self_eq_true, if_true]
          exact .cons ⟨rfl, rfl⟩ hr
      · have hne : (k == p.1) = false := beq_eq_false_iff_ne.2 fun e => hkk e.symm
        rcases ih ps (i + 1) hr with ⟨h1, h2⟩ | ⟨j, x, e', h1, h2, h3, h4⟩
        · refine .inl ⟨?_, by simp [mput, hkk, h2]⟩
          simp [Instr.findNow, Instr.sameNow, hk, hne, h1]
        · refine .inr ⟨j + 1, x, e', ?_, by simpa using h2, h3, ?_⟩
          · simp [Instr.findNow, Instr.sameNow, hk, hne, h1]
            omega
          · simp only [mput, beq_eq_false_iff_ne.2 hkk, Bool.false_eq_true, if_false, List.modify_succ_cons]
            exact .cons ⟨hk, hv⟩ h4

theorem pairs_push {es : List MapEntry} {ps : List (Int × Value)} (h : PairsAre es ps) {e : MapEntry} {p : Int × Value} (he : pairIs e p) : PairsAre (es ++ [e]) (ps ++ [p]) := by
  induction h with
  | nil => exact .cons he .nil
  | cons h1 _ ih => exact .cons h1 ih

theorem run_update_imap {w : World} {b : Nat} {ps : List (Int × Value)} (ht : P.underlying t = some (.map kt et)) (hk : P.underlying kt = some (.int .i64))
    (h : IMap w b ps) (k : Int) (v : Value) : ∃ w', (Instr.mapUpdate t (.map (some b)) (.int .i64 k) v).run P w = .ok () w' ∧ IMap w' b (mput ps k v) ∧ w.grownBy w' (some b) ∧ w'.heap.size = w.heap.size ∧ w.drawn ≤ w'.drawn := by
  have hlt := h.lt
  obtain ⟨es, c, h1, h2, h3⟩ := h
  have hg : ∀ o : Obj, w.grownBy { w with heap := w.heap.setIfInBounds b o } (some b) := fun o => ⟨rfl, rfl, rfl, by simp, fun i _ hi => by
    have hne : b ≠ i := fun e => hi (by rw [e])
    exact Array.getElem?_setIfInBounds_ne hne⟩
  rcases pairs_modify k v es.toList ps 0 h2 with ⟨ha, hs⟩ | ⟨j, x, e, ha, he, hek, hm⟩
  · refine ⟨{ w with heap := w.heap.setIfInBounds b (.map (es.push { key := .int .i64 k, val := v, born := c }) (c + 1)) }, ?_, ⟨_, _, Array.getElem?_setIfInBounds_self_of_lt hlt, ?_, by simpa using h3.push rfl⟩, hg _, by simp, Nat.le_refl _⟩
    · simp [Instr.mapUpdate, run_underlying ht, MapKept.run_getObj_map h1, run_checkKey10000 hk, run_underlying hk, Instr.findKey, ha, Result.andThen, MapKept.run_setObj_map _ h1]
    · rw [hs]; simpa using pairs_push h2 (e := { key := .int .i64 k, val := v, born := c }) (p := (k, v)) ⟨rfl, rfl⟩
  · rw [Nat.zero_add] at ha
    have hej : es[j]? = some e := by simpa using he
    refine ⟨{ w with heap := w.heap.setIfInBounds b (.map (es.modify j fun e => { e with key := .int .i64 k, val := v }) c) }, ?_, ⟨_, _, Array.getElem?_setIfInBounds_self_of_lt hlt, ?_, by simpa using h3.modify (j := j) (g := fun e => { e with key := .int .i64 k, val := v }) (fun _ => rfl)⟩, hg _, by simp, Nat.le_refl _⟩
    · simp [Instr.mapUpdate, run_underlying ht, MapKept.run_getObj_map h1, run_checkKey10000 hk, run_underlying hk, Instr.findKey, ha, Result.andThen, MapKept.run_setObj_map _ h1, hej, hek, Instr.keyThatStays, Instr.sameBits]
    · simpa using hm

end

/-! ### as an item -/
def imap (b : Nat) (ps : List (Int × Value)) : Item where
  fp := fun x => x = b
  A := fun w => IMap w b ps
  st := fun _ _ h hA => hA.kept (h b rfl)

section
variable {c : Cx} {PQ : PJ} {w0 : World} {L : List Item} {f : Fr} {ops rest : List Oper} {d : Nat} {ty : TypeId} {pos : String} {af : Array Edge} {g : Bool} {x y z : Operand} {t kt et : TypeId}

theorem X_makeMap (hd : Nat.blt d c.N = true) (next : ∀ b, XL false c ops rest PQ w0 (imap b [] :: L) (upd f d (.map (some b)))) :
    XL false c ops (⟨some d, .makeMap t none, ty, pos, af, none⟩ :: rest) PQ w0 L f :=
  HL_eff rfl hd fun w hw => ⟨.map (some w.heap.size), w.alloc (.map #[] 0), imap w.heap.size [] :: L, by simp [execOp, run_makeMap, Result.andThen], hw.new _ (imap w.heap.size []) (fun _ h => h) (IMap.made w), rfl, next _⟩
theorem e_look (k : Nat) {b : Nat} {ps : List (Int × Value)} {key : Int} {v u : Value} (ht : c.P.underlying t = some (.map kt et)) (hkt : c.P.underlying kt = some (.int .i64)) (hz : ∀ w, (zeroValue et).run c.P w = .ok v w) (hx : OpV g f x (.map (some b))) (hy : OpV g f y (.int .i64 key))
    (hk : L[k]? = some (imap b ps)) (hu : g = true → (mlook ps key).getD v = u) : EvG g c w0 L f (.lookup t x y false) ty u := fun e _ _ _ _ w hw => by
  have hA : IMap w b ps := hw.item hk
  simp [execOp, hx e, hy e, run_lookup_imap ht hkt hz hA key, Result.andThen, hu e]
theorem e_lookok (k : Nat) {b : Nat} {ps : List (Int × Value)} {key : Int} {v u : Value} {bb : Bool} (ht : c.P.underlying t = some (.map kt et)) (hkt : c.P.underlying kt = some (.int .i64)) (hz : ∀ w, (zeroValue et).run c.P w = .ok v w) (hx : OpV g f x (.map (some b))) (hy : OpV g f y (.int .i64 key))
    (hk : L[k]? = some (imap b ps)) (hu : g = true → (mlook ps key).getD v = u ∧ (mlook ps key).isSome = bb) : EvG g c w0 L f (.lookup t x y true) ty (.tuple #[u, .bool bb]) := fun e _ _ _ _ w hw => by
  have hA : IMap w b ps := hw.item hk
  simp [execOp, hx e, hy e, run_lookup_ok_imap ht hkt hz hA key, Result.andThen, hu e]
theorem X_mapset (k : Nat) {b : Nat} {ps : List (Int × Value)} {key : Int} {v : Value} (ht : c.P.underlying t = some (.map kt et)) (hkt : c.P.underlying kt = some (.int .i64)) (hx : ev f x = .map (some b)) (hy : ev f y = .int .i64 key) (hz : ev f z = v)
    (hk : L[k]? = some (imap b ps)) (next : XL false c ops rest PQ w0 (L.set k (imap b (mput ps key v))) f) :
    XL false c ops (⟨none, .mapUpdate t x y z, ty, pos, af, none⟩ :: rest) PQ w0 L f :=
  HL_do rfl fun w hw => by
    have hA : IMap w b ps := hw.item hk
    obtain ⟨w', hrun, h1, h2, h3, h4⟩ := run_update_imap (P := c.P) ht hkt hA key v
    refine ⟨w', _, by simp [execOp, hx, hy, hz, hrun, Result.andThen], hw.set (it' := imap b (mput ps key v)) hk (fun _ h => h) h1 ⟨h2.os, h2.tape, h2.output, h3, h4⟩ (fun b' hb' => ?_), marks_set hk rfl, next⟩
    by_cases hlt : b' < w.heap.size
    · exact h2.block b' hlt (fun e => hb' (by injection e))
    · rw [Array.getElem?_eq_none (by omega), Array.getElem?_eq_none (by omega)]
end

end Go.Proofs.E
