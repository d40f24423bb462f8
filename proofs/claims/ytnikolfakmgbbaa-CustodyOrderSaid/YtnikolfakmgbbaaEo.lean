/-
  Rows that the call owns and that grow by append.
-/
import Derived.Test.YtnikolfakmgbbaaEx
import Derived.Laws.AppendOwn
import Derived.Laws.OwnMore
namespace Go.Proofs.E
open Go Go.RowKit

theorem Mem.regrow {w0 w w' : World} {L : List Item} {k : Nat} {it it' : Item} (h : Mem w0 L w) (hk : L[k]? = some it) (hfp : ∀ b, it'.fp b → it.fp b ∨ w.heap.size ≤ b) (hlt : ∀ b, it'.fp b → b < w'.heap.size) (hA : it'.A w')
    (hos : w'.os = w.os ∧ w'.tape = w.tape ∧ w'.output = w.output ∧ w.drawn ≤ w'.drawn) (hsz : w.heap.size ≤ w'.heap.size) (hout : ∀ b, b < w.heap.size → ¬ it.fp b → w'.heap[b]? = w.heap[b]?) : Mem w0 (L.set k it') w' := by
  obtain ⟨h1, h2, h3, h4⟩ := h
  have hmem := List.mem_of_getElem? hk
  refine ⟨⟨⟨hos.1.trans h1.os, hos.2.1.trans h1.tape, hos.2.2.1.trans h1.output, Nat.le_trans h1.size hsz, fun b hb => (hout b (Nat.lt_of_lt_of_le hb h1.size) (fun hf => by have := (h3 it hmem b hf).1; omega)).trans (h1.block b hb)⟩, Nat.le_trans h1.drawn hos.2.2.2⟩, ?_, ?_, ?_⟩
  · intro x hx
    obtain ⟨j, hj⟩ := List.mem_iff_getElem?.1 hx
    rw [List.getElem?_set] at hj
    split at hj
    · split at hj
      · cases hj; exact hA
      · cases hj
    · rename_i hne
      have hxm := List.mem_of_getElem? hj
      refine x.st w w' (fun b hf => hout b (h3 x hxm b hf).2 (fun hg => ?_)) (h2 x hxm)
      rcases Nat.lt_or_gt_of_ne hne with hlt | hlt
      · obtain ⟨p, hp⟩ := List.getElem?_eq_some_iff.1 hk
        obtain ⟨q, hq⟩ := List.getElem?_eq_some_iff.1 hj
        have := List.pairwise_iff_getElem.1 h4 k j p q hlt b (hp ▸ hg)
        exact this (hq ▸ hf)
      · obtain ⟨p, hp⟩ := List.getElem?_eq_some_iff.1 hk
        obtain ⟨q, hq⟩ := List.getElem?_eq_some_iff.1 hj
        have := List.pairwise_iff_getElem.1 h4 j k q p hlt b (hq ▸ hf)
        exact this (hp ▸ hg)
  · intro x hx b hb
    obtain ⟨j, hj⟩ := List.mem_iff_getElem?.1 hx
    rw [List.getElem?_set] at hj
    split at hj
    · split at hj
      · cases hj
        refine ⟨?_, hlt b hb⟩
        rcases hfp b hb with h | h
        · exact (h3 it hmem b h).1
        · have := h1.size; omega
      · cases hj
    · have := h3 x (List.mem_of_getElem? hj) b hb
      exact ⟨this.1, by omega⟩
  · have h5 := h4
    rw [List.pairwise_iff_getElem] at h4 ⊢
    intro i j hi hj hij b hb hg
    simp only [List.length_set] at hi hj
    obtain ⟨p, hp⟩ := List.getElem?_eq_some_iff.1 hk
    simp only [List.getElem_set] at hb hg
    split at hb
    · rename_i e
      subst e
      rw [if_neg (by omega)] at hg
      rcases hfp b hb with h | h
      · exact h4 k j hi hj hij b (hp ▸ h) hg
      · have := (h3 _ (List.getElem_mem hj) b hg).2; omega
    · split at hg
      · rename_i e
        subst e
        rcases hfp b hg with h | h
        · exact h4 i k hi hj hij b hb (hp ▸ h)
        · have := (h3 _ (List.getElem_mem hi) b hb).2; omega
      · exact h4 i j hi hj hij b hb hg

/-- a row of the call's own: the slice '.slice A xs.length c' reads as xs, and nobody else holds its block -/
def rowT {α : Type} (e : TypeId) (k : Nat) (enc : α → List Value) (A : Option Addr) (c : Nat) (xs : List α) : Item where
  fp := fun b => A.map (·.block) = some b
  A := fun w => w.ownsRow 0 e k (.slice A xs.length c) xs.length (xs.flatMap enc)
  st := fun w w' h hA => by
    refine ⟨hA.1, ?_⟩
    rcases hA.2 with h0 | ⟨g, cap, cur, hv, h1, h2, h3⟩
    · exact .inl h0
    · refine .inr ⟨g, cap, cur, hv, h1, ?_, h3⟩
      simp only [Value.slice.injEq] at hv
      rw [h g (by rw [hv.1]; rfl)]
      exact h2

section
variable {α : Type} {e : TypeId} {k : Nat} {enc : α → List Value} {A : Option Addr} {n : Nat} {xs : List α} {w0 w : World} {L : List Item}
theorem flat_len (he : ∀ x, (enc x).length = k) : ∀ xs : List α, (xs.flatMap enc).length = xs.length * k
  | [] => by simp
  | x :: xs => by simp [he x, flat_len he xs, Nat.succ_mul]; omega
theorem flat_inv (he : ∀ x, (enc x).length = k) : ∀ (xs : List α) (j : Nat) (u : Value), (xs.flatMap enc)[j]? = some u → ∃ i x r, xs[i]? = some x ∧ (enc x)[r]? = some u ∧ j = i * k + r
  | [], j, u, h => by simp at h
  | y :: ys, j, u, h => by
    simp only [List.flatMap_cons] at h
    by_cases hj : j < (enc y).length
    · rw [List.getElem?_append_left hj] at h
      exact ⟨0, y, j, rfl, h, by simp⟩
    · rw [List.getElem?_append_right (by omega)] at h
      obtain ⟨i, x, r, h1, h2, h3⟩ := flat_inv he ys _ u h
      rw [he] at h3 hj
      exact ⟨i + 1, x, r, by simpa using h1, h2, by simp [Nat.succ_mul]; omega⟩
theorem Mem.nilRow {c : Nat} (h : Mem w0 L w) (e : TypeId) (k : Nat) (enc : α → List Value) (hc : c = 0) : Mem w0 (rowT e k enc none c ([] : List α) :: L) w := by
  subst hc
  obtain ⟨h1, h2, h3, h4⟩ := h
  refine ⟨h1, ?_, ?_, List.pairwise_cons.2 ⟨fun y _ b (hb : none = some b) => (by cases hb), h4⟩⟩
  · intro x hx
    rcases List.mem_cons.1 hx with rfl | hx
    · exact ⟨by simp, .inl ⟨rfl, rfl⟩⟩
    · exact h2 x hx
  · intro x hx b hb
    rcases List.mem_cons.1 hx with rfl | hx
    · cases hb
    · exact h3 x hx b hb
theorem slAt_row {j c : Nat} (h : Mem w0 L w) (hk : L[j]? = some (rowT e k enc A c xs)) (he : ∀ x, (enc x).length = k) (hl : xs.length ≤ 9223372036854775807) : SlAt w k enc A xs.length xs := by
  have hA : w.ownsRow 0 e k (.slice A xs.length c) xs.length (xs.flatMap enc) := h.item hk
  refine ⟨rfl, hl, fun hn => ?_⟩
  rcases hA.2 with ⟨_, h0⟩ | ⟨g, cap, cur, hv, h1, h2, h3, h4, h5, h6⟩
  · omega
  · simp only [Value.slice.injEq] at hv
    obtain ⟨rfl, _, rfl⟩ := hv
    refine ⟨g, 0, rfl, (Array.getElem?_eq_some_iff.1 h2).1, fun i x hx r u hu => ?_⟩
    have := hA.cells (g := g) rfl (i * k + r) u (flat_get he xs i x hx r u hu)
    rw [add_none rfl] at this
    simpa using this
end

section
variable {α : Type} {e t : TypeId} {k : Nat} {enc : α → List Value} {A B : Option Addr} {xs ys : List α} {c : Cx} {w0 : World} {L : List Item} {f : Fr} {K : List Item → Fr → Prop} {d : Nat} {ty : TypeId} {pos : String} {af : Array Edge} {x y : Operand}
theorem f_append (j : Nat) {cA cB m : Nat} {i : TypeInfo} {z : Value} (ht : c.P.underlying t = some (.slice e)) (hi : c.P.info? e = some i) (hz : i.zero = some z) (hsize : i.size = k) (hzs : z.cells.size = k) (hk0 : Nat.blt 0 k = true)
    (he : ∀ x, (enc x).length = k) (h1 : ∀ x, (enc x).all (·.oneCell') = true) (hx : ev f x = .slice A xs.length cA) (hy : ev f y = .slice B m cB) (hk : L[j]? = some (rowT e k enc A cA xs)) (hr : ∀ w, Mem w0 L w → SlAt w k enc B m ys)
    (hlen : xs.length + ys.length ≤ 1000000 ∧ i.bytes ≤ 100000) (hd : Nat.blt d c.N = true) (next : ∀ A' c', K (L.set j (rowT e k enc A' c' (xs ++ ys))) (upd f d (.slice A' (xs ++ ys).length c'))) :
    Eff c w0 L f ⟨some d, .call { callee := .builtin .append, args := #[x, y], argTypes := #[t, t] }, ty, pos, af, none⟩ K :=
  ⟨rfl, rfl, hd, fun w hw => by
    have hA : w.ownsRow 0 e k (.slice A xs.length cA) xs.length (xs.flatMap enc) := hw.item hk
    have hS := hr w hw
    have hm : ys.length = m := hS.1
    have hk1 : 0 < k := Nat.le_of_ble_eq_true hk0
    have hex : ∀ v' w', (Builtin.append_ #[t, t] ty #[.slice A xs.length cA, .slice B m cB]).run c.P w = .ok v' w' → (execOp (ev f) ⟨some d, .call { callee := .builtin .append, args := #[x, y], argTypes := #[t, t] }, ty, pos, af, none⟩).run c.P w = .ok (.value v') w' := fun v' w' h => by
      simp [execOp, resolve, invoke, builtin, hx, hy, h]
    have key : ∃ v' w', (Builtin.append_ #[t, t] ty #[.slice A xs.length cA, .slice B m cB]).run c.P w = .ok v' w' ∧ w'.ownsRow 0 e k v' (xs.length + m) (xs.flatMap enc ++ ys.flatMap enc) ∧ w.grownBy w' (Value.slice A xs.length cA).ownBlock ∧ w.drawn ≤ w'.drawn ∧ ∀ b, v'.ownBlock = some b → (Value.slice A xs.length cA).ownBlock = some b ∨ w.heap.size ≤ b := by
      have hnl : (ys.flatMap enc).length = m * k := by rw [flat_len he, hm]
      have hby : (xs.length + m) * i.bytes ≤ 140737488355328 := by
        have := Nat.mul_le_mul (show xs.length + m ≤ 1000000 by omega) hlen.2
        omega
      cases B with
      | none =>
        have hm0 : m = 0 := by
          rcases Nat.eq_zero_or_pos m with h | h
          · exact h
          · obtain ⟨b, off, hb, _⟩ := hS.2.2 h; cases hb
        subst hm0
        have hy0 : ys = [] := List.eq_nil_of_length_eq_zero hm
        subst hy0
        refine ⟨.slice A xs.length cA, w, ?_, by simpa using hA, ⟨rfl, rfl, rfl, Nat.le_refl _, fun _ _ _ => rfl⟩, Nat.le_refl _, fun b hb => .inl hb⟩
        rcases hA.2 with ⟨hv, h0⟩ | ⟨g, cap, cur, hv, _, _, hnc, _⟩
        · simp only [Value.slice.injEq] at hv
          obtain ⟨rfl, h6, rfl⟩ := hv
          rw [h0]
          simp [Builtin.append_, run_underlying ht, sizeOf, typeInfo, hi, Builtin.lenOf, Builtin.firstCells]
        · simp only [Value.slice.injEq] at hv
          obtain ⟨rfl, _, rfl⟩ := hv
          simp [Builtin.append_, run_underlying ht, sizeOf, typeInfo, hi, Builtin.lenOf, Builtin.firstCells, hnc, storeCells]
      | some a =>
        have hnews : ∀ j u, (ys.flatMap enc)[j]? = some u → w.cell? (a.add j) = some u := fun j u hu => by
          obtain ⟨q, v, r, hq, hv, rfl⟩ := flat_inv he ys j u hu
          have hq' : q < m := by have := (List.getElem?_eq_some_iff.1 hq).1; omega
          obtain ⟨b, off, hb, _, hc⟩ := hS.2.2 (by omega)
          cases hb
          have := hc q v hq r u hv
          rw [add_none rfl]
          rw [Nat.add_assoc] at this
          exact this
        have hone : ∀ u ∈ ys.flatMap enc, u.oneCell' = true := fun u hu => by
          obtain ⟨v, _, hv⟩ := List.mem_flatMap.1 hu
          exact List.all_eq_true.1 (h1 v) u hv
        obtain ⟨v', w', h2, h3, h4, _⟩ := run_append_own (P := c.P) w 0 t ty e i z k i.bytes ht hi hz hsize rfl hzs hk1 _ xs.length _ hA a m cB (ys.flatMap enc) hnl hnews hone (by simp only [maxLen]; omega) hby (Nat.zero_le _)
        refine ⟨v', w', h2, h3, h4, ?_⟩
        subst hsize
        rcases hA.2 with ⟨hv, h0⟩ | ⟨g, cap, cur, hv, h6, h7, hnc, hcm, hcs, htk⟩
        · simp only [Value.slice.injEq] at hv
          obtain ⟨rfl, h6, rfl⟩ := hv
          rw [h0] at h2
          by_cases hm0 : m = 0
          · subst hm0
            have : (Builtin.append_ #[t, t] ty #[.slice none 0 0, .slice (some a) 0 cB]).run c.P w = .ok (.slice none 0 0) w := by
              simp [Builtin.append_, run_underlying ht, sizeOf, typeInfo, hi, Builtin.lenOf, Builtin.firstCells, loadCells, loadCellsFrom]
            rw [this] at h2
            cases h2
            exact ⟨Nat.le_refl _, fun b hb => by cases hb⟩
          · have := run_append_nil (P := c.P) w t ty e i z ht hi hz a m cB (ys.flatMap enc) hnl hnews (by omega) (by omega) (by have hb := hby; rw [h0] at hb; simp only [Nat.zero_add] at hb; omega)
            rw [this] at h2
            cases h2
            exact ⟨Nat.le_succ _, fun b hb => by
              simp only [Value.ownBlock, Option.some.injEq] at hb
              exact .inr (by omega)⟩
        · simp only [Value.slice.injEq] at hv
          obtain ⟨rfl, _, rfl⟩ := hv
          by_cases hroom : xs.length + m ≤ cA
          · have h8 := run_append_room (P := c.P) w t ty e i ht hi g xs.length cA cur h7 a m cB (ys.flatMap enc) hnl hnews hone hroom (by rw [hnl, hcs, ← Nat.add_mul]; exact Nat.mul_le_mul_right _ hroom)
            rw [h8] at h2
            cases h2
            exact ⟨Nat.le_refl _, fun b hb => .inl hb⟩
          · have := run_append_grow (P := c.P) w t ty e i z ht hi hz ⟨g, 0, none⟩ xs.length cA (xs.flatMap enc) hA.1 (hA.cells (g := g) rfl) a m cB (ys.flatMap enc) hnl hnews (by omega) (by omega) (growslice_fits (by omega) hby)
            rw [this] at h2
            cases h2
            exact ⟨Nat.le_succ _, fun b hb => by
              simp only [Value.ownBlock, Option.some.injEq] at hb
              exact .inr (by omega)⟩
    obtain ⟨v', w', h2, h3, h4, h4d, h5⟩ := key
    rw [hex v' w' h2]
    have hsh : ∃ A' c', v' = .slice A' (xs ++ ys).length c' := by
      rcases h3.2 with ⟨rfl, h0⟩ | ⟨g, cap, cur, rfl, _⟩
      · exact ⟨none, 0, by rw [List.length_append, hm, h0]⟩
      · exact ⟨_, _, by rw [List.length_append, hm]⟩
    obtain ⟨A', c', rfl⟩ := hsh
    have hA' : w'.ownsRow 0 e k (.slice A' (xs ++ ys).length c') (xs ++ ys).length ((xs ++ ys).flatMap enc) := by
      rw [List.flatMap_append]
      have : (xs ++ ys).length = xs.length + m := by rw [List.length_append, hm]
      rw [this] at h3 ⊢
      exact h3
    refine ⟨_, hw.regrow (it' := rowT e k enc A' c' (xs ++ ys)) hk (fun b hb => ?_) (fun b hb => ?_) hA' ⟨h4.os, h4.tape, h4.output, h4d⟩ h4.size (fun b hb hf => h4.block b hb (fun e => hf ?_)), marks_set hk rfl, next A' c'⟩
    · have hb' : (Value.slice A' (xs ++ ys).length c').ownBlock = some b := by
        cases A' with
        | none => cases hb
        | some a => exact hb
      rcases h5 b hb' with h | h
      · left
        cases A with
        | none => cases h
        | some a => exact h
      · exact .inr h
    · have : (Value.slice A' (xs ++ ys).length c').ownBlock = some b := by
        cases A' with
        | none => cases hb
        | some a => exact hb
      exact (hA'.lt b this).2
    · cases A with
      | none => cases e
      | some a => exact e.symm⟩
theorem X_append {PQ : PJ} {ops rest : List Oper} (h : Eff c w0 L f ⟨some d, .call { callee := .builtin .append, args := #[x, y], argTypes := #[t, t] }, ty, pos, af, none⟩ fun L' f' => XL false c ops rest PQ w0 L' f') :
    XL false c ops (⟨some d, .call { callee := .builtin .append, args := #[x, y], argTypes := #[t, t] }, ty, pos, af, none⟩ :: rest) PQ w0 L f := X_eff h
theorem f_slit0 {t el : TypeId} (enc : α → List Value) (ht : c.P.underlying t = some (.slice el)) {size : Nat} (hs : ∀ w, (sizeOf el).run c.P w = .ok size w) (hd : Nat.blt d c.N = true) (next : ∀ A c', K (rowT el size enc A c' ([] : List α) :: L) (upd f d (.slice A 0 c'))) :
    Eff c w0 L f ⟨some d, .buildSlice t 0 #[], ty, pos, af, none⟩ K :=
  ⟨rfl, rfl, hd, fun w hw => by
    have : (execOp (ev f) ⟨some d, .buildSlice t 0 #[], ty, pos, af, none⟩).run c.P w = .ok (.value (.slice (some ⟨w.heap.size, 0, none⟩) 0 0)) (w.alloc (.cells #[] el)) := by
      simp [execOp, Instr.buildSlice, run_underlying ht, hs, Instr.fill, newRow, Result.andThen]
      rw [show Array.range 0 = #[] from Array.ext' (by simp), Array.map_empty]
    rw [this]
    refine ⟨rowT el size enc (some ⟨w.heap.size, 0, none⟩) 0 [] :: L, hw.new _ _ (fun b hb => by cases hb; rfl) ?_, rfl, next _ _⟩
    exact ⟨by simp, .inr ⟨w.heap.size, 0, #[], rfl, Nat.zero_le _, heap_alloc_new w _, Nat.le_refl _, by simp [maxLen], by simp, by simp⟩⟩⟩
theorem f_slit {t el : TypeId} {len size : Nat} {parts : List (Nat × Operand)} {vs : List (Nat × Value)} {z : Value} (zs : List Value) (ht : c.P.underlying t = some (.slice el)) (hs : ∀ w, (sizeOf el).run c.P w = .ok size w) (hz : ∀ w, (zeroValue el).run c.P w = .ok z w)
    (hlen : (Nat.ble (len * size) 16777216 && !Nat.beq (len * size) 0) = true) (hzr : (Array.range (len * size)).map (z.cells[· % z.cells.size]!) = zs.toArray) (hp : Parts f parts vs) (hok : bldOk (rowPl size len) zs.length vs = true) (hd : Nat.blt d c.N = true)
    (next : ∀ b, K (box b el (bld (rowPl size len) zs vs) :: L) (upd f d (.slice (some ⟨b, 0, none⟩) len len))) : Eff c w0 L f ⟨some d, .buildSlice t len parts.toArray, ty, pos, af, none⟩ K :=
  ⟨rfl, rfl, hd, fun w hw => by
    have : (execOp (ev f) ⟨some d, .buildSlice t len parts.toArray, ty, pos, af, none⟩).run c.P w = .ok (.value (.slice (some ⟨w.heap.size, 0, none⟩) len len)) (w.alloc (.cells (bld (rowPl size len) zs vs).toArray el)) := by
      rw [Bool.and_eq_true] at hlen
      have h2 : ¬ len * size > 2 ^ 24 := by have := Nat.le_of_ble_eq_true hlen.1; omega
      have h0 : ¬ len * size = 0 := by
        intro h
        rw [h] at hlen
        cases hlen.2
      have h3 := fill_bld (rowPl size len) (fun i => some (i * size, size)) (fun i q h => by
        unfold rowPl at h
        rw [List.getElem?_map] at h
        cases hr : (List.range len)[i]? with
        | none => rw [hr] at h; cases h
        | some y =>
          rw [hr] at h
          have : y = i := by have := List.getElem?_eq_some_iff.1 hr; obtain ⟨_, h5⟩ := this; simpa using h5.symm
          subst this
          exact h) vs zs.toArray (by simpa using hok)
      simp [execOp, Instr.buildSlice, run_underlying ht, hs, hz, h2, h0, hp.map, hzr, h3, newRow, Result.andThen]
    rw [this]
    exact ⟨_, hw.newBox el _, rfl, next _⟩⟩
end

/-- what holds of the memory may be known ahead -/
theorem H_know {c : Cx} {k : Code} {PQ : PJ} {w0 : World} {L : List Item} {f : Fr} {φ : Prop} (hφ : ∀ w, Mem w0 L w → φ) (h : φ → H c k PQ w0 L f) : H c k PQ w0 L f := fun a w ha hw => h (hφ w hw) a w ha hw
theorem X_know {c : Cx} {ops rest : List Oper} {PQ : PJ} {w0 : World} {L : List Item} {f : Fr} {φ : Prop} (hφ : ∀ w, Mem w0 L w → φ) (h : φ → XL false c ops rest PQ w0 L f) : XL false c ops rest PQ w0 L f := fun a w ha hw => h (hφ w hw) a w ha hw

end Go.Proofs.E
