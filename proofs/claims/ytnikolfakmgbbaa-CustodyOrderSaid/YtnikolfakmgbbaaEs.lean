/-
  One more element; and the library's sort upon a row of one's own.
-/
import Derived.Test.YtnikolfakmgbbaaEp
import Derived.Shelf.SlSortCmp.NoneTotal
namespace Go.Proofs.E
open Go Go.RowKit

section
variable {α : Type} {e t : TypeId} {k : Nat} {enc : α → List Value} {A : Option Addr} {xs : List α} {c : Cx} {w0 : World} {L : List Item} {f : Fr} {PQ : PJ} {ops rest : List Oper} {d1 d2 o1 : Nat} {ty1 ty2 : TypeId} {pos1 pos2 : String} {af1 af2 : Array Edge} {x : Operand}
/-- 'append(out, x)': the slice literal of one element and the append, in one step -/
theorem X_push (j : Nat) (y : α) {cA : Nat} {i : TypeInfo} {z v : Value} (ht : c.P.underlying t = some (.slice e)) (hi : c.P.info? e = some i) (hz : i.zero = some z) (hsize : i.size = k) (hzs : z.cells.size = k) (hk0 : Nat.blt 0 k = true) (hsz : ∀ w, (sizeOf e).run c.P w = .ok k w) (hzv : ∀ w, (zeroValue e).run c.P w = .ok z w) (hk1 : Nat.ble k 10000 = true)
    (hx : ev f x = v) (hv : v.cells.toList = enc y) (ho : f o1 = .slice A xs.length cA) (hne : Nat.beq o1 d1 = false) (hk : L[j]? = some (rowT e k enc A cA xs))
    (hlen : xs.length + 1 ≤ 1000000 ∧ i.bytes ≤ 100000) (hd1 : Nat.blt d1 c.N = true) (hd2 : Nat.blt d2 c.N = true) 
    (next : ∀ B A' c', XL false c ops rest PQ w0 (L.set j (rowT e k enc A' c' (xs ++ [y]))) (upd (upd f d1 (.slice (some ⟨B, 0, none⟩) 1 1)) d2 (.slice A' (xs ++ [y]).length c')))
    (he : ∀ x, (enc x).length = k := by exact fun _ => rfl) (h1 : ∀ x, (enc x).all (·.oneCell') = true := by exact fun _ => rfl) :
    XL false c ops (⟨some d1, .buildSlice t 1 #[(0, x)], ty1, pos1, af1, none⟩ :: ⟨some d2, .call { callee := .builtin .append, args := #[.tmp o1, .tmp d1], argTypes := #[t, t] }, ty2, pos2, af2, none⟩ :: rest) PQ w0 L f := by
  have hk2 : 0 < k := Nat.le_of_ble_eq_true hk0
  have hk3 : k ≤ 10000 := Nat.le_of_ble_eq_true hk1
  refine X_eff ⟨rfl, rfl, hd1, fun w hw => ?_⟩
  have hvs : v.cells.size = k := by rw [← Array.length_toList, hv, he]
  have hrun : (execOp (ev f) ⟨some d1, .buildSlice t 1 #[(0, x)], ty1, pos1, af1, none⟩).run c.P w = .ok (.value (.slice (some ⟨w.heap.size, 0, none⟩) 1 1)) (w.alloc (.cells (enc y).toArray e)) := by
    have h2 : ¬ 16777216 < k := by omega
    have h0 : ¬ k = 0 := by omega
    have hfill : Instr.fill (fun i => some (i * k, k)) ((Array.range (1 * k)).map (z.cells[· % z.cells.size]!)) [(0, v)] = some (enc y).toArray := by
      have h3 := fill_bld (rowPl k 1) (fun i => some (i * k, k)) (fun i q h => rowPl_at h) [(0, v)] ((Array.range (1 * k)).map (z.cells[· % z.cells.size]!)) (by
        simp only [bldOk, rowPl, Array.size_map, Array.size_range]
        simp [hvs])
      rw [h3]
      congr 1
      simp only [bld, rowPl]
      have h4 : (setAt ((Array.range (1 * k)).map (z.cells[· % z.cells.size]!)).toList 0 v.cells.toList) = v.cells.toList := by
        have := setAt_append [] [] v.cells.toList ((Array.range (1 * k)).map (z.cells[· % z.cells.size]!)).toList 0 (by simp [hvs])
        have hl : ∀ (vs C : List Value), vs.length = C.length → setAt C 0 vs = vs := by
          have key : ∀ (vs P C : List Value), vs.length = C.length → setAt (P ++ C) P.length vs = P ++ vs := by
            intro vs
            induction vs with
            | nil => intro P C h; cases C with
              | nil => rfl
              | cons _ _ => simp at h
            | cons v r ih => intro P C h; cases C with
              | nil => simp at h
              | cons a C =>
                simp only [setAt]
                have e1 : (P ++ a :: C).set P.length v = (P ++ [v]) ++ C := by simp
                rw [e1]
                have := ih (P ++ [v]) C (by simpa using h)
                simp only [List.length_append, List.length_cons, List.length_nil] at this
                rw [this]
                simp
          intro vs C h
          have := key vs [] C h
          simpa using this
        exact hl _ _ (by simp [hvs])
      rw [show ((List.map (fun i => (i * k, k)) (List.range 1)).getD 0 (0, 0)).fst = 0 by simp]
      rw [h4, hv]
    simp [execOp, Instr.buildSlice, run_underlying ht, hsz, hzv, h2, h0, hx, newRow, Result.andThen]
    simp at hfill
    rw [hfill]
    simp
  rw [hrun]
  refine ⟨_, hw.newBox e (enc y), rfl, ?_⟩
  have ho' : ev (upd f d1 (.slice (some ⟨w.heap.size, 0, none⟩) 1 1)) (.tmp o1) = .slice A xs.length cA := by
    show upd f d1 _ o1 = _
    simp only [upd, hne, cond_false]
    exact ho
  have hd' : ev (upd f d1 (.slice (some ⟨w.heap.size, 0, none⟩) 1 1)) (.tmp d1) = .slice (some ⟨w.heap.size, 0, none⟩) 1 1 := by
    show upd f d1 _ d1 = _
    simp [upd, Nat.beq_refl]
  refine X_append (f_append (j + 1) (m := 1) (ys := [y]) ht hi hz hsize hzs hk0 he h1 ho' hd' (by simpa using hk) (fun w1 hw1 => ?_) ⟨by simpa using hlen.1, hlen.2⟩ hd2 fun A' c' => ?_)
  · have := slAt_box (enc := enc) (xs := [y]) hw1 (j := 0) (b := w.heap.size) (t := e) (by simp) he (by simp)
    simpa using this
  · refine HL_mem (L' := L.set j (rowT e k enc A' c' (xs ++ [y]))) (fun w1 hw1 => ?_) rfl (next w.heap.size A' c')
    simpa using hw1.tail
end

open Go.Shelf Go.Lib Go.Sort in
theorem sorted_mem {α : Type} [Inhabited α] {e : TypeId} {k : Nat} {enc : α → List Value} {c b j n : Nat} {xs ys : List α} {w0 w : World} {L : List Item} {os : Array Obj} (he : ∀ x, (enc x).length = k) (hw : Mem w0 L w) (hk : L[j]? = some (rowT e k enc (some ⟨b, 0, none⟩) c xs)) (hl : ys.length = xs.length) :
    Mem w0 (L.set j (rowT e k enc (some ⟨b, 0, none⟩) c ys)) (sortWorldK enc k w b 0 n ys.toArray os) := by
  obtain ⟨cs, hc, hr⟩ := rowT_open (hw.item hk)
  obtain ⟨r, hrest⟩ := hr.rest
  have hb : b < w.heap.size := (Array.getElem?_eq_some_iff.1 hc).1
  have hflat : (flatK enc k ys.toArray).toList = ys.flatMap enc := by
    apply List.ext_getElem?
    intro y
    by_cases hy : y < ys.length * k
    · have hk0 : 0 < k := by rcases Nat.eq_zero_or_pos k with h | h; · rw [h] at hy; omega
                             · exact h
      have hyk : y % k < k := Nat.mod_lt _ hk0
      have hyd : y / k < ys.length := Nat.div_lt_of_lt_mul (by rw [Nat.mul_comm]; exact hy)
      have h1 : ys[y / k]? = some ys[y / k] := List.getElem?_eq_getElem hyd
      have h2 : (enc ys[y / k])[y % k]? = some ((enc ys[y / k])[y % k]'(by rw [he]; exact hyk)) := List.getElem?_eq_getElem _
      have h3 := flat_get he _ _ _ h1 _ _ h2
      rw [Nat.mul_comm, Nat.div_add_mod] at h3
      rw [h3]
      have h4 := get_flatK enc k ys.toArray y (by simpa using hy)
      rw [getElem!_pos _ y (by simpa using hy)] at h4
      rw [Array.getElem?_toList, Array.getElem?_eq_getElem (by simpa using hy), h4]
      congr 1
      rw [getElem!_pos ys.toArray (y / k) (by simpa using hyd)]
      simp only [List.getElem_toArray]
      rw [getElem!_pos _ (y % k) (by rw [he]; exact hyk)]
    · rw [List.getElem?_eq_none (by simp; omega), List.getElem?_eq_none (by rw [flat_len he]; omega)]
  have hput : (putRowK enc k (Go.Sort.ahead w n) b 0 ys.toArray).heap[b]? = some (.cells (ys.flatMap enc ++ r).toArray e (0, 0)) := by
    show (w.heap.modify b _)[b]? = _
    rw [Array.getElem?_modify, if_pos rfl, hc]
    simp only [Option.map_some, onCells, Option.some.injEq, Obj.cells.injEq, and_true]
    apply Array.ext'
    apply List.ext_getElem?
    intro y
    simp only [putCells, Array.toList_mapIdx, List.getElem?_mapIdx, size_flatK, List.size_toArray, Nat.zero_le, true_and, Nat.zero_add, Nat.sub_zero]
    by_cases hy : y < ys.length * k
    · have hy2 : y < cs.length := by
        rw [hr.size]
        have := hr.len
        have h2 : ys.length * k ≤ c * k := Nat.mul_le_mul_right _ (by omega)
        omega
      rw [List.getElem?_eq_getElem hy2]
      simp only [Option.map_some, hy, if_true, id]
      have h4 : (ys.flatMap enc)[y]? = some (flatK enc k ys.toArray)[y]! := by
        rw [← hflat, Array.getElem?_toList, getElem!_pos _ y (by simpa using hy)]
        exact Array.getElem?_eq_getElem _
      rw [List.getElem?_append_left (by rw [flat_len he]; exact hy), h4]
    · simp only [hy, if_false, Option.map_id', id]
      rw [hrest, List.getElem?_append_right (by rw [flat_len he, ← hl]; omega), List.getElem?_append_right (by rw [flat_len he]; omega), flat_len he, flat_len he, hl]
  have hsz : (putRowK enc k (Go.Sort.ahead w n) b 0 ys.toArray).heap.size = w.heap.size := by simp [putRowK, Go.Sort.ahead]
  refine hw.regrow hk (fun b hb => .inl hb) (fun b' hb' => ?_) (rowT_close he (cs := ys.flatMap enc ++ r) ?_ ⟨by rw [hl]; exact hr.len, hr.max, ?_, r, rfl⟩) ⟨rfl, rfl, rfl, ?_⟩ ?_ (fun b' hb' hf => ?_)
  · cases hb'
    show b < ((putRowK enc k (Go.Sort.ahead w n) b 0 ys.toArray).heap ++ os).size
    rw [Array.size_append, hsz]; omega
  · show ((putRowK enc k (Go.Sort.ahead w n) b 0 ys.toArray).heap ++ os)[b]? = _
    rw [Array.getElem?_append_left (by rw [hsz]; exact hb)]
    exact hput
  · have := hr.size
    rw [hrest] at this
    simp only [List.length_append, flat_len he, hl] at this ⊢
    exact this
  · exact Nat.le_add_right _ _
  · show w.heap.size ≤ ((putRowK enc k (Go.Sort.ahead w n) b 0 ys.toArray).heap ++ os).size
    rw [Array.size_append, hsz]; omega
  · show ((putRowK enc k (Go.Sort.ahead w n) b 0 ys.toArray).heap ++ os)[b']? = _
    rw [Array.getElem?_append_left (by rw [hsz]; exact hb')]
    show (w.heap.modify b _)[b']? = _
    rw [Array.getElem?_modify, if_neg (fun h => hf (by rw [h]; rfl))]

open Go.Shelf Go.Lib Go.Sort in
theorem holdsK_row {α : Type} [Inhabited α] {e : TypeId} {k : Nat} {enc : α → List Value} {c b j : Nat} {xs : List α} {w0 w : World} {L : List Item} (he : ∀ x, (enc x).length = k) (hw : Mem w0 L w) (hk : L[j]? = some (rowT e k enc (some ⟨b, 0, none⟩) c xs)) : HoldsK enc k w b 0 xs.toArray := by
  intro t ht
  rw [size_flatK] at ht
  simp only [List.size_toArray] at ht
  have hk0 : 0 < k := by rcases Nat.eq_zero_or_pos k with h | h; · rw [h] at ht; omega
                         · exact h
  have htk : t % k < k := Nat.mod_lt _ hk0
  have htd : t / k < xs.length := Nat.div_lt_of_lt_mul (by rw [Nat.mul_comm]; exact ht)
  rw [get_flatK enc k xs.toArray t (by simpa using ht), Nat.zero_add]
  have h1 : xs[t / k]? = some xs[t / k] := List.getElem?_eq_getElem htd
  have h2 : (enc xs[t / k])[t % k]? = some ((enc xs[t / k])[t % k]'(by rw [he]; exact htk)) := List.getElem?_eq_getElem _
  have h3 := row_cell he hw hk h1 h2
  rw [Nat.mul_comm, Nat.div_add_mod] at h3
  refine ⟨?_, ?_⟩
  · rw [h3, getElem!_pos xs.toArray (t / k) (by simpa using htd)]
    simp only [List.getElem_toArray, id]
    rw [getElem!_pos _ (t % k) (by rw [he]; exact htk)]
  · obtain ⟨cs, hc, _⟩ := rowT_open (hw.item hk)
    simp [World.frozen?, hc]

/-- a world that has only grown -/
theorem Bel.grew {w w' : World} (h : Bel w w') : ∃ q os', w' = Go.Sort.grow (w.drewN q) os' := by
  refine ⟨w'.drawn - w.drawn, w'.heap.extract w.heap.size w'.heap.size, ?_⟩
  have hh : w'.heap = w.heap ++ w'.heap.extract w.heap.size w'.heap.size := by
    apply Array.ext_getElem?
    intro i
    by_cases hi : i < w.heap.size
    · rw [Array.getElem?_append_left hi]; exact h.block i hi
    · rw [Array.getElem?_append_right (by omega), Array.getElem?_extract]
      by_cases h2 : i < w'.heap.size
      · rw [if_pos (by omega)]; congr 1; omega
      · rw [if_neg (by omega), Array.getElem?_eq_none (by omega)]
  have h1 := h.os
  have h2 := h.tape
  have h3 := h.output
  have h4 := h.drawn
  cases w; cases w'
  simp only [World.drewN, Go.Sort.grow] at *
  subst h1 h2 h3
  congr 1
  omega

end Go.Proofs.E
