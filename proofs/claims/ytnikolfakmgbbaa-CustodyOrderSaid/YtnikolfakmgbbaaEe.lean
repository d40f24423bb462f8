/-
  Literals of structs and slices; results that lie in memory; a row of one's own read as a slice.
-/
import Derived.Test.YtnikolfakmgbbaaEd
namespace Go.Proofs.E
open Go Go.RowKit

theorem setAt_length : ∀ (vs : List Value) (cs : List Value) (i : Nat), (setAt cs i vs).length = cs.length
  | [], _, _ => rfl
  | v :: r, cs, i => by simp [setAt, setAt_length r]
theorem zip_fold (off : Nat) : ∀ (vs : List Value) (i : Nat) (cs : Array Value), ((vs.zipIdx i).foldl (fun cs (p : Value × Nat) => cs.setIfInBounds (off + p.2) p.1) cs) = (setAt cs.toList (off + i) vs).toArray
  | [], _, cs => by simp [setAt]
  | v :: r, i, cs => by
    simp only [List.zipIdx_cons, List.foldl_cons]
    rw [zip_fold off r (i + 1) (cs.setIfInBounds (off + i) v)]
    simp [setAt, Nat.add_assoc]

/-- the parts of a literal, each with its value -/
def Parts (f : Fr) : List (Nat × Operand) → List (Nat × Value) → Prop
  | [], [] => True
  | p :: ps, q :: vs => p.1 = q.1 ∧ ev f p.2 = q.2 ∧ Parts f ps vs
  | _, _ => False
theorem Parts.map {f : Fr} : ∀ {ps : List (Nat × Operand)} {vs : List (Nat × Value)}, Parts f ps vs → ps.map (fun p => (p.1, ev f p.2)) = vs
  | [], [], _ => rfl
  | (i, x) :: ps, (j, v) :: vs, ⟨h1, h2, h3⟩ => by
    have := Parts.map h3
    simp only at h1 h2
    simp [h1, h2, this]
theorem pt {f : Fr} {i : Nat} {x : Operand} {v : Value} {ps : List (Nat × Operand)} {vs : List (Nat × Value)} (h : ev f x = v) (hr : Parts f ps vs) : Parts f ((i, x) :: ps) ((i, v) :: vs) := ⟨rfl, h, hr⟩
theorem p0 {f : Fr} : Parts f [] [] := trivial

def bld (pl : List (Nat × Nat)) : List Value → List (Nat × Value) → List Value
  | cs, [] => cs
  | cs, (i, v) :: r => bld pl (setAt cs (pl.getD i (0, 0)).1 v.cells.toList) r
def bldOk (pl : List (Nat × Nat)) (n : Nat) : List (Nat × Value) → Bool
  | [] => true
  | (i, v) :: r => (match pl[i]? with | some (off, size) => Nat.beq v.cells.toList.length size && Nat.ble (off + v.cells.toList.length) n | none => false) && bldOk pl n r
theorem fill_bld (pl : List (Nat × Nat)) (place : Nat → Option (Nat × Nat)) (hp : ∀ i q, pl[i]? = some q → place i = some q) : ∀ (vs : List (Nat × Value)) (cs : Array Value), bldOk pl cs.size vs = true → Instr.fill place cs vs = some (bld pl cs.toList vs).toArray
  | [], cs, _ => by simp [Instr.fill, bld]
  | (i, v) :: r, cs, h => by
    simp only [bldOk, Bool.and_eq_true] at h
    obtain ⟨h1, h2⟩ := h
    cases hq : pl[i]? with
    | none => rw [hq] at h1; cases h1
    | some q =>
      obtain ⟨off, size⟩ := q
      rw [hq] at h1
      simp only [Bool.and_eq_true] at h1
      have e1 : v.cells.size = size := by have := Nat.eq_of_beq_eq_true h1.1; simpa using this
      have e2 : off + v.cells.size ≤ cs.size := by have := Nat.le_of_ble_eq_true h1.2; simpa using this
      have hpi : place i = some (off, size) := hp i _ hq
      have hf : v.cells.zipIdx.foldl (fun cs (p : Value × Nat) => cs.setIfInBounds (off + p.2) p.1) cs = (setAt cs.toList off v.cells.toList).toArray := by
        have := zip_fold off v.cells.toList 0 cs
        rw [Nat.add_zero] at this
        rw [← this, ← Array.foldl_toList]
        simp
      have ih := fill_bld pl place hp r (setAt cs.toList off v.cells.toList).toArray (by simpa [setAt_length] using h2)
      simp only [Instr.fill, hpi]
      rw [if_neg (by simp [e1]; omega), hf, ih]
      simp [bld, List.getD_eq_getElem?_getD, hq]

section
variable {c : Cx} {w0 : World} {L : List Item} {f : Fr} {ty : TypeId}
/-- how the fields of a struct lie -/
def FieldsLie (P : Program) (fs : Array Field) (pl : List (Nat × Nat)) : Prop := ∀ w, ((fs.mapM fun f => Prod.mk f.offset <$> sizeOf f.type) : Sem (Array (Nat × Nat))).run P w = .ok pl.toArray w
theorem e_build {t : TypeId} {fs : Array Field} {pl : List (Nat × Nat)} {parts : List (Nat × Operand)} {vs : List (Nat × Value)} {z : Value} (ht : c.P.underlying t = some (.struct fs)) (hf : FieldsLie c.P fs pl) (hz : ∀ w, (zeroValue t).run c.P w = .ok z w)
    (hp : Parts f parts vs) (hok : bldOk pl z.cells.toList.length vs = true) : EvG true c w0 L f (.build t parts.toArray) ty (.agg (bld pl z.cells.toList vs).toArray) := fun _ _ _ _ _ w _ => by
  have h2 := fill_bld pl (fun i => pl[i]?) (fun _ _ h => h) vs z.cells (by simpa using hok)
  have h3 := hf w
  simp [execOp, Instr.build, hz, run_underlying ht, h3, Result.andThen, hp.map, h2]
end

section
variable {c : Cx} {PQ : PJ} {w0 : World} {L : List Item} {f : Fr} {ops rest : List Oper} {d : Nat} {ty : TypeId} {pos : String} {af : Array Edge}
def rowPl (size : Nat) (len : Nat) : List (Nat × Nat) := (List.range len).map fun i => (i * size, size)
theorem rowPl_at {size len i : Nat} {q : Nat × Nat} (h : (rowPl size len)[i]? = some q) : some (i * size, size) = some q := by
  unfold rowPl at h
  rw [List.getElem?_map] at h
  cases hr : (List.range len)[i]? with
  | none => rw [hr] at h; cases h
  | some y =>
    rw [hr] at h
    have : y = i := by have := List.getElem?_eq_some_iff.1 hr; obtain ⟨_, h5⟩ := this; simpa using h5.symm
    subst this
    exact h
theorem e_buildA {t el : TypeId} {len size : Nat} {parts : List (Nat × Operand)} {vs : List (Nat × Value)} {z : Value} (ht : c.P.underlying t = some (.array len el)) (hs : ∀ w, (sizeOf el).run c.P w = .ok size w) (hz : ∀ w, (zeroValue t).run c.P w = .ok z w)
    (hp : Parts f parts vs) (hok : bldOk (rowPl size len) z.cells.toList.length vs = true) : EvG true c w0 L f (.build t parts.toArray) ty (.agg (bld (rowPl size len) z.cells.toList vs).toArray) := fun _ _ _ _ _ w _ => by
  have h2 := fill_bld (rowPl size len) (fun i => some (i * size, size)) (fun i q h => rowPl_at h) vs z.cells (by simpa using hok)
  simp [execOp, Instr.build, hz, run_underlying ht, hs, Result.andThen, hp.map, h2]
theorem X_slit {t el : TypeId} {len size : Nat} {parts : List (Nat × Operand)} {vs : List (Nat × Value)} {z : Value} (zs : List Value) (ht : c.P.underlying t = some (.slice el)) (hs : ∀ w, (sizeOf el).run c.P w = .ok size w) (hz : ∀ w, (zeroValue el).run c.P w = .ok z w)
    (hlen : (Nat.ble (len * size) 16777216 && !Nat.beq (len * size) 0) = true) (hzr : (Array.range (len * size)).map (z.cells[· % z.cells.size]!) = zs.toArray) (hp : Parts f parts vs) (hok : bldOk (rowPl size len) zs.length vs = true) (hd : Nat.blt d c.N = true)
    (next : ∀ b, XL false c ops rest PQ w0 (box b el (bld (rowPl size len) zs vs) :: L) (upd f d (.slice (some ⟨b, 0, none⟩) len len))) : XL false c ops (⟨some d, .buildSlice t len parts.toArray, ty, pos, af, none⟩ :: rest) PQ w0 L f :=
  HL_eff rfl hd fun w hw => ⟨.slice (some ⟨w.heap.size, 0, none⟩) len len, w.alloc (.cells (bld (rowPl size len) zs vs).toArray el), box w.heap.size el (bld (rowPl size len) zs vs) :: L, by
    rw [Bool.and_eq_true] at hlen
    have h2 : ¬ len * size > 2 ^ 24 := by have := Nat.le_of_ble_eq_true hlen.1; omega
    have h0 : ¬ len * size = 0 := by
      intro h
      rw [h] at hlen
      cases hlen.2
    have h3 := fill_bld (rowPl size len) (fun i => some (i * size, size)) (fun i q h => by
      unfold rowPl at h
      rw [List.getElem?_map] at h
      cases hr : (List.range len)[i]? with
      | none => rw [hr] at h; cases h
      | some y =>
        rw [hr] at h
        have : y = i := by have := List.getElem?_eq_some_iff.1 hr; obtain ⟨_, h5⟩ := this; simpa using h5.symm
        subst this
        exact h) vs zs.toArray (by simpa using hok)
    simp [execOp, Instr.buildSlice, run_underlying ht, hs, hz, h2, h0, hp.map, hzr, h3, newRow, Result.andThen], hw.newBox el _, rfl, next _⟩
end

/-! results in memory -/
theorem resc1 {c : Cx} {fn : Func} {w0 : World} {L : List Item} {f : Fr} (k : Nat) {a n b : Nat} {t tb : TypeId} {cs : List Value} (hr : fn.results = #[.cell a t]) (hv : f a = .pointer (some ⟨b, 0, none⟩)) (ht : ∀ w, (isAgg t).run c.P w = .ok true w) (hs : ∀ w, (sizeOf t).run c.P w = .ok n w)
    (hk : L[k]? = some (box b tb cs)) (hl : cs.length = n) : ResIs c.P c.N fn w0 L f (.agg cs.toArray) := fun w ds ac hw ha => by
  have h1 := ha.get a
  rw [hv, Array.getD_eq_getD_getElem?] at h1
  have := run_loadCellsFrom (P := c.P) (w := w) (b := b) (o := 0) n 0 #[] cs hl (fun j u hu => by simpa using box_cell hw hk hu)
  simp [results, hr, h1, asAddr, loadVar, ht, hs, loadCells, this, Result.andThen]
theorem resc2 {c : Cx} {fn : Func} {w0 : World} {L : List Item} {f : Fr} (k : Nat) {a n b u : Nat} {t tb : TypeId} {cs : List Value} {x : Value} (hr : fn.results = #[.cell a t, .tmp u]) (hv : f a = .pointer (some ⟨b, 0, none⟩)) (hx : f u = x) (ht : ∀ w, (isAgg t).run c.P w = .ok true w) (hs : ∀ w, (sizeOf t).run c.P w = .ok n w)
    (hk : L[k]? = some (box b tb cs)) (hl : cs.length = n) : ResIs c.P c.N fn w0 L f (.tuple #[.agg cs.toArray, x]) := fun w ds ac hw ha => by
  have h1 := ha.get a
  rw [hv, Array.getD_eq_getD_getElem?] at h1
  have h2 := ha.get u
  rw [hx, Array.getD_eq_getD_getElem?] at h2
  have := run_loadCellsFrom (P := c.P) (w := w) (b := b) (o := 0) n 0 #[] cs hl (fun j u hu => by simpa using box_cell hw hk hu)
  simp [results, hr, h1, h2, asAddr, loadVar, ht, hs, loadCells, this, Result.andThen]

/-! a row of one's own, read as a slice -/
theorem flat_get {α : Type} {k : Nat} {enc : α → List Value} (he : ∀ x, (enc x).length = k) : ∀ (xs : List α) (i : Nat) (x : α), xs[i]? = some x → ∀ j u, (enc x)[j]? = some u → (xs.flatMap enc)[i * k + j]? = some u
  | [], i, x, h, _, _, _ => by simp at h
  | y :: ys, 0, x, h, j, u, hu => by
    simp at h; subst h
    have hj : j < (enc y).length := (List.getElem?_eq_some_iff.1 hu).1
    simp only [List.flatMap_cons, Nat.zero_mul, Nat.zero_add]
    rw [List.getElem?_append_left hj]; exact hu
  | y :: ys, i + 1, x, h, j, u, hu => by
    have := flat_get he ys i x (by simpa using h) j u hu
    simp only [List.flatMap_cons]
    rw [List.getElem?_append_right (by rw [he]; simp [Nat.succ_mul]; omega), he, show (i + 1) * k + j - k = i * k + j by simp [Nat.succ_mul]; omega]
    exact this
theorem slAt_box {α : Type} {w0 w : World} {L : List Item} {k b j : Nat} {t : TypeId} {enc : α → List Value} {xs : List α} (hw : Mem w0 L w) (hk : L[j]? = some (box b t (xs.flatMap enc))) (he : ∀ x, (enc x).length = k) (hl : xs.length ≤ 9223372036854775807) : SlAt w k enc (some ⟨b, 0, none⟩) xs.length xs :=
  ⟨rfl, hl, fun _ => ⟨b, 0, rfl, (hw.itemLt hk rfl).2, fun i x hx q u hu => by
    rw [Nat.zero_add]
    exact box_cell hw hk (flat_get he xs i x hx q u hu)⟩⟩

end Go.Proofs.E
