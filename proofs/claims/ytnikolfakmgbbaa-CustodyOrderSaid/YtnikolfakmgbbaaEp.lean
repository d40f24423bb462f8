/-
  Rows that the call owns: read, stored into, cut, cleared, made; calls that turn what the caller holds.
-/
import Derived.Test.YtnikolfakmgbbaaEz
import Derived.Laws.MakeOwn
namespace Go.Proofs.E
open Go Go.RowKit

theorem Mem.swap {w0 w : World} {L : List Item} {j : Nat} {it it' : Item} (h : Mem w0 L w) (hk : L[j]? = some it) (hfp : ∀ b, it'.fp b → it.fp b) (hA : it'.A w) : Mem w0 (L.set j it') w :=
  h.set hk hfp hA ⟨rfl, rfl, rfl, rfl, Nat.le_refl _⟩ (fun _ _ => rfl)

/-- the cells cs hold xs, and room -/
structure RowIs {α : Type} (k : Nat) (enc : α → List Value) (c : Nat) (cs : List Value) (xs : List α) : Prop where
  len : xs.length ≤ c
  max : c ≤ maxLen
  size : cs.length = c * k
  rest : ∃ r, cs = xs.flatMap enc ++ r

section
variable {α : Type} {e : TypeId} {k : Nat} {enc : α → List Value} {c b : Nat} {xs : List α} {w0 w : World} {L : List Item} {j : Nat}

theorem rowT_open (h : (rowT e k enc (some ⟨b, 0, none⟩) c xs).A w) : ∃ cs : List Value, w.heap[b]? = some (.cells cs.toArray e (0, 0)) ∧ RowIs k enc c cs xs := by
  have hA : w.ownsRow 0 e k (.slice (some ⟨b, 0, none⟩) xs.length c) xs.length (xs.flatMap enc) := h
  rcases hA.2 with ⟨h0, _⟩ | ⟨g, cap, cur, hv, _, h2, h3, h4, h5, h6⟩
  · cases h0
  · simp only [Value.slice.injEq, Option.some.injEq, Addr.mk.injEq, and_true, true_and] at hv
    obtain ⟨rfl, rfl⟩ := hv
    refine ⟨cur.toList, by simpa using h2, h3, h4, by simpa using h5, cur.toList.drop (xs.length * k), ?_⟩
    rw [← h6, List.take_append_drop]
theorem rowT_close (he : ∀ x, (enc x).length = k) {cs : List Value} (h : w.heap[b]? = some (.cells cs.toArray e (0, 0))) (hr : RowIs k enc c cs xs) : (rowT e k enc (some ⟨b, 0, none⟩) c xs).A w := by
  show w.ownsRow 0 e k (.slice (some ⟨b, 0, none⟩) xs.length c) xs.length (xs.flatMap enc)
  obtain ⟨r, hr'⟩ := hr.rest
  refine ⟨flat_len he xs, .inr ⟨b, c, cs.toArray, rfl, Nat.zero_le _, h, hr.len, hr.max, by simpa using hr.size, ?_⟩⟩
  simp only [hr']
  rw [← flat_len he xs, List.take_left]
/-- a row that is not empty lies somewhere -/
theorem rowT_at {A : Option Addr} (h : Mem w0 L w) (hk : L[j]? = some (rowT e k enc A c xs)) (hn : 0 < xs.length) : ∃ b, A = some ⟨b, 0, none⟩ := by
  have hA : w.ownsRow 0 e k (.slice A xs.length c) xs.length (xs.flatMap enc) := h.item hk
  rcases hA.2 with ⟨_, h0⟩ | ⟨g, cap, cur, hv, _⟩
  · omega
  · simp only [Value.slice.injEq] at hv
    exact ⟨g, hv.1⟩
theorem rowT_cap {A : Option Addr} (h : Mem w0 L w) (hk : L[j]? = some (rowT e k enc A c xs)) : xs.length ≤ c ∧ c ≤ 9223372036854775807 := by
  have hA : w.ownsRow 0 e k (.slice A xs.length c) xs.length (xs.flatMap enc) := h.item hk
  rcases hA.2 with ⟨hv, h0⟩ | ⟨g, cap, cur, hv, _, _, h3, h4, _⟩
  · simp only [Value.slice.injEq] at hv
    omega
  · simp only [Value.slice.injEq] at hv
    obtain ⟨_, _, rfl⟩ := hv
    simp only [maxLen] at h4
    omega

/-- reads of a row: element i + .., cell r -/
theorem row_cell (he : ∀ x, (enc x).length = k) (h : Mem w0 L w) (hk : L[j]? = some (rowT e k enc (some ⟨b, 0, none⟩) c xs)) {i r : Nat} {x : α} {v : Value} (hx : xs[i]? = some x) (hv : (enc x)[r]? = some v) : w.cell? ⟨b, i * k + r, none⟩ = some v := by
  obtain ⟨cs, h1, h2⟩ := rowT_open (h.item hk)
  obtain ⟨q, hq⟩ := h2.rest
  have hf := flat_get he xs i x hx r v hv
  have hlt : i * k + r < (xs.flatMap enc).length := (List.getElem?_eq_some_iff.1 hf).1
  simp only [World.cell?, h1]
  simp [hq, List.getElem?_append_left hlt, hf]
end

section
variable {α : Type} {e : TypeId} {k : Nat} {enc : α → List Value} {c b : Nat} {xs : List α} {w0 : World} {L : List Item} {g : Bool} {v : Value} {i r : Nat} {x : α}
theorem rr (j : Nat) (hk : L[j]? = some (rowT e k enc (some ⟨b, 0, none⟩) c xs)) (hx : xs[i]? = some x) (hv : (enc x)[r]? = some v) (he : ∀ x, (enc x).length = k := by exact fun _ => rfl) : g = true → ∀ w, Mem w0 L w → w.cell? ⟨b, 0 + i * k + r, none⟩ = some v := fun _ _ hw => by
  rw [Nat.zero_add]; exact row_cell he hw hk hx hv
theorem rr0 (j : Nat) (hk : L[j]? = some (rowT e k enc (some ⟨b, 0, none⟩) c xs)) (hx : xs[i]? = some x) (hv : (enc x)[0]? = some v) (he : ∀ x, (enc x).length = k := by exact fun _ => rfl) : g = true → ∀ w, Mem w0 L w → w.cell? ⟨b, 0 + i * k, none⟩ = some v := rr (r := 0) j hk hx hv he
theorem rrs (j : Nat) (hk : L[j]? = some (rowT e k enc (some ⟨b, 0, none⟩) c xs)) (hx : xs[i]? = some x) (he : ∀ x, (enc x).length = k := by exact fun _ => rfl) : g = true → ∀ w, Mem w0 L w → ∀ q u, (enc x)[q]? = some u → w.cell? ⟨b, 0 + i * k + q, none⟩ = some u := fun hg w hw _ _ hu => rr j hk hx hu he hg w hw
/-- .. of a part of it, from element p on -/
theorem rrs2 (j : Nat) {p : Nat} (hk : L[j]? = some (rowT e k enc (some ⟨b, 0, none⟩) c xs)) (hx : xs[p + i]? = some x) (he : ∀ x, (enc x).length = k := by exact fun _ => rfl) : g = true → ∀ w, Mem w0 L w → ∀ q u, (enc x)[q]? = some u → w.cell? ⟨b, 0 + p * k + i * k + q, none⟩ = some u := fun _ w hw q u hu => by
  have := row_cell he hw hk hx hu
  rw [show 0 + p * k + i * k + q = (p + i) * k + q by rw [Nat.add_mul]; omega]
  exact this
end

/-! stores -/
theorem setAt_append (A B : List Value) : ∀ (vs C : List Value) (off : Nat), off + vs.length ≤ C.length → setAt (A ++ C ++ B) (A.length + off) vs = A ++ setAt C off vs ++ B
  | [], C, off, _ => rfl
  | v :: r, C, off, h => by
    simp only [List.length_cons] at h
    have h1 : (A ++ C ++ B).set (A.length + off) v = A ++ C.set off v ++ B := by
      rw [List.append_assoc, List.set_append_right _ _ (by omega), List.append_assoc, List.set_append_left _ _ (by omega)]
      simp
    simp only [setAt]
    rw [h1, Nat.add_assoc]
    exact setAt_append A B r (C.set off v) (off + 1) (by simp; omega)
theorem set_split {α : Type} : ∀ (xs : List α) (i : Nat) (x y : α), xs[i]? = some x → xs = xs.take i ++ x :: xs.drop (i + 1) ∧ xs.set i y = xs.take i ++ y :: xs.drop (i + 1)
  | [], i, x, y, h => by simp at h
  | a :: xs, 0, x, y, h => by simp at h; subst h; simp
  | a :: xs, i + 1, x, y, h => by
    obtain ⟨h1, h2⟩ := set_split xs i x y (by simpa using h)
    refine ⟨?_, ?_⟩
    · simp only [List.take_succ_cons, List.drop_succ_cons, List.cons_append]; rw [← h1]
    · simp only [List.take_succ_cons, List.drop_succ_cons, List.cons_append, List.set_cons_succ]; rw [h2]
section
variable {α : Type} {k : Nat} {enc : α → List Value} {c : Nat} {cs : List Value} {xs : List α}
theorem RowIs.put (he : ∀ x, (enc x).length = k) (h : RowIs k enc c cs xs) {i off : Nat} {x y : α} {vs : List Value} (hx : xs[i]? = some x) (ho : off + vs.length ≤ k) (hy : enc y = setAt (enc x) off vs) : RowIs k enc c (setAt cs (i * k + off) vs) (xs.set i y) := by
  obtain ⟨r, hr⟩ := h.rest
  refine ⟨by simpa using h.len, h.max, by rw [setAt_length]; exact h.size, r, ?_⟩
  obtain ⟨h1, h2⟩ := set_split xs i x y hx
  have hi : i < xs.length := (List.getElem?_eq_some_iff.1 hx).1
  have hl : ((xs.take i).flatMap enc).length = i * k := by rw [flat_len he, List.length_take, Nat.min_eq_left (by omega)]
  have e : cs = (xs.take i).flatMap enc ++ enc x ++ ((xs.drop (i + 1)).flatMap enc ++ r) := by
    rw [hr]
    conv => lhs; rw [h1]
    simp [List.flatMap_append]
  rw [e, ← hl, setAt_append _ _ vs (enc x) off (by rw [he]; exact ho), ← hy, h2]
  simp [List.flatMap_append]
theorem RowIs.cut (he : ∀ x, (enc x).length = k) (h : RowIs k enc c cs xs) {i : Nat} {vs : List Value} (hi : i ≤ xs.length) (hl : i * k + vs.length ≤ c * k) : RowIs k enc c (setAt cs (i * k) vs) (xs.take i) := by
  obtain ⟨r, hr⟩ := h.rest
  have h0 : ((xs.take i).flatMap enc).length = i * k := by rw [flat_len he, List.length_take, Nat.min_eq_left hi]
  have e : cs = (xs.take i).flatMap enc ++ ((xs.drop i).flatMap enc ++ r) := by
    rw [← List.append_assoc, ← List.flatMap_append, List.take_append_drop]; exact hr
  refine ⟨by rw [List.length_take]; have := h.len; omega, h.max, by rw [setAt_length]; exact h.size, setAt ((xs.drop i).flatMap enc ++ r) 0 vs, ?_⟩
  have hs := h.size
  rw [e] at hs ⊢
  simp only [List.length_append, h0] at hs
  have := setAt_append ((xs.take i).flatMap enc) [] vs ((xs.drop i).flatMap enc ++ r) 0 (by simp only [List.length_append]; omega)
  simp only [List.append_nil, Nat.add_zero, h0] at this
  exact this
end

theorem oneCell_of' {v : Value} (h : v.oneCell' = true) : oneCell v = true := by cases v <;> simp_all [oneCell, Value.oneCell']

section
variable {α : Type} {e : TypeId} {k : Nat} {enc : α → List Value} {c' b : Nat} {xs : List α} {c : Cx} {w0 : World} {L : List Item} {f : Fr} {K : List Item → Fr → Prop} {d : Nat} {ty t : TypeId} {pos : String} {af : Array Edge} {p q : Operand}
theorem row_stores {P : Program} {w : World} {j : Nat} (he : ∀ x, (enc x).length = k) (hw : Mem w0 L w) (hk : L[j]? = some (rowT e k enc (some ⟨b, 0, none⟩) c' xs)) {i off : Nat} {x y : α} {vs : List Value} (hx : xs[i]? = some x) (ho : off + vs.length ≤ k) (hy : enc y = setAt (enc x) off vs) (h1 : vs.all oneCell = true) :
    ∃ w', (storeCells ⟨b, i * k + off, none⟩ vs 0).run P w = .ok () w' ∧ Mem w0 (L.set j (rowT e k enc (some ⟨b, 0, none⟩) c' (xs.set i y))) w' := by
  obtain ⟨cs, hc, hr⟩ := rowT_open (hw.item hk)
  have hj : j < L.length := (List.getElem?_eq_some_iff.1 hk).1
  have hw1 : Mem w0 (L.set j (box b e cs)) w := hw.swap hk (fun x hx => by cases hx; rfl) hc
  have hi : i < xs.length := (List.getElem?_eq_some_iff.1 hx).1
  have hle : i * k + off + vs.length ≤ cs.length := by
    rw [hr.size]
    have h3 := hr.len
    have h2 : (i + 1) * k ≤ c' * k := Nat.mul_le_mul_right _ (by omega)
    rw [Nat.add_mul, Nat.one_mul] at h2
    omega
  obtain ⟨w', hrun, hm⟩ := run_storeCells (P := P) (b := b) (t := e) (o := i * k + off) (k := j) vs 0 cs w _ hw1 (by simp [hj]) h1 (by simpa using hle)
  refine ⟨w', hrun, ?_⟩
  rw [List.set_set, Nat.add_zero] at hm
  have hA : (rowT e k enc (some ⟨b, 0, none⟩) c' (xs.set i y)).A w' := rowT_close he (hm.item (k := j) (it := box b e (setAt cs (i * k + off) vs)) (by simp [hj])) (hr.put he hx ho hy)
  have := hm.swap (j := j) (it := box b e (setAt cs (i * k + off) vs)) (by simp [hj]) (fun x (hx : (some (⟨b, 0, none⟩ : Addr)).map (·.block) = some x) => by cases hx; rfl) hA
  rw [List.set_set] at this
  exact this
/-- a store into a row: the cells from 'off' on of element i; y is what the element is then -/
theorem f_storeR (j : Nat) {i off n : Nat} {x : α} (y : α) {v : Value} (hp : ev f p = .pointer (some ⟨b, 0 + i * k + off, none⟩)) (hq : ev f q = v) (hs : ∀ w, (sizeOf t).run c.P w = .ok n w) (hn : v.cells.size = n) (h1 : v.cells.toList.all oneCell = true)
    (hk : L[j]? = some (rowT e k enc (some ⟨b, 0, none⟩) c' xs)) (hx : xs[i]? = some x) (ho : Nat.ble (off + v.cells.toList.length) k = true) (hy : enc y = setAt (enc x) off v.cells.toList)
    (next : K (L.set j (rowT e k enc (some ⟨b, 0, none⟩) c' (xs.set i y))) f) (he : ∀ x, (enc x).length = k := by exact fun _ => rfl) : Eff c w0 L f ⟨none, .store t p q, ty, pos, af, none⟩ K :=
  ⟨rfl, rfl, rfl, fun w hw => by
    obtain ⟨w', hr, hm⟩ := row_stores (P := c.P) he hw hk hx (Nat.le_of_ble_eq_true ho) hy h1
    rw [Nat.zero_add] at hp
    have : (execOp (ev f) ⟨none, .store t p q, ty, pos, af, none⟩).run c.P w = .ok .skip w' := by
      simp [execOp, hp, hq, Instr.storeAt, Instr.sureAddr, storeVar, hs, hn, hr, Result.andThen]
    rw [this]
    exact ⟨_, hm, marks_set hk rfl, next⟩⟩
theorem f_storeR0 (j : Nat) {i n : Nat} {x : α} (y : α) {v : Value} (hp : ev f p = .pointer (some ⟨b, 0 + i * k, none⟩)) (hq : ev f q = v) (hs : ∀ w, (sizeOf t).run c.P w = .ok n w) (hn : v.cells.size = n) (h1 : v.cells.toList.all oneCell = true)
    (hk : L[j]? = some (rowT e k enc (some ⟨b, 0, none⟩) c' xs)) (hx : xs[i]? = some x) (ho : Nat.ble (0 + v.cells.toList.length) k = true) (hy : enc y = setAt (enc x) 0 v.cells.toList)
    (next : K (L.set j (rowT e k enc (some ⟨b, 0, none⟩) c' (xs.set i y))) f) (he : ∀ x, (enc x).length = k := by exact fun _ => rfl) : Eff c w0 L f ⟨none, .store t p q, ty, pos, af, none⟩ K :=
  f_storeR j (off := 0) y hp hq hs hn h1 hk hx ho hy next he
/-- the row's end is cleared -/
theorem f_clearR (j : Nat) {i m cap : Nat} {z : Value} (ht : c.P.underlying t = some (.slice e)) (hz : ∀ w, (zeroValue e).run c.P w = .ok z w) (hzk : z.cells.size = k) (h1 : z.cells.toList.all oneCell = true) (hp : ev f p = .slice (some ⟨b, 0 + i * k, none⟩) m cap)
    (hk : L[j]? = some (rowT e k enc (some ⟨b, 0, none⟩) c' xs)) (hi : i + m = xs.length ∧ 0 < m)
    (next : K (L.set j (rowT e k enc (some ⟨b, 0, none⟩) c' (xs.take i))) f) (he : ∀ x, (enc x).length = k := by exact fun _ => rfl) : Eff c w0 L f ⟨none, .call { callee := .builtin .clear, args := #[p], argTypes := #[t] }, ty, pos, af, none⟩ K :=
  ⟨rfl, rfl, rfl, fun w hw => by
    obtain ⟨cs, hc, hr⟩ := rowT_open (hw.item hk)
    have hj : j < L.length := (List.getElem?_eq_some_iff.1 hk).1
    have hw1 : Mem w0 (L.set j (box b e cs)) w := hw.swap hk (fun x hx => by cases hx; rfl) hc
    have hzl : (Builtin.zeroCells z.cells m).toList.length = m * k := by simp [size_zeroCells, hzk]
    have hzo : (Builtin.zeroCells z.cells m).toList.all oneCell = true := by
      rw [List.all_eq_true]
      intro v hv
      simp only [Builtin.zeroCells, Array.toList_map, Array.toList_range, List.mem_map, List.mem_range] at hv
      obtain ⟨q, hq, rfl⟩ := hv
      have hk0 : 0 < z.cells.size := by
        rcases Nat.eq_zero_or_pos z.cells.size with h | h
        · rw [h] at hq; omega
        · exact h
      have hqk : q % z.cells.size < z.cells.size := Nat.mod_lt _ hk0
      rw [getElem!_pos z.cells _ hqk]
      exact List.all_eq_true.1 h1 _ (by simp)
    have hle : i * k + m * k ≤ c' * k := by
      rw [← Nat.add_mul]; exact Nat.mul_le_mul_right _ (by have := hr.len; omega)
    obtain ⟨w', hrun, hm⟩ := run_storeCells (P := c.P) (b := b) (t := e) (o := i * k) (k := j) (Builtin.zeroCells z.cells m).toList 0 cs w _ hw1 (by simp [hj]) hzo (by rw [hzl, hr.size]; simpa using hle)
    rw [List.set_set, Nat.add_zero] at hm
    have hA : (rowT e k enc (some ⟨b, 0, none⟩) c' (xs.take i)).A w' := rowT_close he (hm.item (k := j) (it := box b e (setAt cs (i * k) (Builtin.zeroCells z.cells m).toList)) (by simp [hj])) (hr.cut he (by omega) (by rw [hzl]; exact hle))
    have hm2 := hm.swap (j := j) (it := box b e (setAt cs (i * k) (Builtin.zeroCells z.cells m).toList)) (by simp [hj]) (fun x (hx : (some (⟨b, 0, none⟩ : Addr)).map (·.block) = some x) => by cases hx; rfl) hA
    rw [List.set_set] at hm2
    rw [Nat.zero_add] at hp
    have hm0 : m ≠ 0 := by omega
    have : (execOp (ev f) ⟨none, .call { callee := .builtin .clear, args := #[p], argTypes := #[t] }, ty, pos, af, none⟩).run c.P w = .ok (.value (.tuple #[])) w' := by
      obtain ⟨m', rfl⟩ : ∃ m', m = m' + 1 := ⟨m - 1, by omega⟩
      simp [execOp, resolve, invoke, builtin, hp, Builtin.clear_, run_underlying ht, hz, hrun, Result.andThen]
    rw [this]
    exact ⟨_, hm2, marks_set hk rfl, next⟩⟩
/-- the first i of a row -/
theorem rowT_take {j : Nat} {i : Nat} {w : World} (he : ∀ x, (enc x).length = k) (hw : Mem w0 L w) (hk : L[j]? = some (rowT e k enc (some ⟨b, 0, none⟩) c' xs)) : Mem w0 (L.set j (rowT e k enc (some ⟨b, 0, none⟩) c' (xs.take i))) w := by
  obtain ⟨cs, hc, hr⟩ := rowT_open (hw.item hk)
  refine hw.swap hk (fun x hx => hx) (rowT_close he hc ⟨by rw [List.length_take]; have := hr.len; omega, hr.max, hr.size, ?_⟩)
  obtain ⟨r, h⟩ := hr.rest
  exact ⟨(xs.drop i).flatMap enc ++ r, by rw [← List.append_assoc, ← List.flatMap_append, List.take_append_drop]; exact h⟩
theorem f_make {n m : Nat} {z : Value} {i : TypeInfo} {k : Nat} (enc : α → List Value) (zx : α) (ht : c.P.underlying t = some (.slice e)) (hi : c.P.info? e = some i) (hz : i.zero = some z) (hsize : i.size = k) (hzs : z.cells.toList = enc zx) (hp : ev f p = .int .i64 n) (hq : ev f q = .int .i64 m) (hlen : (n ≤ m ∧ m ≤ 1000000) ∧ i.bytes ≤ 100000) (hd : Nat.blt d c.N = true)
    (next : ∀ b, K (rowT e k enc (some ⟨b, 0, none⟩) m (List.replicate n zx) :: L) (upd f d (.slice (some ⟨b, 0, none⟩) n m))) (he : ∀ x, (enc x).length = k := by exact fun _ => rfl) : Eff c w0 L f ⟨some d, .makeSlice t p q, ty, pos, af, none⟩ K :=
  ⟨rfl, rfl, hd, fun w hw => by
    have hb : (i.bytes : Int) * (m : Int) ≤ 281474976710656 := by
      have h1 : i.bytes * m ≤ 100000 * 1000000 := Nat.mul_le_mul hlen.2 hlen.1.2
      have h2 : ((i.bytes * m : Nat) : Int) ≤ 281474976710656 := by omega
      rwa [Int.natCast_mul] at h2
    have hr := run_make (P := c.P) w t e i z ht hi hz .i64 .i64 n m (by omega) (by omega) hb (by omega)
    have : (execOp (ev f) ⟨some d, .makeSlice t p q, ty, pos, af, none⟩).run c.P w = .ok (.value (.slice (some ⟨w.heap.size, 0, none⟩) n m)) (w.alloc (.cells (madeCells z.cells (m * i.size)) e)) := by
      simp only [Int.toNat_natCast] at hr
      simp [execOp, hp, hq, hr, Result.andThen]
    rw [this]
    subst hsize
    have hzk : z.cells.size = i.size := by rw [← Array.length_toList, hzs, he]
    have hcell : ∀ q, (madeCells z.cells (q * i.size)).toList = (List.replicate q zx).flatMap enc := by
      intro q
      apply List.ext_getElem?
      intro y
      by_cases hy : y < q * i.size
      · have hk : 0 < i.size := by rcases Nat.eq_zero_or_pos i.size with h | h; · rw [h] at hy; omega
                                   · exact h
        have hyk : y % i.size < i.size := Nat.mod_lt _ hk
        have h1 : (List.replicate q zx)[y / i.size]? = some zx := by
          rw [List.getElem?_replicate, if_pos (Nat.div_lt_of_lt_mul (by rw [Nat.mul_comm]; exact hy))]
        have h2 : (enc zx)[y % i.size]? = some ((enc zx)[y % i.size]'(by rw [he]; exact hyk)) := List.getElem?_eq_getElem _
        have h3 := flat_get he _ _ _ h1 _ _ h2
        rw [Nat.mul_comm, Nat.div_add_mod] at h3
        rw [h3]
        simp only [madeCells, Array.toList_map, Array.toList_range, List.getElem?_map, List.getElem?_range hy, Option.map_some, hzk]
        congr 1
        rw [getElem!_pos z.cells _ (by rw [hzk]; exact hyk), ← Array.getElem_toList]
        simp only [hzs]
      · rw [List.getElem?_eq_none (by simp [madeCells]; omega), List.getElem?_eq_none (by rw [flat_len he]; simp; omega)]
    refine ⟨rowT e i.size enc (some ⟨w.heap.size, 0, none⟩) m (List.replicate n zx) :: L, hw.new _ _ (fun b hb => by cases hb; rfl) ?_, rfl, ?_⟩
    · refine rowT_close he (cs := (madeCells z.cells (m * i.size)).toList) (heap_alloc_new w _) ⟨by simpa using hlen.1.1, by simp only [maxLen]; omega, by simp [size_madeCells], (List.replicate (m - n) zx).flatMap enc, ?_⟩
      rw [hcell, ← List.flatMap_append, List.replicate_append_replicate]
      congr 2
      omega
    · exact next w.heap.size⟩
end

section
variable {c : Cx} {w0 : World} {L : List Item} {f : Fr} {ty t el : TypeId} {g : Bool} {x y : Operand}
theorem e_slLo {b o n cp sz : Nat} {m : Int} (j : Nat) (ht : c.P.underlying t = some (.slice el)) (hs : ∀ w, (sizeOf el).run c.P w = .ok sz w) (hx : OpV g f x (.slice (some ⟨b, o, none⟩) n cp)) (hy : OpV g f y (.int .i64 m)) (hm : g = true → m = (j : Int) ∧ j < n ∧ n ≤ cp) :
    EvG g c w0 L f (.slice t x (some y) none none) ty (.slice (some ⟨b, o + j * sz, none⟩) (n - j) (cp - j)) := fun e _ _ _ _ w _ => by
  obtain ⟨rfl, hj, hc⟩ := hm e
  have h1 : (0 : Int) ≤ (j : Int) ∧ (j : Int) ≤ (n : Int) := by omega
  have h2 : cp ≠ j := by omega
  simp [execOp, hx e, hy e, Instr.sliceAt, Instr.slice, Instr.sliceBounds, Instr.sliceBound, asIntOf, run_underlying ht, hs, Result.andThen, addr_add, h2, show j ≤ n by omega]
/-- from element j on, whatever is left -/
def cutAddr (A : Option Addr) (cp j sz : Nat) : Option Addr := if cp = j then A else A.map (·.add (j * sz))
theorem e_slLoG {A : Option Addr} {n cp sz : Nat} {m : Int} (j : Nat) (ht : c.P.underlying t = some (.slice el)) (hs : ∀ w, (sizeOf el).run c.P w = .ok sz w) (hx : OpV g f x (.slice A n cp)) (hy : OpV g f y (.int .i64 m)) (hm : g = true → m = (j : Int) ∧ j ≤ n) :
    EvG g c w0 L f (.slice t x (some y) none none) ty (.slice (cutAddr A cp j sz) (n - j) (cp - j)) := fun e _ _ _ _ w _ => by
  obtain ⟨rfl, hj⟩ := hm e
  simp [execOp, hx e, hy e, Instr.sliceAt, Instr.slice, Instr.sliceBounds, Instr.sliceBound, asIntOf, run_underlying ht, hs, Result.andThen, hj, cutAddr]
theorem e_slHi {A : Option Addr} {n cp sz : Nat} {m : Int} (j : Nat) (ht : c.P.underlying t = some (.slice el)) (hs : ∀ w, (sizeOf el).run c.P w = .ok sz w) (hx : OpV g f x (.slice A n cp)) (hy : OpV g f y (.int .i64 m)) (hm : g = true → m = (j : Int) ∧ j ≤ cp) :
    EvG g c w0 L f (.slice t x none (some y) none) ty (.slice A j cp) := fun e _ _ _ _ w _ => by
  obtain ⟨rfl, hj⟩ := hm e
  have ha : A.map (·.add (0 * sz)) = A := by
    cases A with
    | none => rfl
    | some a => simp [Addr.add]
  simp only [Nat.zero_mul] at ha
  simp [execOp, hx e, hy e, Instr.sliceAt, Instr.slice, Instr.sliceBounds, Instr.sliceBound, asIntOf, run_underlying ht, hs, Result.andThen, hj, ha]
theorem e_eqNilS {A : Option Addr} {n cp : Nat} {t2 : TypeId} (ht : c.P.underlying t = some (.slice el)) (hx : OpV g f x (.slice A n cp)) : EvG g c w0 L f (.binOp .eql t x (.const (.slice none 0 0)) t2) ty (.bool A.isNone) := fun e _ _ _ _ w _ => by
  have hq : ∀ d, (Op.equalIn (d + 1) t (.slice A n cp) (.slice none 0 0)).run c.P w = .ok A.isNone w := fun d => by
    cases A <;> simp [Op.equalIn, run_underlying ht]
  have hq : (Op.equal t (.slice A n cp) (.slice none 0 0)).run c.P w = .ok A.isNone w := hq 9999
  simp [execOp, hx e, ev_const, eqGuard, binOp, hq, Result.andThen]
theorem e_eqNilP {A : Option Addr} {t2 : TypeId} (ht : c.P.underlying t = some (.pointer el)) (hx : OpV g f x (.pointer A)) : EvG g c w0 L f (.binOp .eql t x (.const (.pointer none)) t2) ty (.bool A.isNone) := fun e _ _ _ _ w _ => by
  have hq : ∀ d, (Op.equalIn (d + 1) t (.pointer A) (.pointer none)).run c.P w = .ok A.isNone w := fun d => by
    cases A <;> simp [Op.equalIn, run_underlying ht]
  have hq : (Op.equal t (.pointer A) (.pointer none)).run c.P w = .ok A.isNone w := hq 9999
  simp [execOp, hx e, ev_const, eqGuard, binOp, hq, Result.andThen]
theorem e_neNilF {ps : Array TypeId} {rs : Array TypeId} {va : Bool} {fn : Fn} {a1 a2 : Array Value} {t2 : TypeId} (ht : c.P.underlying t = some (.func ps rs va)) (hx : OpV g f x (.func fn a1 a2)) : EvG g c w0 L f (.binOp .neq t x (.const .nilFunc) t2) ty (.bool true) := fun e _ _ _ _ w _ => by
  have hq : ∀ d, (Op.equalIn (d + 1) t (.func fn a1 a2) .nilFunc).run c.P w = .ok false w := fun d => by
    simp [Op.equalIn, run_underlying ht]
  have hq : (Op.equal t (.func fn a1 a2) .nilFunc).run c.P w = .ok false w := hq 9999
  simp [execOp, hx e, ev_const, eqGuard, binOp, hq, Result.andThen]
theorem e_neNilF0 {ps : Array TypeId} {rs : Array TypeId} {va : Bool} {t2 : TypeId} (ht : c.P.underlying t = some (.func ps rs va)) (hx : OpV g f x .nilFunc) : EvG g c w0 L f (.binOp .neq t x (.const .nilFunc) t2) ty (.bool false) := fun e _ _ _ _ w _ => by
  have hq : ∀ d, (Op.equalIn (d + 1) t .nilFunc .nilFunc).run c.P w = .ok true w := fun d => by
    simp [Op.equalIn, run_underlying ht]
  have hq : (Op.equal t .nilFunc .nilFunc).run c.P w = .ok true w := hq 9999
  simp [execOp, hx e, ev_const, eqGuard, binOp, hq, Result.andThen]
end

theorem SlAt.take {α : Type} {w : World} {k : Nat} {enc : α → List Value} {A : Option Addr} {n : Nat} {xs : List α} (h : SlAt w k enc A n xs) {i : Nat} (hi : i ≤ n) : SlAt w k enc A i (xs.take i) := by
  refine ⟨by rw [List.length_take, h.1]; omega, by have := h.2.1; omega, fun h0 => ?_⟩
  obtain ⟨b, off, hA, hb, hc⟩ := h.2.2 (by omega)
  refine ⟨b, off, hA, hb, fun j x hx => hc j x ?_⟩
  rw [List.getElem?_take] at hx
  split at hx
  · exact hx
  · cases hx
theorem SlAt.drop {α : Type} {w : World} {k : Nat} {enc : α → List Value} {A : Option Addr} {n cp : Nat} {xs : List α} (h : SlAt w k enc A n xs) {i : Nat} (hi : i ≤ n) (hc : n ≤ cp) : SlAt w k enc (cutAddr A cp i k) (n - i) (xs.drop i) := by
  refine ⟨by rw [List.length_drop, h.1], by have := h.2.1; omega, fun h0 => ?_⟩
  obtain ⟨b, off, hA, hb, hr⟩ := h.2.2 (by omega)
  refine ⟨b, off + i * k, ?_, hb, fun j x hx => ?_⟩
  · rw [cutAddr, if_neg (by omega), hA]
    simp [addr_add]
  · rw [List.getElem?_drop] at hx
    have := hr (i + j) x hx
    rwa [Nat.add_mul, ← Nat.add_assoc] at this

/-! a call that turns what its caller holds -/
theorem H_enterM {P : Program} {k : FuncId} {fn : Func} {code : Code} {l : List Value} {w0 w : World} {L : List Item} {R : Ending → World → Prop} {N : Nat} (hw : Mem w0 L w) (hmk : marks L = []) (hf : P.funcs[k]? = some fn) (hb : fn.body = some code) (hN : fn.ntmps = N) (hl : Nat.ble l.length N = true)
    (h : H ⟨P, none, N⟩ code (retJ ⟨P, none, N⟩ fn R) w0 L (frOf l)) : Calls P k l.toArray w R := by
  have hl' : l.length ≤ N := Nat.le_of_ble_eq_true hl
  refine calls_FW (n := 0) (callsIn_of_wp_marks hf hb trivial (wpIn_mono (h _ w ⟨?_, ?_, hmk.symm⟩ hw) ?_) rfl)
  · simp [hN]; omega
  · intro i
    simp only [Array.getD_eq_getD_getElem?, frOf, List.getD_eq_getElem?_getD]
    rw [Array.getElem?_append]
    split
    · simp
    · rename_i hi
      have : l[i]? = none := List.getElem?_eq_none (by simpa using hi)
      rw [this]
      simp only [Array.getElem?_replicate]
      split <;> rfl
  · rintro e a w' ⟨u', L', f', k1, k2, k3⟩
    cases e with
    | normal => have := k3 w' a k2 k1; rw [← k1.defers] at this; exact this
    | ret => have := k3 w' a k2 k1; rw [← k1.defers] at this; exact this
    | exit i => exact k3.elim
    | goto l => exact k3.elim
    | panic ch => exact k3.elim
    | outgrown => exact k3.elim

/-! an item brought ahead, and back -/
theorem erase_perm {α : Type} : ∀ (L : List α) (j : Nat) (x : α), L[j]? = some x → (x :: L.eraseIdx j).Perm L
  | [], _, _, h => by simp at h
  | a :: L, 0, x, h => by simp at h; subst h; simp
  | a :: L, j + 1, x, h => by
    have := erase_perm L j x (by simpa using h)
    simp only [List.eraseIdx_cons_succ]
    exact (List.Perm.swap a x _).trans (this.cons a)
theorem set_perm {α : Type} : ∀ (L : List α) (j : Nat) (y : α), j < L.length → (L.set j y).Perm (y :: L.eraseIdx j)
  | [], _, _, h => by simp at h
  | a :: L, 0, y, _ => by simp
  | a :: L, j + 1, y, h => by
    have := set_perm L j y (by simpa using h)
    simp only [List.eraseIdx_cons_succ, List.set_cons_succ]
    exact (this.cons a).trans (List.Perm.swap y a _)
theorem Mem.front {w0 w : World} {L : List Item} {j : Nat} {it : Item} (h : Mem w0 L w) (hk : L[j]? = some it) : Mem w0 (it :: L.eraseIdx j) w := h.perm (erase_perm L j it hk)
theorem Mem.back {w0 w : World} {L : List Item} {j : Nat} {it it' : Item} (h : Mem w0 (it' :: L.eraseIdx j) w) (hk : L[j]? = some it) : Mem w0 (L.set j it') w := h.perm (set_perm L j it' (List.getElem?_eq_some_iff.1 hk).1)
theorem marks_erase : ∀ (L : List Item) (j : Nat), marks L = [] → marks (L.eraseIdx j) = []
  | [], j, _ => by simp [marks]
  | a :: L, 0, h => by rw [marks_cons, List.append_eq_nil_iff] at h; simpa using h.2
  | a :: L, j + 1, h => by
    rw [marks_cons, List.append_eq_nil_iff] at h
    rw [List.eraseIdx_cons_succ, marks_cons, h.1, marks_erase L j h.2]; rfl

section
variable {c : Cx} {w0 : World} {L : List Item} {f : Fr} {K : List Item → Fr → Prop} {dst : Option Nat} {ty : TypeId} {pos : String} {af : Array Edge}
theorem f_callM {α : Type} {op : Op} {k : FuncId} {args : Array Value} {val : α → Value} {Lx : α → List Item} (hen : EnterG true c w0 L f op ty k args) (hc : ∀ w, Mem w0 L w → Calls c.P k args w fun e w' => ∃ x : α, e = .returned (val x) ∧ Mem w0 (Lx x) w') (hd : dstOk c dst = true) (hmk : ∀ x, marks (Lx x) = marks L) (next : ∀ x, K (Lx x) (putF f dst (val x))) (hnd : isDefer op = false := by rfl) : Eff c w0 L f ⟨dst, op, ty, pos, af, none⟩ K :=
  ⟨rfl, hnd, hd, fun w hw => by
    rw [hen rfl _ _ _ _ w hw]
    refine ⟨rfl, (hc w hw).mono ?_⟩
    rintro e w' ⟨x, rfl, hm⟩
    exact ⟨_, _, rfl, hm, hmk x, next x⟩⟩
end

end Go.Proofs.E
