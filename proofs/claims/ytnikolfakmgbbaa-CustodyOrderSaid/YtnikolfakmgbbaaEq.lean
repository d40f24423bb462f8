/-
  Maps, more: delete; a range over a map that stays as it is; a map of pointers to boxes of one's own.
-/
import Derived.Test.YtnikolfakmgbbaaEs
import Derived.Maps.RangeRun
namespace Go.Proofs.E
open Go Go.RowKit

def mdel (ps : List (Int × Value)) (k : Int) : List (Int × Value) := ps.eraseP (fun p => p.1 == k)
theorem pairs_erase (k : Int) : ∀ (es : List MapEntry) (ps : List (Int × Value)) (i : Nat), PairsAre es ps →
    (Instr.findNow (.int .i64) (.int .i64 k) es i = some none ∧ mdel ps k = ps) ∨
    (∃ j x, Instr.findNow (.int .i64) (.int .i64 k) es i = some (some (i + j, x)) ∧ j < es.length ∧ PairsAre (es.eraseIdx j) (mdel ps k)) := by
  intro es
  induction es with
  | nil => intro ps i h; cases h; exact .inl ⟨rfl, rfl⟩
  | cons e es ih =>
    intro ps i h
    cases h with
    | cons hp hr =>
      rename_i p ps
      have hp' := hp
      obtain ⟨hk, hv⟩ := hp
      by_cases hkk : p.1 = k
      · refine .inr ⟨0, e.val, ?_, by simp, ?_⟩
        · simp [Instr.findNow, Instr.sameNow, hk, hkk]
        · simpa [mdel, hkk] using hr
      · have hne : (k == p.1) = false := beq_eq_false_iff_ne.2 fun e => hkk e.symm
        rcases ih ps (i + 1) hr with ⟨h1, h2⟩ | ⟨j, x, h1, h2, h3⟩
        · refine .inl ⟨?_, ?_⟩
          · simp [Instr.findNow, Instr.sameNow, hk, hne, h1]
          · simp only [mdel] at h2 ⊢
            rw [List.eraseP_cons_of_neg (by simpa using hkk), h2]
        · refine .inr ⟨j + 1, x, ?_, by simp; omega, ?_⟩
          · simp [Instr.findNow, Instr.sameNow, hk, hne, h1]
            omega
          · simp only [mdel] at h3 ⊢
            rw [List.eraseP_cons_of_neg (by simpa using hkk), List.eraseIdx_cons_succ]
            exact .cons hp' h3
section
variable {P : Program} {t kt et : TypeId}
theorem run_delete_imap {w : World} {b : Nat} {ps : List (Int × Value)} {k : Int} {ty : TypeId} {t2 : TypeId} (ht : P.underlying t = some (.map kt et)) (hk : P.underlying kt = some (.int .i64)) (h : IMap w b ps) :
    ∃ w', (Builtin.delete_ #[t, t2] ty #[.map (some b), .int .i64 k]).run P w = .ok (.tuple #[]) w' ∧ IMap w' b (mdel ps k) ∧ w.grownBy w' (some b) ∧ w'.heap.size = w.heap.size ∧ w.drawn ≤ w'.drawn := by
  have hlt := h.lt
  obtain ⟨es, c, h1, h2, h3⟩ := h
  have hg : ∀ o : Obj, w.grownBy { w with heap := w.heap.setIfInBounds b o } (some b) := fun o => ⟨rfl, rfl, rfl, by simp, fun i _ hi => by
    have hne : b ≠ i := fun e => hi (by rw [e])
    exact Array.getElem?_setIfInBounds_ne hne⟩
  rcases pairs_erase k es.toList ps 0 h2 with ⟨ha, hs⟩ | ⟨j, x, ha, hj, hm⟩
  · refine ⟨{ w with heap := w.heap.setIfInBounds b (.map es c) }, ?_, ⟨es, c, Array.getElem?_setIfInBounds_self_of_lt hlt, by rw [hs]; exact h2, h3⟩, hg _, by simp, Nat.le_refl _⟩
    simp [Builtin.delete_, run_underlying ht, MapKept.run_getObj_map h1, run_checkKey10000 hk, run_underlying hk, Instr.findKey, ha, Result.andThen, MapKept.run_setObj_map _ h1]
  · rw [Nat.zero_add] at ha
    have he : (es.eraseIdxIfInBounds j).toList = es.toList.eraseIdx j := by simp [Array.eraseIdxIfInBounds]; split <;> simp_all
    refine ⟨{ w with heap := w.heap.setIfInBounds b (.map (es.eraseIdxIfInBounds j) c) }, ?_, ⟨_, c, Array.getElem?_setIfInBounds_self_of_lt hlt, by rw [he]; exact hm, by rw [he]; exact h3.sub (List.eraseIdx_sublist _ _)⟩, hg _, by simp, Nat.le_refl _⟩
    simp [Builtin.delete_, run_underlying ht, MapKept.run_getObj_map h1, run_checkKey10000 hk, run_underlying hk, Instr.findKey, ha, Result.andThen, MapKept.run_setObj_map _ h1]
end

section
variable {c : Cx} {w0 : World} {L : List Item} {f : Fr} {K : List Item → Fr → Prop} {d : Nat} {ty t kt et : TypeId} {pos : String} {af : Array Edge} {g : Bool} {x y z : Operand}
/-- a look-up, however the map is known -/
theorem e_lookG {b : Nat} {ps : List (Int × Value)} {key : Int} {v u : Value} (ht : c.P.underlying t = some (.map kt et)) (hkt : c.P.underlying kt = some (.int .i64)) (hz : ∀ w, (zeroValue et).run c.P w = .ok v w) (hx : OpV g f x (.map (some b))) (hy : OpV g f y (.int .i64 key))
    (hI : ∀ w, Mem w0 L w → IMap w b ps) (hu : g = true → (mlook ps key).getD v = u) : EvG g c w0 L f (.lookup t x y false) ty u := fun e _ _ _ _ w hw => by
  simp [execOp, hx e, hy e, run_lookup_imap ht hkt hz (hI w hw) key, Result.andThen, hu e]
theorem IMap.mem {b : Nat} {ps : List (Int × Value)} (h : IMap w0 b ps) (w : World) (hw : Mem w0 L w) : IMap w b ps := h.kept (hw.1.block b h.lt)

/-! a range over a map that stays as it is -/
def mit (r m clock : Nat) (seen : Array Nat) (last : Nat) : Item where
  fp := fun b => b = r
  A := fun w => w.heap[r]? = some (.mapIter (some m) clock seen last)
  st := fun _ _ h hA => (h r rfl).trans hA
theorem f_range {m clock : Nat} {es : Array MapEntry} (ht : c.P.underlying t = some (.map kt et)) (hm : ∀ w, Mem w0 L w → w.heap[m]? = some (.map es clock)) (hx : ev f x = .map (some m)) (hd : Nat.blt d c.N = true)
    (next : ∀ r, K (mit r m clock #[] clock :: L) (upd f d (.pointer (some ⟨r, 0, none⟩)))) : Eff c w0 L f ⟨some d, .range t x, ty, pos, af, none⟩ K :=
  ⟨rfl, rfl, hd, fun w hw => by
    have : (execOp (ev f) ⟨some d, .range t x, ty, pos, af, none⟩).run c.P w = .ok (.value (.pointer (some ⟨w.heap.size, 0, none⟩))) (w.alloc (.mapIter (some m) clock #[] clock)) := by
      simp [execOp, hx, Instr.range, run_underlying ht, MapKept.run_getObj_map (hm w hw), Result.andThen]
    rw [this]
    exact ⟨_, hw.new _ (mit w.heap.size m clock #[] clock) (fun _ h => h) (heap_alloc_new w _), rfl, next _⟩⟩
theorem f_next (k : Nat) {r m clock last : Nat} {seen : Array Nat} {es : Array MapEntry} (hm : ∀ w, Mem w0 L w → w.heap[m]? = some (.map es clock)) (hB : BornOk es.toList clock) (hx : ev f x = .pointer (some ⟨r, 0, none⟩)) (hk : L[k]? = some (mit r m clock seen last)) (hl : clock ≤ last) (hd : Nat.blt d c.N = true)
    (stop : (∀ e ∈ es.toList, seen.contains e.born = true) → K L (upd f d (.tuple #[.bool false])))
    (step : ∀ e ∈ es.toList, seen.contains e.born = false → K (L.set k (mit r m clock (seen.push e.born) clock)) (upd f d (.tuple #[.bool true, e.key, e.val]))) : Eff c w0 L f ⟨some d, .next x false, ty, pos, af, none⟩ K :=
  ⟨rfl, rfl, hd, fun w hw => by
    have hr : w.heap[r]? = some (.mapIter (some m) clock seen last) := hw.item hk
    have hrl := hw.itemLt hk (b := r) rfl
    rcases run_next_at (P := c.P) w ty r m clock last seen es clock hr (hm w hw) (fun x hx => hB.lt x hx) hl with ⟨h0, hrun⟩ | ⟨e, he, w1, hw1, hrun⟩
    · have : (execOp (ev f) ⟨some d, .next x false, ty, pos, af, none⟩).run c.P w = .ok (.value (.tuple #[.bool false])) w := by simp [execOp, hx, hrun, Result.andThen]
      rw [this]
      refine ⟨L, hw, rfl, stop fun e he => ?_⟩
      cases hc : seen.contains e.born with
      | true => rfl
      | false =>
        have : e ∈ (leftOf es seen).toList := by
          unfold leftOf
          simp only [Array.toList_filter, List.mem_filter, Bool.not_eq_true']
          exact ⟨he, hc⟩
        rw [Array.eq_empty_of_size_eq_zero h0] at this
        cases this
    · have : (execOp (ev f) ⟨some d, .next x false, ty, pos, af, none⟩).run c.P w = .ok (.value (.tuple #[.bool true, e.key, e.val])) (Go.ChangeMaps.setBlock w1 r (.mapIter (some m) clock (seen.push e.born) clock)) := by simp [execOp, hx, hrun, Result.andThen]
      rw [this]
      have hes : e ∈ es.toList ∧ seen.contains e.born = false := by
        unfold leftOf at he
        simp only [Array.toList_filter, List.mem_filter, Bool.not_eq_true'] at he
        exact he
      have hw1' : Mem w0 L w1 := by rcases hw1 with rfl | rfl; · exact hw
                                    · exact hw.drew
      refine ⟨L.set k (mit r m clock (seen.push e.born) clock), ?_, marks_set hk rfl, step e hes.1 hes.2⟩
      have hrl1 := hw1'.itemLt hk (b := r) rfl
      refine hw1'.set (w' := Go.ChangeMaps.setBlock w1 r (.mapIter (some m) clock (seen.push e.born) clock)) (it' := mit r m clock (seen.push e.born) clock) hk (fun _ h => h) ?_ ⟨rfl, rfl, rfl, by simp [Go.ChangeMaps.setBlock], Nat.le_refl _⟩ (fun b hb => ?_)
      · show (w1.heap.setIfInBounds r _)[r]? = _
        exact Array.getElem?_setIfInBounds_self_of_lt hrl1.2
      · show (w1.heap.setIfInBounds r _)[b]? = _
        exact Array.getElem?_setIfInBounds_ne (fun e => hb e.symm)⟩
theorem born_nodup {es : List MapEntry} {clock : Nat} (h : BornOk es clock) : (es.map (·.born)).Nodup := List.pairwise_map.2 (h.asc.imp fun h => Nat.ne_of_lt h)
theorem e_entry (k : Nat) {r m clock : Nat} {seen : Array Nat} {es : Array MapEntry} {e : MapEntry} (hm : ∀ w, Mem w0 L w → w.heap[m]? = some (.map es clock)) (hB : BornOk es.toList clock) (he : e ∈ es.toList) (hx : OpV g f x (.pointer (some ⟨r, 0, none⟩))) (hk : L[k]? = some (mit r m clock (seen.push e.born) clock)) :
    EvG g c w0 L f (.entry x) ty (.tuple #[e.key, e.val]) := fun hg _ _ _ _ w hw => by
  have := run_entry_at (P := c.P) w r m clock seen es clock e (hw.item hk) (hm w hw) he (born_nodup hB)
  simp [execOp, hx hg, this, Result.andThen]
end

theorem run_storeCells2 {P : Program} {w0 : World} {b o k : Nat} {t : TypeId} : ∀ (vs : List Value) (i : Nat) (cs : List Value) (w : World) (L : List Item), Mem w0 L w → L[k]? = some (box b t cs) → vs.all oneCell = true → o + i + vs.length ≤ cs.length →
    ∃ w', (storeCells ⟨b, o, none⟩ vs i).run P w = .ok () w' ∧ Mem w0 (L.set k (box b t (setAt cs (o + i) vs))) w' ∧ (w'.os = w.os ∧ w'.tape = w.tape ∧ w'.output = w.output ∧ w'.heap.size = w.heap.size ∧ w.drawn ≤ w'.drawn) ∧ ∀ q, q ≠ b → w'.heap[q]? = w.heap[q]?
  | [], i, cs, w, L, hw, hk, _, _ => ⟨w, by simp [storeCells], by
    have hi : L.set k (box b t cs) = L := by
      obtain ⟨h1, h2⟩ := List.getElem?_eq_some_iff.1 hk
      rw [← h2]; exact List.set_getElem_self h1
    show Mem w0 (L.set k (box b t cs)) w
    rw [hi]; exact hw, ⟨rfl, rfl, rfl, rfl, Nat.le_refl _⟩, fun _ _ => rfl⟩
  | v :: r, i, cs, w, L, hw, hk, h1, hl => by
    simp only [List.all_cons, Bool.and_eq_true] at h1
    simp only [List.length_cons] at hl
    have hlt : o + i < cs.length := by omega
    have hc : w.cell? ⟨b, o + i, none⟩ = some cs[o + i] := box_cell hw hk (List.getElem?_eq_getElem hlt)
    have hf : w.frozen? ⟨b, o + i, none⟩ = false := box_free hw hk _
    have hw1 := box_set hw hk (o + i) v
    have hk1 : (L.set k (box b t (cs.set (o + i) v)))[k]? = some (box b t (cs.set (o + i) v)) := by
      obtain ⟨h1, _⟩ := List.getElem?_eq_some_iff.1 hk
      simp [h1]
    obtain ⟨w', hr, hm, hos, hot⟩ := run_storeCells2 (P := P) (o := o) r (i + 1) (cs.set (o + i) v) (w.setCell ⟨b, o + i, none⟩ v) _ hw1 hk1 h1.2 (by simp; omega)
    refine ⟨w', ?_, ?_, ⟨hos.1, hos.2.1, hos.2.2.1, by rw [hos.2.2.2.1]; simp [World.setCell], hos.2.2.2.2⟩, fun q hq => (hot q hq).trans ?_⟩
    · have hst : (store ⟨b, o + i, none⟩ v).run P w = .ok () (w.setCell ⟨b, o + i, none⟩ v) := by
        have h2 := h1.1
        cases v <;> simp [oneCell] at h2 <;> simp [store, Sem.run, hc, hf]
      simp [storeCells, addr_add, hst, Result.andThen, hr]
    · rw [List.set_set] at hm
      exact hm
    · simp [World.setCell, Array.getElem?_modify, Ne.symm hq]

/-! a map of pointers, each to a box of its own -/
def ptrs {β : Type} (ps : List (Int × Nat × β)) : List (Int × Value) := ps.map fun p => (p.1, .pointer (some ⟨p.2.1, 0, none⟩))
def blks {β : Type} (ps : List (Int × Nat × β)) : List Nat := ps.map fun p => p.2.1
def pmap {β : Type} (m : Nat) (t : TypeId) (enc : β → List Value) (ps : List (Int × Nat × β)) : Item where
  fp := fun b => b = m ∨ b ∈ blks ps
  A := fun w => IMap w m (ptrs ps) ∧ (∀ p ∈ ps, w.heap[p.2.1]? = some (.cells (enc p.2.2).toArray t (0, 0))) ∧ (blks ps).Nodup
  st := fun w w' h hA => ⟨hA.1.kept (h m (.inl rfl)), fun p hp => (h p.2.1 (.inr (List.mem_map.2 ⟨p, hp, rfl⟩))).trans (hA.2.1 p hp), hA.2.2⟩
theorem ptrs_look {β : Type} (ps : List (Int × Nat × β)) (k : Int) : mlook (ptrs ps) k = (ps.find? (fun p => p.1 == k)).map fun p => .pointer (some ⟨p.2.1, 0, none⟩) := by
  induction ps with
  | nil => rfl
  | cons p ps ih =>
    by_cases h : p.1 == k
    · simp [mlook, ptrs, h]
    · simp only [mlook, ptrs, List.map_cons] at ih ⊢
      rw [List.find?_cons_of_neg (by simpa using h), List.find?_cons_of_neg (by simpa using h)]
      exact ih
theorem ptrs_del {β : Type} (ps : List (Int × Nat × β)) (k : Int) : mdel (ptrs ps) k = ptrs (ps.eraseP fun p => p.1 == k) := by
  induction ps with
  | nil => rfl
  | cons p ps ih =>
    by_cases h : p.1 == k
    · simp [mdel, ptrs, h]
    · simp only [mdel, ptrs, List.map_cons] at ih ⊢
      rw [List.eraseP_cons_of_neg (by simpa using h), List.eraseP_cons_of_neg (by simpa using h), List.map_cons, ih]
theorem ptrs_put {β : Type} (ps : List (Int × Nat × β)) (k : Int) (b : Nat) (x : β) (h : ps.find? (fun p => p.1 == k) = none) : mput (ptrs ps) k (.pointer (some ⟨b, 0, none⟩)) = ptrs (ps ++ [(k, b, x)]) := by
  induction ps with
  | nil => rfl
  | cons p ps ih =>
    by_cases hk : p.1 == k
    · rw [List.find?_cons_of_pos (by simpa using hk)] at h; cases h
    · rw [List.find?_cons_of_neg (by simpa using hk)] at h
      have := ih h
      simp only [ptrs, List.map_cons, List.cons_append, mput] at this ⊢
      rw [if_neg (by simpa using hk), this]
section
variable {β : Type} {c : Cx} {w0 : World} {L : List Item} {f : Fr} {K : List Item → Fr → Prop} {d m : Nat} {ty t kt et tb : TypeId} {pos : String} {af : Array Edge} {g : Bool} {x y z : Operand} {enc : β → List Value} {ps : List (Int × Nat × β)}
theorem pmap_map (k : Nat) (hk : L[k]? = some (pmap m tb enc ps)) (w : World) (hw : Mem w0 L w) : IMap w m (ptrs ps) := (hw.item hk).1
theorem pc (k : Nat) {q r : Nat} {p : Int × Nat × β} {v : Value} (hk : L[k]? = some (pmap m tb enc ps)) (hp : ps[q]? = some p) (hv : (enc p.2.2)[r]? = some v) : g = true → ∀ w, Mem w0 L w → w.cell? ⟨p.2.1, 0 + r, none⟩ = some v := fun _ w hw => by
  have hA : (pmap m tb enc ps).A w := hw.item hk
  have := hA.2.1 p (List.mem_of_getElem? hp)
  simp [World.cell?, this, hv]
theorem f_pmapDel (k : Nat) {t2 : TypeId} {key : Int} (ht : c.P.underlying t = some (.map kt et)) (hkt : c.P.underlying kt = some (.int .i64)) (hx : ev f x = .map (some m)) (hy : ev f y = .int .i64 key) (hk : L[k]? = some (pmap m tb enc ps))
    (next : K (L.set k (pmap m tb enc (ps.eraseP fun p => p.1 == key))) f) : Eff c w0 L f ⟨none, .call { callee := .builtin .delete, args := #[x, y], argTypes := #[t, t2] }, ty, pos, af, none⟩ K :=
  ⟨rfl, rfl, rfl, fun w hw => by
    have hA : (pmap m tb enc ps).A w := hw.item hk
    obtain ⟨w', hrun, h1, h2, h3, h4⟩ := run_delete_imap (P := c.P) (k := key) (ty := ty) (t2 := t2) ht hkt hA.1
    have : (execOp (ev f) ⟨none, .call { callee := .builtin .delete, args := #[x, y], argTypes := #[t, t2] }, ty, pos, af, none⟩).run c.P w = .ok (.value (.tuple #[])) w' := by
      simp [execOp, resolve, invoke, builtin, hx, hy, hrun, Result.andThen]
    rw [this]
    have hsub : (ps.eraseP fun p => p.1 == key).Sublist ps := List.eraseP_sublist
    have hml := (hw.itemLt hk (b := m) (.inl rfl))
    have hne : ∀ p ∈ ps, p.2.1 ≠ m := fun p hp e => by
      have h5 := hA.2.1 p hp
      obtain ⟨es, cl, h6, _⟩ := hA.1
      rw [e, h6] at h5; cases h5
    have hbl : ∀ b, b ≠ m → w'.heap[b]? = w.heap[b]? := fun b hb => by
      by_cases hlt : b < w.heap.size
      · exact h2.block b hlt (fun e => hb (by injection e))
      · rw [Array.getElem?_eq_none (by omega), Array.getElem?_eq_none (by omega)]
    refine ⟨_, hw.set (it' := pmap m tb enc (ps.eraseP fun p => p.1 == key)) hk (fun b hb => ?_) ⟨by rw [← ptrs_del]; exact h1, fun p hp => (hbl p.2.1 (hne p (hsub.mem hp))).trans (hA.2.1 p (hsub.mem hp)), hA.2.2.sublist (hsub.map (fun p : Int × Nat × β => p.2.1))⟩ ⟨h2.os, h2.tape, h2.output, h3, h4⟩ (fun b hb => hbl b (fun e => hb (.inl e))), marks_set hk rfl, next⟩
    rcases hb with hb | hb
    · exact .inl hb
    · exact .inr ((hsub.map (fun p : Int × Nat × β => p.2.1)).mem hb)⟩
/-- a new box, laid into the map under a new key -/
theorem f_pmapPut (k : Nat) {key : Int} {b : Nat} {cs : List Value} (v : β) (ht : c.P.underlying t = some (.map kt et)) (hkt : c.P.underlying kt = some (.int .i64)) (hx : ev f x = .map (some m)) (hy : ev f y = .int .i64 key) (hz : ev f z = .pointer (some ⟨b, 0, none⟩))
    (hk : (box b tb cs :: L)[k + 1]? = some (pmap m tb enc ps)) (hcs : cs = enc v) (hno : ps.find? (fun p => p.1 == key) = none)
    (next : K (L.set k (pmap m tb enc (ps ++ [(key, b, v)]))) f) : Eff c w0 (box b tb cs :: L) f ⟨none, .mapUpdate t x y z, ty, pos, af, none⟩ K :=
  ⟨rfl, rfl, rfl, fun w hw => by
    have hA : (pmap m tb enc ps).A w := hw.item hk
    have hbx : w.heap[b]? = some (.cells cs.toArray tb (0, 0)) := hw.item (k := 0) rfl
    have hbl0 := hw.itemLt (k := 0) (it := box b tb cs) rfl (b := b) rfl
    obtain ⟨w', hrun, h1, h2, h3, h4⟩ := run_update_imap (P := c.P) ht hkt hA.1 key (.pointer (some ⟨b, 0, none⟩))
    have : (execOp (ev f) ⟨none, .mapUpdate t x y z, ty, pos, af, none⟩).run c.P w = .ok .skip w' := by simp [execOp, hx, hy, hz, hrun, Result.andThen]
    rw [this]
    have hk' : L[k]? = some (pmap m tb enc ps) := by simpa using hk
    have hdis : ∀ q, (pmap m tb enc ps).fp q → q ≠ b := fun q hq e => by
      subst e
      exact (List.pairwise_cons.1 hw.2.2.2).1 _ (List.mem_of_getElem? hk') q rfl hq
    have hne : ∀ p ∈ ps, p.2.1 ≠ m := fun p hp e => by
      have h5 := hA.2.1 p hp
      obtain ⟨es, cl, h6, _⟩ := hA.1
      rw [e, h6] at h5; cases h5
    have hbl : ∀ q, q ≠ m → w'.heap[q]? = w.heap[q]? := fun q hq => by
      by_cases hlt : q < w.heap.size
      · exact h2.block q hlt (fun e => hq (by injection e))
      · rw [Array.getElem?_eq_none (by omega), Array.getElem?_eq_none (by omega)]
    have hbm : b ≠ m := fun e => hdis m (.inl rfl) e.symm
    -- the map alone first, the box beside it
    have hnd : (blks (ps ++ [(key, b, v)])).Nodup := by
      unfold blks
      rw [List.map_append]
      refine List.nodup_append.2 ⟨hA.2.2, by simp, fun q hq r hr => ?_⟩
      simp at hr
      subst hr
      exact hdis q (.inr hq)
    have hAll : (pmap m tb enc (ps ++ [(key, b, v)])).A w' := ⟨by rw [← ptrs_put ps key b v hno]; exact h1, fun p hp => by
      rcases List.mem_append.1 hp with hp | hp
      · exact (hbl p.2.1 (hne p hp)).trans (hA.2.1 p hp)
      · simp at hp
        subst hp
        rw [← hcs]
        exact (hbl b hbm).trans hbx, hnd⟩
    refine ⟨L.set k (pmap m tb enc (ps ++ [(key, b, v)])), ?_, marks_set hk' rfl, next⟩
    -- Mem of the new list
    obtain ⟨q1, q2, q3, q4⟩ := hw
    have hLk : k < L.length := (List.getElem?_eq_some_iff.1 hk').1
    have hfp : ∀ q, (pmap m tb enc (ps ++ [(key, b, v)])).fp q → (pmap m tb enc ps).fp q ∨ q = b := fun q hq => by
      rcases hq with hq | hq
      · exact .inl (.inl hq)
      · simp only [blks, List.map_append, List.map_cons, List.map_nil, List.mem_append, List.mem_singleton] at hq
        rcases hq with hq | hq
        · exact .inl (.inr hq)
        · exact .inr hq
    have hp1 := List.pairwise_cons.1 q4
    have hother : ∀ (j : Nat) it, L[j]? = some it → j ≠ k → (∀ q, it.fp q → ¬ (pmap m tb enc ps).fp q) ∧ (∀ q, it.fp q → q ≠ b) := fun j it hj hjk => by
      constructor
      · intro q hq hq2
        obtain ⟨p1, e1⟩ := List.getElem?_eq_some_iff.1 hj
        obtain ⟨p2, e2⟩ := List.getElem?_eq_some_iff.1 hk'
        rcases Nat.lt_or_gt_of_ne hjk with h | h
        · exact List.pairwise_iff_getElem.1 hp1.2 j k p1 p2 h q (e1 ▸ hq) (e2 ▸ hq2)
        · exact List.pairwise_iff_getElem.1 hp1.2 k j p2 p1 h q (e2 ▸ hq2) (e1 ▸ hq)
      · intro q hq e
        subst e
        exact hp1.1 it (List.mem_of_getElem? hj) q rfl hq
    have hset : ∀ (j : Nat) it, (L.set k (pmap m tb enc (ps ++ [(key, b, v)])))[j]? = some it → (j = k ∧ it = pmap m tb enc (ps ++ [(key, b, v)])) ∨ (j ≠ k ∧ L[j]? = some it) := fun j it hj => by
      rw [List.getElem?_set] at hj
      split at hj
      · rename_i e
        cases hj; exact .inl ⟨e.symm, rfl⟩
      · rename_i e
        exact .inr ⟨fun h => e h.symm, hj⟩
    refine ⟨⟨⟨h2.os.trans q1.os, h2.tape.trans q1.tape, h2.output.trans q1.output, by rw [h3]; exact q1.size, fun q hq => (hbl q (fun e => ?_)).trans (q1.block q hq)⟩, Nat.le_trans q1.drawn h4⟩, ?_, ?_, ?_⟩
    · subst e
      have := (q3 _ (List.mem_cons_of_mem _ (List.mem_of_getElem? hk')) q (.inl rfl)).1
      omega
    · intro it hi
      obtain ⟨j, hj⟩ := List.mem_iff_getElem?.1 hi
      rcases hset j it hj with ⟨_, rfl⟩ | ⟨hjk, hj⟩
      · exact hAll
      · exact it.st w w' (fun q hq => hbl q (fun e => (hother j it hj hjk).1 q hq (.inl e))) (q2 it (List.mem_cons_of_mem _ (List.mem_of_getElem? hj)))
    · intro it hi q hq
      rw [h3]
      obtain ⟨j, hj⟩ := List.mem_iff_getElem?.1 hi
      rcases hset j it hj with ⟨_, rfl⟩ | ⟨hjk, hj⟩
      · rcases hfp q hq with hq | rfl
        · exact q3 _ (List.mem_cons_of_mem _ (List.mem_of_getElem? hk')) q hq
        · exact hbl0
      · exact q3 it (List.mem_cons_of_mem _ (List.mem_of_getElem? hj)) q hq
    · rw [List.pairwise_iff_getElem]
      intro i j hi hj hij q hq1 hq2
      have hi' := hset i _ (List.getElem?_eq_getElem hi)
      have hj' := hset j _ (List.getElem?_eq_getElem hj)
      rcases hi' with ⟨ei, e1⟩ | ⟨hik, e1⟩
      · rcases hj' with ⟨ej, _⟩ | ⟨hjk, e2⟩
        · omega
        · rw [e1] at hq1
          rcases hfp q hq1 with h | h
          · exact (hother j _ e2 hjk).1 q hq2 h
          · exact (hother j _ e2 hjk).2 q hq2 h
      · rcases hj' with ⟨ej, e2⟩ | ⟨hjk, e2⟩
        · rw [e2] at hq2
          rcases hfp q hq2 with h | h
          · exact (hother i _ e1 hik).1 q hq1 h
          · exact (hother i _ e1 hik).2 q hq1 h
        · obtain ⟨p1, e3⟩ := List.getElem?_eq_some_iff.1 e1
          obtain ⟨p2, e4⟩ := List.getElem?_eq_some_iff.1 e2
          exact List.pairwise_iff_getElem.1 hp1.2 i j p1 p2 hij q (e3 ▸ hq1) (e4 ▸ hq2)⟩
/-- a store of one cell into a box that the map leads to -/
theorem f_pmapStore (k : Nat) {q off n : Nat} {p : Int × Nat × β} (v' : β) {v : Value} (hx : ev f x = .pointer (some ⟨p.2.1, 0 + off, none⟩)) (hy : ev f y = v) (hs : ∀ w, (sizeOf t).run c.P w = .ok n w) (hn : v.cells.size = n) (h1 : v.cells.toList.all oneCell = true)
    (hk : L[k]? = some (pmap m tb enc ps)) (hp : ps[q]? = some p) (ho : off + v.cells.toList.length ≤ (enc p.2.2).length) (hv : enc v' = setAt (enc p.2.2) off v.cells.toList)
    (next : K (L.set k (pmap m tb enc (ps.set q (p.1, p.2.1, v')))) f) : Eff c w0 L f ⟨none, .store t x y, ty, pos, af, none⟩ K :=
  ⟨rfl, rfl, rfl, fun w hw => by
    have hA : (pmap m tb enc ps).A w := hw.item hk
    have hmem := List.mem_of_getElem? hp
    have hcell := hA.2.1 p hmem
    have hLk : k < L.length := (List.getElem?_eq_some_iff.1 hk).1
    have hbnd := hw.itemLt hk (b := p.2.1) (.inr (List.mem_map.2 ⟨p, hmem, rfl⟩))
    have hw1 : Mem w0 (L.set k (box p.2.1 tb (enc p.2.2))) w := hw.swap hk (fun b hb => by cases hb; exact .inr (List.mem_map.2 ⟨p, hmem, rfl⟩)) hcell
    obtain ⟨w', hrun, hm, hos, hother⟩ := run_storeCells2 (P := c.P) (b := p.2.1) (t := tb) (o := off) (k := k) v.cells.toList 0 (enc p.2.2) w _ hw1 (by simp [hLk]) h1 (by simpa using ho)
    rw [List.set_set, Nat.add_zero] at hm
    have hbox : w'.heap[p.2.1]? = some (.cells (enc v').toArray tb (0, 0)) := by
      have := hm.item (k := k) (it := box p.2.1 tb (setAt (enc p.2.2) off v.cells.toList)) (by simp [hLk])
      rw [hv]; exact this
    rw [Nat.zero_add] at hx
    have : (execOp (ev f) ⟨none, .store t x y, ty, pos, af, none⟩).run c.P w = .ok .skip w' := by
      simp [execOp, hx, hy, Instr.storeAt, Instr.sureAddr, storeVar, hs, hn, hrun, Result.andThen]
    rw [this]
    have hblocks : blks (ps.set q (p.1, p.2.1, v')) = blks ps := by
      unfold blks
      rw [List.map_set]
      apply List.ext_getElem?
      intro i
      rw [List.getElem?_set]
      split
      · rename_i e; subst e
        simp only [List.length_map, List.getElem?_map, hp]
        rw [if_pos (List.getElem?_eq_some_iff.1 hp).1]; rfl
      · rfl
    have hptrs : ptrs (ps.set q (p.1, p.2.1, v')) = ptrs ps := by
      unfold ptrs
      rw [List.map_set]
      apply List.ext_getElem?
      intro i
      rw [List.getElem?_set]
      split
      · rename_i e; subst e
        simp only [List.length_map, List.getElem?_map, hp]
        rw [if_pos (List.getElem?_eq_some_iff.1 hp).1]; rfl
      · rfl
    have hne : ∀ p ∈ ps, p.2.1 ≠ m := fun p hp e => by
      have h5 := hA.2.1 p hp
      obtain ⟨es, cl, h6, _⟩ := hA.1
      rw [e, h6] at h5; cases h5
    refine ⟨_, hw.set (it' := pmap m tb enc (ps.set q (p.1, p.2.1, v'))) hk (fun b hb => ?_) ⟨?_, ?_, by rw [hblocks]; exact hA.2.2⟩ hos (fun b hb => hother b (fun e => hb (.inr (by rw [e]; exact List.mem_map.2 ⟨p, hmem, rfl⟩)))), marks_set hk rfl, next⟩
    · rcases hb with hb | hb
      · exact .inl hb
      · rw [hblocks] at hb; exact .inr hb
    · rw [hptrs]; exact hA.1.kept (hother m (fun e => hne p hmem e.symm))
    · intro r hr
      obtain ⟨i, hi⟩ := List.mem_iff_getElem?.1 hr
      rw [List.getElem?_set] at hi
      split at hi
      · split at hi
        · cases hi; exact hbox
        · cases hi
      · rename_i hqi
        have hrm := List.mem_of_getElem? hi
        refine (hother r.2.1 (fun e => ?_)).trans (hA.2.1 r hrm)
        have h6 := List.pairwise_iff_getElem.1 hA.2.2
        obtain ⟨p1, e1⟩ := List.getElem?_eq_some_iff.1 hi
        obtain ⟨p2, e2⟩ := List.getElem?_eq_some_iff.1 hp
        rcases Nat.lt_or_gt_of_ne hqi with h | h
        · exact h6 q i (by simpa [blks] using p2) (by simpa [blks] using p1) h (by simp [blks, e1, e2, e])
        · exact h6 i q (by simpa [blks] using p1) (by simpa [blks] using p2) h (by simp [blks, e1, e2, e])⟩
end

end Go.Proofs.E
