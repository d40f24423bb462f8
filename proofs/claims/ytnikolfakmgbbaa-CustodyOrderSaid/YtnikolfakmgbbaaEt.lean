/-
  Regions that draw their order and end in one operation that turns the memory: all the others come ahead of it, in whatever order.
-/
import Derived.Test.YtnikolfakmgbbaaEc
namespace Go.Proofs.E
open Go Go.RowKit

section
variable {F : Fence} {n : Nat} {P : Program} {ops : Array Oper} {md : Region.Mode} {C : World → Prop}

/-- the quiet ones, in whatever order; then T -/
def wpAnyT (F : Fence) (n : Nat) (P : Program) (md : Region.Mode) (ops : Array Oper) (C : World → Prop) (T : Array Bool → Act → Prop) : Nat → Array Bool → Act → Prop
  | 0, listed, a => (∀ j ∈ Region.ready md ops listed, j + 1 = ops.size) ∧ T listed a
  | fuel + 1, listed, a => Region.ready md ops listed ≠ [] ∧ ∀ i ∈ Region.ready md ops listed, i + 1 ≠ ops.size ∧ qOpIn F n P ops C i (wpAnyT F n P md ops C T fuel (listed.setIfInBounds i true)) a

/-- what is listed stands behind what it waits for -/
def Closed (md : Region.Mode) (ops : Array Oper) (listed : Array Bool) : Prop := ∀ (j : Nat) oj, ops[j]? = some oj → listed.getD j false = true → ∀ e ∈ oj.after, Region.binds md e = true → listed.getD e.on false = true
theorem Closed.set {listed : Array Bool} {i : Nat} (h : Closed md ops listed) (hr : i ∈ Region.ready md ops listed) : Closed md ops (listed.setIfInBounds i true) := by
  intro j oj hj hl e he hb
  by_cases hij : i = j
  · subst hij
    obtain ⟨_, o, ho, hall⟩ := mem_ready.1 hr
    rw [hj] at ho; cases ho
    exact getD_set_true (hall e he hb)
  · rw [getD_set_ne false hij] at hl
    exact getD_set_true (h j oj hj hl e he hb)
/-- the last waits for it, at one remove or two -/
def waits (md : Region.Mode) (ops : Array Oper) (ol : Oper) (i : Nat) : Bool :=
  ol.after.any fun e => Region.binds md e && (e.on == i || ((ops[e.on]?).map fun oe => oe.after.any fun e' => Region.binds md e' && e'.on == i).getD false)
theorem wpAnyT_first {T : Array Bool → Act → Prop} {i : Nat} {oi : Oper} {v : Value} (hi : ops[i]? = some oi) (hil : i + 1 ≠ ops.size) (hsel : ∀ (j : Nat) (o : Oper) cs b, ops[j]? = some o → o.op ≠ .select cs b)
    (hw : ∀ ol, ops[ops.size - 1]? = some ol → waits md ops ol i = true) :
    ∀ (fuel : Nat) (listed : Array Bool) (a : Act), Closed md ops listed →
      (∀ j oj, ops[j]? = some oj → j ≠ i → listed.getD j true = false → (∀ e ∈ oj.after, Region.binds md e = true → e.on ≠ i) → oi.apart ops oj = true) →
      i ∈ Region.ready md ops listed → YieldsQuiet F n P ops C oi v a →
      wpAnyT F n P md ops C T fuel (listed.setIfInBounds i true) (a.put oi.dst v) → wpAnyT F n P md ops C T (fuel + 1) listed a := by
  have hlast : ∀ listed : Array Bool, Closed md ops listed → i ∈ Region.ready md ops listed → ∀ j ∈ Region.ready md ops listed, j + 1 ≠ ops.size := by
    intro listed hcl hr j hj e
    obtain ⟨_, oj, hoj, hall⟩ := mem_ready.1 hj
    have hwt := hw oj (by rw [show ops.size - 1 = j by omega]; exact hoj)
    obtain ⟨ed, hed, hwt⟩ := Array.any_eq_true'.1 hwt
    simp only [Bool.and_eq_true, Bool.or_eq_true, beq_iff_eq] at hwt
    have h0 := (mem_ready.1 hr).1
    have h1 : listed.getD i false = true := by
      have h2 := hall ed hed hwt.1
      rcases hwt.2 with h3 | h3
      · rw [h3] at h2; exact h2
      · cases ho : ops[ed.on]? with
        | none => rw [ho] at h3; cases h3
        | some oe =>
          rw [ho] at h3
          simp only [Option.map_some, Option.getD_some] at h3
          obtain ⟨e', he', h4⟩ := Array.any_eq_true'.1 h3
          simp only [Bool.and_eq_true, beq_iff_eq] at h4
          have := hcl ed.on oe ho h2 e' he' h4.1
          rw [h4.2] at this
          exact this
    rcases Nat.lt_or_ge i listed.size with h' | h'
    · simp [h'] at h0 h1; rw [h0] at h1; cases h1
    · simp [Array.getElem?_eq_none h'] at h1
  intro fuel
  induction fuel with
  | zero =>
    intro listed a hcl _ hr hy H
    refine ⟨fun h => (by rw [h] at hr; cases hr), fun j hj => ⟨hlast listed hcl hr j hj, ?_⟩⟩
    by_cases hji : j = i
    · subst hji; exact hy.qOpIn hi H
    · have := H.1 j (ready_mono hj hji)
      exact absurd this (hlast listed hcl hr j hj)
  | succ fuel ih =>
    intro listed a hcl hfree hr hy H
    refine ⟨fun h => (by rw [h] at hr; cases hr), fun j hj => ⟨hlast listed hcl hr j hj, ?_⟩⟩
    by_cases hji : j = i
    · subst hji; exact hy.qOpIn hi H
    · have h1 := (H.2 j (ready_mono hj hji)).2
      obtain ⟨hjun, oj, hoj, hall⟩ := mem_ready.1 hj
      have hnot : ∀ e ∈ oj.after, Region.binds md e = true → e.on ≠ i := fun e he hb heq => by
        have h1 := hall e he hb
        have h0 := (mem_ready.1 hr).1
        rw [heq] at h1
        rcases Nat.lt_or_ge i listed.size with h' | h'
        · simp [h'] at h0 h1; rw [h0] at h1; cases h1
        · simp [Array.getElem?_eq_none h'] at h1
      have h2 := qOpIn_put hoj (hfree j oj hoj hji hjun hnot) (fun cs b => hsel i oi cs b hi) (fun cs b => hsel j oj cs b hoj) hy h1
      have hfree' : ∀ k ok, ops[k]? = some ok → k ≠ i → (listed.setIfInBounds j true).getD k true = false →
          (∀ e ∈ ok.after, Region.binds md e = true → e.on ≠ i) → oi.apart ops ok = true := fun k ok hk hki hun hno => by
        refine hfree k ok hk hki ?_ hno
        by_cases hjk : j = k
        · subst hjk; exact hjun
        · rw [getD_set_ne true hjk] at hun; exact hun
      refine qOpIn_mono (fun a' h3 => ih (listed.setIfInBounds j true) a' (hcl.set hj) hfree' (ready_mono hr (Ne.symm hji)) h3.1 ?_) h2
      rw [Array.setIfInBounds_comm _ _ hji]
      exact h3.2

/-- the quiet ones may be taken in the order of the text -/
def lexT (md : Region.Mode) (ops : Array Oper) : Nat → Nat → Array Bool → Bool
  | 0, _, listed => (Region.ready md ops listed == [ops.size - 1]) && (Region.ready md ops (listed.setIfInBounds (ops.size - 1) true)).isEmpty
  | fuel + 1, k, listed => (Region.ready md ops listed).contains k && Region.free md ops listed k && ((ops[ops.size - 1]?).map (fun o => waits md ops o k)).getD false && lexT md ops fuel (k + 1) (listed.setIfInBounds k true)

theorem wpAnyT_lex {Q : Act → Prop} (hs : Region.noSelect ops = true) : ∀ (l : List Oper) (k : Nat) (listed : Array Bool) (a : Act), k + l.length + 1 = ops.size → (∀ (j : Nat), j < l.length → l[j]? = ops[k + j]?) → Closed md ops listed →
    lexT md ops l.length k listed = true → wpQuietIn F n P ops C Q l a → wpAnyT F n P md ops C (fun listed' a' => Q a' ∧ Region.ready md ops listed' = [ops.size - 1] ∧ Region.ready md ops (listed'.setIfInBounds (ops.size - 1) true) = []) l.length listed a
  | [], k, listed, a, hsz, _, _, hB, h => by
    simp only [List.length_nil, lexT, Bool.and_eq_true, beq_iff_eq, List.isEmpty_iff] at hB
    refine ⟨fun j hj => ?_, h, hB.1, hB.2⟩
    rw [hB.1] at hj
    simp only [List.length_nil] at hsz
    have := List.mem_singleton.1 hj
    omega
  | o :: l, k, listed, a, hsz, hl, hcl, hB, h => by
    have h0 : ops[k]? = some o := by simpa using (hl 0 (by simp)).symm
    simp only [List.length_cons, lexT, Bool.and_eq_true] at hB
    obtain ⟨⟨⟨hr, hf⟩, hlast⟩, hB'⟩ := hB
    have hst : qOpIn F n P ops C k (wpQuietIn F n P ops C Q l) a := by unfold qOpIn; simp only [h0]; exact h
    obtain ⟨v, hy, hK⟩ := yieldsQuiet_of_qOpIn h0 hst
    simp only [List.length_cons] at hsz
    exact wpAnyT_first h0 (by omega) (Region.noSelect_spec hs) (fun ol hol => by
        rw [hol] at hlast
        simpa using hlast) l.length listed a hcl (Region.free_spec h0 hf) (by simpa using hr) hy
      (wpAnyT_lex hs l (k + 1) _ _ (by omega) (fun j hj => by have := hl (j + 1) (by simpa using hj); simpa [Nat.add_assoc, Nat.add_comm 1 j] using this) (hcl.set (by simpa using hr)) hB' hK)

theorem wpAnyIn_of_T {T : Array Bool → Act → Prop} {Q' : Exit → Act → World → Prop} (hnd : ∀ (j : Nat) o, ops[j]? = some o → ∀ x, o.op ≠ .defer x)
    (hT : ∀ listed a w, C w → T listed a → wpAnyIn F n P md ops Q' 1 listed a w) : ∀ (fuel : Nat) (listed : Array Bool) (a : Act) (w : World), C w →
    wpAnyT F n P md ops C T fuel listed a → wpAnyIn F n P md ops Q' (fuel + 1) listed a w
  | 0, _, _, _, hw, h => hT _ _ _ hw h.2
  | fuel + 1, _, _, _, hw, h => ⟨fun h0 => absurd h0 h.1, fun i hi => wpOpIn_of_qOpInR hnd hw (fun a' w' hw' h' => wpAnyIn_of_T hnd hT fuel _ a' w' hw' h') (h.2 i hi).2⟩
end

theorem H_drawT {c : Cx} {PQ : PJ} {w0 : World} {L : List Item} {f : Fr} {id : Nat} {ops qs : List Oper} {last : Oper} (hops : ops = qs ++ [last]) (hm : c.P.follows .mixedOrders = true)
    (hB : (Region.noSelect ops.toArray && lexT .any ops.toArray qs.length 0 (Array.replicate ops.length false) && ops.all (fun o => !isDefer o.op)) = true)
    (h : QL c ops qs w0 L (fun f' => HL c ops [last] PQ w0 L f') f) : H c (.region id ops.toArray true) PQ w0 L f := by
  intro a w ha hw
  simp only [Bool.and_eq_true] at hB
  obtain ⟨⟨hS, hX⟩, hD⟩ := hB
  have hsz : ops.toArray.size = qs.length + 1 := by rw [hops]; simp
  have hlast : ops.toArray[ops.toArray.size - 1]? = some last := by rw [hsz, hops]; simp
  have hnd : ∀ (j : Nat) (o : Oper), ops.toArray[j]? = some o → ∀ x, o.op ≠ .defer x := fun j o hj => not_defer (by
    have hmem : o ∈ ops := List.mem_of_getElem? (by simpa using hj)
    simpa using List.all_eq_true.1 hD o hmem)
  refine wpIn_region_any hm ?_
  rw [hsz]
  refine wpAnyIn_of_T (C := Mem w0 L) hnd (T := fun listed' a' => (∃ f', IsFr c.N (marks L) a' f' ∧ HL c ops [last] PQ w0 L f') ∧ Region.ready .any ops.toArray listed' = [ops.toArray.size - 1] ∧ Region.ready .any ops.toArray (listed'.setIfInBounds (ops.toArray.size - 1) true) = []) ?_ qs.length _ a _ hw.drew ?_
  · rintro listed' a' w' hw' ⟨⟨f', h1, h2⟩, h3, h4⟩
    refine ⟨fun h0 => (by rw [h3] at h0; cases h0), fun i hi => ?_⟩
    rw [h3] at hi
    obtain rfl := List.mem_singleton.1 hi
    have h5 : wpListIn (FW c.ro) 0 c.P ops.toArray (lift c PQ) [last] a' w' := h2 a' w' h1 hw'
    unfold wpOpIn
    rw [hlast]
    show if _ then _ else _
    have h6 : if Region.wanted last (yielded ops.toArray a'.tmps) then last.wpIn (FW c.ro) 0 c.P a' w' (wpListIn (FW c.ro) 0 c.P ops.toArray (lift c PQ) []) (lift c PQ) else (∀ f, last.about c.P w' a'.eval = some f → (FW c.ro).fn f) ∧ wpListIn (FW c.ro) 0 c.P ops.toArray (lift c PQ) [] (a'.put last.dst undef) w' := h5
    have hk : wpListIn (FW c.ro) 0 c.P ops.toArray (lift c PQ) [] = wpAnyIn (FW c.ro) 0 c.P .any ops.toArray (lift c PQ) 0 (listed'.setIfInBounds (ops.toArray.size - 1) true) := by
      funext x y
      show lift c PQ .normal x y = (_ ∧ _)
      exact propext ⟨fun h => ⟨h4, h⟩, fun h => h.2⟩
    rw [hk] at h6
    exact h6
  · have := wpAnyT_lex (F := FW c.ro) (n := 0) (P := c.P) (md := .any) (C := Mem w0 L) (ops := ops.toArray) (Q := fun a' => ∃ f', IsFr c.N (marks L) a' f' ∧ HL c ops [last] PQ w0 L f') hS qs 0 (Array.replicate ops.length false) a (by rw [hsz]; omega) (fun j hj => by rw [hops]; simp [List.getElem?_append_left hj]) (fun j oj _ hl => by simp [Array.getElem?_replicate] at hl; split at hl <;> simp_all) hX (h a ha)
    have e : Array.replicate (qs.length + 1) false = Array.replicate ops.length false := by rw [hops]; simp
    rw [e]
    exact this

/-- .. as a rule of the engine: the quiet ones are walked as in any region that draws; 'XT' leads to the last -/
def XQ (c : Cx) (ops rest : List Oper) (last : Oper) (PQ : PJ) : J := fun w0 L f => QL c ops rest w0 L (fun f' => HL c ops [last] PQ w0 L f') f
theorem RT {c : Cx} {PQ : PJ} {w0 : World} {L : List Item} {f : Fr} {id : Nat} {ops : List Oper} (hops : ops = ops.dropLast ++ [ops.getLastD default]) (hm : c.P.follows .mixedOrders = true)
    (hB : (Region.noSelect ops.toArray && lexT .any ops.toArray ops.dropLast.length 0 (Array.replicate ops.length false) && ops.all (fun o => !isDefer o.op)) = true)
    (h : XL true c ops ops.dropLast (thenJ (fun w0 L f' => XL false c ops [ops.getLastD default] PQ w0 L f') PQ) w0 L f) : H c (.region id ops.toArray true) PQ w0 L f := H_drawT hops hm hB h

end Go.Proofs.E
