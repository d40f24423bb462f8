import Derived.Test.YtcpihdljjckecaaGreatDoorConEa
import Derived.Laws.AppendOwn
import Derived.Laws.OwnMore
import Derived.Laws.StructEq
import Derived.Laws.MakeOwn
import Derived.Shelf.SlSortCmp.NoneTotal
import Derived.Maps.RangeRun
set_option linter.unusedVariables false
set_option linter.unusedSimpArgs false
/-
  Regions that draw their order and in which several operations turn the memory; and cuts: what stands behind a piece of code, told once for all its ways.
-/
namespace Go.Proofs.E
open Go Go.RowKit

/-! ### operations that turn the memory, whatever comes behind -/
def putF (f : Fr) (dst : Option Nat) (v : Value) : Fr := match dst with | some d => upd f d v | none => f
def EffR (c : Cx) (w0 : World) (L : List Item) (f : Fr) (dst : Option Nat) (w : World) (K : List Item → Fr → Prop) : Result Next → Prop
  | .ok (.value v) w' => ∃ L', Mem w0 L' w' ∧ marks L' = marks L ∧ K L' (putF f dst v)
  | .ok .skip w' => ∃ L', Mem w0 L' w' ∧ marks L' = marks L ∧ K L' (putF f dst undef)
  | .ok (.enter k args) w' => w' = w ∧ Calls c.P k args w fun e w'' => ∃ v L', e = .returned v ∧ Mem w0 L' w'' ∧ marks L' = marks L ∧ K L' (putF f dst v)
  | _ => False
def dstOk (c : Cx) : Option Nat → Bool
  | some d => Nat.blt d c.N
  | none => true
structure Eff (c : Cx) (w0 : World) (L : List Item) (f : Fr) (o : Oper) (K : List Item → Fr → Prop) : Prop where
  guard : o.guard = none
  nd : isDefer o.op = false
  dst : dstOk c o.dst = true
  run : ∀ w, Mem w0 L w → EffR c w0 L f o.dst w K ((execOp (ev f) o).run c.P w)
theorem IsFr.putF {N : Nat} {D : List Deferred} {a : Act} {f : Fr} (h : IsFr N D a f) {c : Cx} (hc : c.N = N) {dst : Option Nat} (hd : dstOk c dst = true) (v : Value) : IsFr N D (a.put dst v) (putF f dst v) := by
  subst hc
  cases dst with
  | none => exact h.put_none v
  | some d => exact h.put hd v

section
variable {c : Cx} {PQ : PJ} {w0 : World} {L : List Item} {f : Fr} {ops rest : List Oper} {o : Oper}
theorem X_eff (h : Eff c w0 L f o fun L' f' => XL false c ops rest PQ w0 L' f') : XL false c ops (o :: rest) PQ w0 L f := by
  intro a w ha hw
  show if _ then _ else _
  rw [if_pos (by simp [Region.wanted, h.guard])]
  refine ⟨fun _ _ => trivial, ?_⟩
  rw [Oper.semAt_eq _ _ _ (not_defer h.nd), ha.eval]
  have h2 := h.run w hw
  generalize (execOp (ev f) o).run c.P w = r at h2
  cases r with
  | halt x w' => exact False.elim h2
  | ok x w' =>
    cases x with
    | value v => obtain ⟨L', hm, hk, hn⟩ := h2; exact hn _ _ (hk ▸ ha.putF rfl h.dst v) hm
    | skip => obtain ⟨L', hm, hk, hn⟩ := h2; exact hn _ _ (hk ▸ ha.putF rfl h.dst undef) hm
    | enter k args =>
      obtain ⟨e, hc⟩ := h2
      subst e
      refine ⟨fun h => by simp [FW] at h, (callsIn_FW (hc.mono ?_))⟩
      rintro e w'' ⟨v, L', rfl, hm, hk, hn⟩
      exact hn _ _ (hk ▸ ha.putF rfl h.dst v) hm
    | _ => exact False.elim h2
end

section
variable {c : Cx} {w0 : World} {L : List Item} {f : Fr} {K : List Item → Fr → Prop} {d : Nat} {ty : TypeId} {pos : String} {af : Array Edge} {x y z : Operand}
theorem f_box {t : TypeId} {v : Value} (hx : ev f x = v) (hd : Nat.blt d c.N = true) (next : ∀ b, K (box b t v.cells.toList :: L) (upd f d (.pointer (some ⟨b, 0, none⟩)))) : Eff c w0 L f ⟨some d, .box t x, ty, pos, af, none⟩ K :=
  ⟨rfl, rfl, hd, fun w hw => by
    have : (execOp (ev f) ⟨some d, .box t x, ty, pos, af, none⟩).run c.P w = .ok (.value (.pointer (some ⟨w.heap.size, 0, none⟩))) (w.alloc (.cells v.cells t)) := by simp [execOp, hx, Instr.box, newVar, newRow, Result.andThen]
    rw [this]
    exact ⟨box w.heap.size t v.cells.toList :: L, by simpa using hw.newBox t v.cells.toList, rfl, next _⟩⟩
theorem f_alloc {t : TypeId} {v : Value} (hz : ∀ w, (zeroValue t).run c.P w = .ok v w) (hd : Nat.blt d c.N = true) (next : ∀ b, K (box b t v.cells.toList :: L) (upd f d (.pointer (some ⟨b, 0, none⟩)))) : Eff c w0 L f ⟨some d, .alloc t, ty, pos, af, none⟩ K :=
  ⟨rfl, rfl, hd, fun w hw => by
    have : (execOp (ev f) ⟨some d, .alloc t, ty, pos, af, none⟩).run c.P w = .ok (.value (.pointer (some ⟨w.heap.size, 0, none⟩))) (w.alloc (.cells v.cells t)) := by simp [execOp, hz, Instr.alloc, newVar, newRow, Result.andThen]
    rw [this]
    exact ⟨box w.heap.size t v.cells.toList :: L, by simpa using hw.newBox t v.cells.toList, rfl, next _⟩⟩
theorem f_store (k : Nat) {t tb : TypeId} {v : Value} {b o n : Nat} {cs : List Value} (hx : ev f x = .pointer (some ⟨b, o, none⟩)) (hy : ev f y = v) (hs : ∀ w, (sizeOf t).run c.P w = .ok n w) (hn : v.cells.size = n) (h1 : v.cells.toList.all oneCell = true)
    (hk : L[k]? = some (box b tb cs)) (hl : Nat.ble (o + v.cells.toList.length) cs.length = true) (next : K (L.set k (box b tb (setAt cs o v.cells.toList))) f) : Eff c w0 L f ⟨none, .store t x y, ty, pos, af, none⟩ K :=
  ⟨rfl, rfl, rfl, fun w hw => by
    obtain ⟨w', hr, hm⟩ := run_storeCells (P := c.P) (o := o) v.cells.toList 0 cs w L hw hk h1 (Nat.le_of_ble_eq_true hl)
    have : (execOp (ev f) ⟨none, .store t x y, ty, pos, af, none⟩).run c.P w = .ok .skip w' := by simp [execOp, hx, hy, Instr.storeAt, Instr.sureAddr, storeVar, hs, hn, hr, Result.andThen]
    rw [this]
    exact ⟨_, hm, marks_set hk rfl, next⟩⟩
theorem f_callx {α : Type} {op : Op} {k : FuncId} {args : Array Value} {val : α → Value} {Lx : α → List Item} (hen : EnterG true c w0 L f op ty k args) (hc : ∀ w, Mem w0 L w → Calls c.P k args w fun e w' => ∃ x : α, e = .returned (val x) ∧ Mem w (Lx x) w') (hd : Nat.blt d c.N = true) (hmk : ∀ x, marks (Lx x) = []) (next : ∀ x, K (Lx x ++ L) (upd f d (val x))) (hnd : isDefer op = false := by rfl) : Eff c w0 L f ⟨some d, op, ty, pos, af, none⟩ K :=
  ⟨rfl, hnd, hd, fun w hw => by
    rw [hen rfl _ _ _ _ w hw]
    refine ⟨rfl, (hc w hw).mono ?_⟩
    rintro e w' ⟨x, rfl, hm⟩
    exact ⟨_, _, rfl, hw.callNew hm, by rw [marks_append, hmk x, List.nil_append], next x⟩⟩
end

/-! ### whatever order is drawn -/
section
variable {c : Cx} {w0 : World} {ops : List Oper}
def Sub (w0 : World) (L' L : List Item) : Prop := ∀ w, Mem w0 L' w → Mem w0 L w
theorem Sub.refl {L : List Item} : Sub w0 L L := fun _ h => h
theorem Mem.sublist {L L' : List Item} {w : World} (h : Mem w0 L w) (hs : L'.Sublist L) : Mem w0 L' w := by
  obtain ⟨h1, h2, h3, h4⟩ := h
  exact ⟨h1, fun x hx => h2 x (hs.subset hx), fun x hx => h3 x (hs.subset hx), h4.sublist hs⟩
theorem sub_drop (k : Nat) {L : List Item} : Sub w0 L (L.drop k) := fun _ h => Mem.sublist h (List.drop_sublist _ _)

def UpA (c : Cx) (w0 : World) (K : List Item → Act → Prop) (dst : Option Nat) (a : Act) (w : World) : Result Next → Prop
  | .ok (.value u) w' => ∃ L', Mem w0 L' w' ∧ K L' (a.put dst u)
  | .ok .skip w' => ∃ L', Mem w0 L' w' ∧ K L' (a.put dst undef)
  | .ok (.enter k args) w' => w' = w ∧ Calls c.P k args w fun e w'' => ∃ u L', e = .returned u ∧ Mem w0 L' w'' ∧ K L' (a.put dst u)
  | _ => False
theorem UpA.mono {K K' : List Item → Act → Prop} {dst dst' : Option Nat} {a a' : Act} {w : World} {r : Result Next} (h : ∀ L u, K L (a.put dst u) → K' L (a'.put dst' u)) (hh : UpA c w0 K dst a w r) : UpA c w0 K' dst' a' w r := by
  cases r with
  | halt x w' => exact False.elim hh
  | ok x w' =>
    cases x with
    | value u => obtain ⟨L', hm, hn⟩ := hh; exact ⟨L', hm, h _ _ hn⟩
    | skip => obtain ⟨L', hm, hn⟩ := hh; exact ⟨L', hm, h _ _ hn⟩
    | enter k args =>
      obtain ⟨e, hc⟩ := hh
      exact ⟨e, hc.mono fun e w'' ⟨u, L', h1, h2, h3⟩ => ⟨u, L', h1, h2, h _ _ h3⟩⟩
    | _ => exact False.elim hh
def OpA (c : Cx) (ops : List Oper) (w0 : World) (j : Nat) (K : List Item → Act → Prop) (L : List Item) (a : Act) : Prop :=
  match ops.toArray[j]? with
  | none => K L a
  | some o => ∀ w, Mem w0 L w → if Region.wanted o (yielded ops.toArray a.tmps) then UpA c w0 K o.dst a w ((execOp a.eval o).run c.P w) else K L (a.put o.dst undef)
def AnyA (c : Cx) (ops : List Oper) (w0 : World) (Lb : List Item) (QA : List Item → Act → Prop) : Nat → Array Bool → List Item → Act → Prop
  | 0, listed, L, a => Sub w0 L Lb ∧ Region.ready .any ops.toArray listed = [] ∧ QA L a
  | fuel + 1, listed, L, a => Sub w0 L Lb ∧ (Region.ready .any ops.toArray listed = [] → QA L a) ∧ ∀ i ∈ Region.ready .any ops.toArray listed, OpA c ops w0 i (AnyA c ops w0 Lb QA fuel (listed.setIfInBounds i true)) L a
theorem AnyA.sub {Lb : List Item} {QA : List Item → Act → Prop} : ∀ {fuel : Nat} {listed : Array Bool} {L : List Item} {a : Act}, AnyA c ops w0 Lb QA fuel listed L a → Sub w0 L Lb
  | 0, _, _, _, h => h.1
  | _ + 1, _, _, _, h => h.1
theorem OpA.mono {j : Nat} {K K' : List Item → Act → Prop} {L : List Item} {a : Act} (h : ∀ L a, K L a → K' L a) (hh : OpA c ops w0 j K L a) : OpA c ops w0 j K' L a := by
  unfold OpA at *
  cases ho : ops.toArray[j]? with
  | none => rw [ho] at hh; exact h _ _ hh
  | some o =>
    rw [ho] at hh
    intro w hw
    have h2 := hh w hw
    by_cases hwt : Region.wanted o (yielded ops.toArray a.tmps) = true
    · rw [if_pos hwt] at h2 ⊢; exact h2.mono fun L u => h L _
    · rw [if_neg hwt] at h2 ⊢; exact h _ _ h2
theorem OpA.wpOpIn {j : Nat} {K : List Item → Act → Prop} {K' : Act → World → Prop} {Q' : Exit → Act → World → Prop} {L : List Item} {a : Act} {w : World} (hnd : ∀ (j : Nat) o, ops.toArray[j]? = some o → ∀ x, o.op ≠ .defer x) (hw : Mem w0 L w) (h : ∀ L a w, Mem w0 L w → K L a → K' a w) (hh : OpA c ops w0 j K L a) :
    wpOpIn (FW c.ro) 0 c.P ops.toArray Q' j K' a w := by
  unfold OpA at hh
  unfold Go.wpOpIn
  cases ho : ops.toArray[j]? with
  | none => rw [ho] at hh; exact h _ _ _ hw hh
  | some o =>
    rw [ho] at hh
    have h2 := hh w hw
    dsimp only at h2 ⊢
    by_cases hwt : Region.wanted o (yielded ops.toArray a.tmps) = true
    · rw [if_pos hwt] at h2 ⊢
      refine ⟨fun _ _ => trivial, ?_⟩
      rw [Oper.semAt_eq _ _ _ (hnd j o ho)]
      generalize (execOp a.eval o).run c.P w = r at h2
      cases r with
      | halt x w' => exact False.elim h2
      | ok x w' =>
        cases x with
        | value v => obtain ⟨L', hm, hn⟩ := h2; exact h _ _ _ hm hn
        | skip => obtain ⟨L', hm, hn⟩ := h2; exact h _ _ _ hm hn
        | enter k args =>
          obtain ⟨e, hc⟩ := h2
          subst e
          refine ⟨fun h => by simp [FW] at h, (callsIn_FW (hc.mono ?_))⟩
          rintro e w'' ⟨v, L', rfl, hm, hn⟩
          exact h _ _ _ hm hn
        | _ => exact False.elim h2
    · rw [if_neg hwt] at h2 ⊢
      exact ⟨fun _ _ => trivial, h _ _ _ hw h2⟩
theorem AnyA.sound {Lb : List Item} {QA : List Item → Act → Prop} {Q' : Exit → Act → World → Prop} (hnd : ∀ (j : Nat) o, ops.toArray[j]? = some o → ∀ x, o.op ≠ .defer x) (hQ : ∀ L a w, Mem w0 L w → QA L a → Q' .normal a w) : ∀ (fuel : Nat) (listed : Array Bool) (L : List Item) (a : Act) (w : World), Mem w0 L w →
    AnyA c ops w0 Lb QA fuel listed L a → wpAnyIn (FW c.ro) 0 c.P .any ops.toArray Q' fuel listed a w
  | 0, _, _, _, _, hw, h => ⟨h.2.1, hQ _ _ _ hw h.2.2⟩
  | fuel + 1, _, _, _, _, hw, h => ⟨fun h0 => hQ _ _ _ hw (h.2.1 h0), fun i hi => (h.2.2 i hi).wpOpIn hnd hw fun L a w hw h => AnyA.sound hnd hQ fuel _ L a w hw h⟩

/-- it yields v, over whatever memory that holds Lb, and turns nothing that was there -/
def UpY (c : Cx) (v : Value) (w : World) : Result Next → Prop
  | .ok (.value u) w' => w' = w ∧ u = v
  | .ok .skip w' => w' = w ∧ v = undef
  | .ok (.enter k args) w' => w' = w ∧ Calls c.P k args w fun e w'' => e = .returned v ∧ Bel w w''
  | _ => False
def YB (c : Cx) (ops : List Oper) (w0 : World) (Lb : List Item) (o : Oper) (v : Value) (a : Act) : Prop :=
  (Region.wanted o (yielded ops.toArray a.tmps) = true ∧ ∀ w, Mem w0 Lb w → UpY c v w ((execOp a.eval o).run c.P w)) ∨ (Region.wanted o (yielded ops.toArray a.tmps) = false ∧ v = undef)
theorem YB.opA {i : Nat} {o : Oper} {v : Value} {a : Act} {L Lb : List Item} (hi : ops.toArray[i]? = some o) (hs : Sub w0 L Lb) (hy : YB c ops w0 Lb o v a) {K : List Item → Act → Prop} (h : K L (a.put o.dst v)) : OpA c ops w0 i K L a := by
  unfold OpA
  rw [hi]
  intro w hw
  rcases hy with ⟨hwt, hv⟩ | ⟨hwt, rfl⟩
  · rw [if_pos hwt]
    have h2 := hv w (hs w hw)
    generalize (execOp a.eval o).run c.P w = r at h2
    cases r with
    | halt x w' => exact False.elim h2
    | ok x w' =>
      cases x with
      | value u => obtain ⟨e1, e2⟩ := h2; rw [e1, e2]; exact ⟨L, hw, h⟩
      | skip => obtain ⟨e1, e2⟩ := h2; rw [e1]; exact ⟨L, hw, by rw [← e2]; exact h⟩
      | enter k args =>
        obtain ⟨e1, hc⟩ := h2
        exact ⟨e1, hc.mono fun e w'' ⟨h1, h2⟩ => ⟨v, L, h1, hw.call h2, h⟩⟩
      | _ => exact False.elim h2
  · rw [if_neg (by rw [hwt]; decide)]; exact h
theorem YB.of_same {o : Oper} {v : Value} {a a' : Act} {Lb : List Item} (hy : YB c ops w0 Lb o v a) (he : execOp a'.eval o = execOp a.eval o) (hw : Region.wanted o (yielded ops.toArray a'.tmps) = Region.wanted o (yielded ops.toArray a.tmps)) : YB c ops w0 Lb o v a' := by
  unfold YB at *
  rw [he, hw]
  exact hy
theorem OpA.put {j : Nat} {oi oj : Oper} {v : Value} {L Lb : List Item} (hj : ops.toArray[j]? = some oj) (hap : oi.apart ops.toArray oj = true) (hsi : ∀ cs b, oi.op ≠ .select cs b) (hsj : ∀ cs b, oj.op ≠ .select cs b) {K : List Item → Act → Prop} {a : Act}
    (hy : YB c ops w0 Lb oi v a) (h : OpA c ops w0 j K L (a.put oi.dst v)) : OpA c ops w0 j (fun L' a' => YB c ops w0 Lb oi v a' ∧ K L' (a'.put oi.dst v)) L a := by
  obtain ⟨h1, h2, h3⟩ := Oper.apart_spec hap
  have keep : ∀ u, YB c ops w0 Lb oi v (a.put oj.dst u) := fun u => hy.of_same (execOp_put oi hsi a oj.dst u h3) (wanted_put oi a oj.dst u h3)
  unfold OpA at *
  rw [hj] at h ⊢
  intro w hw
  have h4 := h w hw
  rw [wanted_put oj a oi.dst v h1, execOp_put oj hsj a oi.dst v h1] at h4
  by_cases hwt : Region.wanted oj (yielded ops.toArray a.tmps) = true
  · rw [if_pos hwt] at h4 ⊢
    exact h4.mono fun L' u hn => ⟨keep u, by rw [← Act.put_comm a v u h2]; exact hn⟩
  · rw [if_neg hwt] at h4 ⊢
    exact ⟨keep _, by rw [← Act.put_comm a v undef h2]; exact h4⟩
theorem AnyA.first {Lb : List Item} {QA : List Item → Act → Prop} {i : Nat} {oi : Oper} {v : Value} (hi : ops.toArray[i]? = some oi) (hsel : ∀ (j : Nat) (o : Oper) cs b, ops.toArray[j]? = some o → o.op ≠ .select cs b) :
    ∀ (fuel : Nat) (listed : Array Bool) (L : List Item) (a : Act),
      (∀ j oj, ops.toArray[j]? = some oj → j ≠ i → listed.getD j true = false → (∀ e ∈ oj.after, Region.binds .any e = true → e.on ≠ i) → oi.apart ops.toArray oj = true) →
      i ∈ Region.ready .any ops.toArray listed → YB c ops w0 Lb oi v a →
      AnyA c ops w0 Lb QA fuel (listed.setIfInBounds i true) L (a.put oi.dst v) → AnyA c ops w0 Lb QA (fuel + 1) listed L a := by
  intro fuel
  induction fuel with
  | zero =>
    intro listed L a _ hr hy H
    refine ⟨H.1, fun h => (by rw [h] at hr; cases hr), fun j hj => ?_⟩
    by_cases hji : j = i
    · subst hji; exact hy.opA hi H.1 H
    · have := ready_mono hj hji
      rw [H.2.1] at this
      cases this
  | succ fuel ih =>
    intro listed L a hfree hr hy H
    refine ⟨H.1, fun h => (by rw [h] at hr; cases hr), fun j hj => ?_⟩
    by_cases hji : j = i
    · subst hji; exact hy.opA hi H.1 H
    · have h1 := H.2.2 j (ready_mono hj hji)
      obtain ⟨hjun, oj, hoj, hall⟩ := mem_ready.1 hj
      have hnot : ∀ e ∈ oj.after, Region.binds .any e = true → e.on ≠ i := fun e he hb heq => by
        have h1 := hall e he hb
        have h0 := (mem_ready.1 hr).1
        rw [heq] at h1
        rcases Nat.lt_or_ge i listed.size with h' | h'
        · simp [h'] at h0 h1; rw [h0] at h1; cases h1
        · simp [Array.getElem?_eq_none h'] at h1
      have h2 := OpA.put hoj (hfree j oj hoj hji hjun hnot) (fun cs b => hsel i oi cs b hi) (fun cs b => hsel j oj cs b hoj) hy h1
      have hfree' : ∀ k ok, ops.toArray[k]? = some ok → k ≠ i → (listed.setIfInBounds j true).getD k true = false →
          (∀ e ∈ ok.after, Region.binds .any e = true → e.on ≠ i) → oi.apart ops.toArray ok = true := fun k ok hk hki hun hno => by
        refine hfree k ok hk hki ?_ hno
        by_cases hjk : j = k
        · subst hjk; exact hjun
        · rw [getD_set_ne true hjk] at hun; exact hun
      refine h2.mono fun L' a' h3 => ih (listed.setIfInBounds j true) L' a' hfree' (ready_mono hr (Ne.symm hji)) h3.1 ?_
      rw [Array.setIfInBounds_comm _ _ hji]
      exact h3.2
end

/-! the rules -/
def arr (n : Nat) (l : List Nat) : Array Bool := l.foldr (fun i r => r.setIfInBounds i true) (Array.replicate n false)
def QA (c : Cx) (PQ : PJ) (w0 : World) (L : List Item) (a : Act) : Prop := ∃ L' f', Sub w0 L L' ∧ marks L' = marks L ∧ IsFr c.N (marks L') a f' ∧ PQ .normal w0 L' f'
def XA (c : Cx) (ops : List Oper) (Lb : List Item) (fuel : Nat) (listed : List Nat) (PQ : PJ) (w0 : World) (L : List Item) (f : Fr) : Prop :=
  ∀ a, IsFr c.N (marks L) a f → AnyA c ops w0 Lb (QA c PQ w0) fuel (arr ops.length listed) L a
def LX (c : Cx) (ops : List Oper) (Lb : List Item) (fuel : Nat) (listed : List Nat) (i : Nat) (PQ : PJ) (w0 : World) (L : List Item) (f : Fr) : Prop :=
  ∀ a, IsFr c.N (marks L) a f → OpA c ops w0 i (AnyA c ops w0 Lb (QA c PQ w0) fuel (arr ops.length (i :: listed))) L a
def okF (ops : List Oper) (listed : List Nat) (i : Nat) : Bool := Region.noSelect ops.toArray && (Region.ready .any ops.toArray (arr ops.length listed)).contains i && Region.free .any ops.toArray (arr ops.length listed) i
section
variable {c : Cx} {PQ : PJ} {w0 : World} {L Lb : List Item} {f : Fr} {ops : List Oper} {listed : List Nat} {fuel i j k : Nat}
theorem RAb (Lb : List Item) {id : Nat} (hm : c.P.follows .mixedOrders = true) (hB : (ops.all (fun o => !isDefer o.op)) = true) (h : XA c ops Lb ops.length [] PQ w0 L f) : H c (.region id ops.toArray true) PQ w0 L f := by
  intro a w ha hw
  have hnd : ∀ (j : Nat) (o : Oper), ops.toArray[j]? = some o → ∀ x, o.op ≠ .defer x := fun j o hj => not_defer (by
    have hmem : o ∈ ops := List.mem_of_getElem? (by simpa using hj)
    simpa using List.all_eq_true.1 hB o hmem)
  refine wpIn_region_any hm ?_
  have := AnyA.sound (Q' := lift c PQ) hnd (fun _ a' w' hw' ⟨L', f', h0, _, h1, h2⟩ => ⟨w0, L', f', h1, h0 w' hw', h2⟩) ops.length _ L a _ hw.drew (h a ha)
  simpa [arr] using this
theorem RA {id : Nat} (hm : c.P.follows .mixedOrders = true) (hB : (ops.all (fun o => !isDefer o.op)) = true) (h : XA c ops L ops.length [] PQ w0 L f) : H c (.region id ops.toArray true) PQ w0 L f := RAb L hm hB h
theorem RAd (k : Nat) {id : Nat} (hm : c.P.follows .mixedOrders = true) (hB : (ops.all (fun o => !isDefer o.op)) = true) (h : XA c ops (L.drop k) ops.length [] PQ w0 L f) : H c (.region id ops.toArray true) PQ w0 L f := RAb (L.drop k) hm hB h
theorem aZ (hr : (Region.ready .any ops.toArray (arr ops.length listed)).isEmpty = true) (hs : Sub w0 L Lb) (h : PQ .normal w0 L f) : XA c ops Lb 0 listed PQ w0 L f := fun _ ha => ⟨hs, List.isEmpty_iff.1 hr, L, f, fun _ h => h, rfl, ha, h⟩
theorem rdy1 (hr : (Region.ready .any ops.toArray (arr ops.length listed) == [i]) = true) (hs : Sub w0 L Lb) (h : LX c ops Lb fuel listed i PQ w0 L f) : XA c ops Lb (fuel + 1) listed PQ w0 L f := fun a ha => by
  have hr := eq_of_beq hr
  refine ⟨hs, fun h0 => (by rw [hr] at h0; cases h0), fun x hx => ?_⟩
  rw [hr] at hx
  obtain rfl := List.mem_singleton.1 hx
  exact h a ha
theorem rdy2 (hr : (Region.ready .any ops.toArray (arr ops.length listed) == [i, j]) = true) (hs : Sub w0 L Lb) (h1 : LX c ops Lb fuel listed i PQ w0 L f) (h2 : LX c ops Lb fuel listed j PQ w0 L f) : XA c ops Lb (fuel + 1) listed PQ w0 L f := fun a ha => by
  have hr := eq_of_beq hr
  refine ⟨hs, fun h0 => (by rw [hr] at h0; cases h0), fun x hx => ?_⟩
  rw [hr] at hx
  simp only [List.mem_cons, List.not_mem_nil, or_false] at hx
  rcases hx with rfl | rfl
  · exact h1 a ha
  · exact h2 a ha
theorem rdy3 (hr : (Region.ready .any ops.toArray (arr ops.length listed) == [i, j, k]) = true) (hs : Sub w0 L Lb) (h1 : LX c ops Lb fuel listed i PQ w0 L f) (h2 : LX c ops Lb fuel listed j PQ w0 L f) (h3 : LX c ops Lb fuel listed k PQ w0 L f) : XA c ops Lb (fuel + 1) listed PQ w0 L f := fun a ha => by
  have hr := eq_of_beq hr
  refine ⟨hs, fun h0 => (by rw [hr] at h0; cases h0), fun x hx => ?_⟩
  rw [hr] at hx
  simp only [List.mem_cons, List.not_mem_nil, or_false] at hx
  rcases hx with rfl | rfl | rfl
  · exact h1 a ha
  · exact h2 a ha
  · exact h3 a ha
theorem aL {o : Oper} (hi : ops[i]? = some o) (h : Eff c w0 L f o fun L' f' => XA c ops Lb fuel (i :: listed) PQ w0 L' f') : LX c ops Lb fuel listed i PQ w0 L f := fun a ha => by
  unfold OpA
  rw [show ops.toArray[i]? = some o by simpa using hi]
  intro w hw
  rw [if_pos (by simp [Region.wanted, h.guard]), ha.eval]
  have h2 := h.run w hw
  generalize (execOp (ev f) o).run c.P w = r at h2
  cases r with
  | halt x w' => exact False.elim h2
  | ok x w' =>
    cases x with
    | value v => obtain ⟨L', hm, hk, hn⟩ := h2; exact ⟨L', hm, hn _ (hk ▸ ha.putF rfl h.dst v)⟩
    | skip => obtain ⟨L', hm, hk, hn⟩ := h2; exact ⟨L', hm, hn _ (hk ▸ ha.putF rfl h.dst undef)⟩
    | enter k args =>
      obtain ⟨e, hc⟩ := h2
      refine ⟨e, hc.mono ?_⟩
      rintro e w'' ⟨v, L', rfl, hm, hk, hn⟩
      exact ⟨v, L', rfl, hm, hn _ (hk ▸ ha.putF rfl h.dst v)⟩
    | _ => exact False.elim h2
theorem aF {o : Oper} {d : Nat} {v : Value} {g : Bool} (hi : ops[i]? = some o) (hdst : o.dst = some d) (hok : okF ops listed i = true) (hg : Gd f o.guard (ops.map (·.dst)) g) (hd : Nat.blt d c.N = true)
    (hy : g = true → ∀ w, Mem w0 Lb w → UpY c v w ((execOp (ev f) o).run c.P w)) (next : XA c ops Lb fuel (i :: listed) PQ w0 L (upd f d (gv g v))) : XA c ops Lb (fuel + 1) listed PQ w0 L f := fun a ha => by
  simp only [okF, Bool.and_eq_true] at hok
  have hi' : ops.toArray[i]? = some o := by simpa using hi
  have hwt : Region.wanted o (yielded ops.toArray a.tmps) = g := by
    have := wanted_fr (o := o) (ops := ops) ha
    rw [this]; exact hg
  refine AnyA.first (v := gv g v) hi' (Region.noSelect_spec hok.1.1) fuel _ L a (Region.free_spec hi' hok.2) (by simpa using hok.1.2) ?_ ?_
  · cases g with
    | true => exact .inl ⟨hwt, fun w hw => by rw [gv_true, ha.eval]; exact hy rfl w hw⟩
    | false => exact .inr ⟨hwt, gv_false⟩
  · rw [hdst]
    exact next _ (ha.put hd _)
theorem aR (Lb' : List Item) (hsub : Sub w0 Lb' Lb) (h : XA c ops Lb' fuel listed PQ w0 L f) : XA c ops Lb fuel listed PQ w0 L f := by
  intro a ha
  have : ∀ (fuel : Nat) (listed : Array Bool) (L : List Item) (a : Act) (QA : List Item → Act → Prop), AnyA c ops w0 Lb' QA fuel listed L a → AnyA c ops w0 Lb QA fuel listed L a := by
    intro fuel
    induction fuel with
    | zero => exact fun _ _ _ _ h => ⟨fun w hw => hsub w (h.1 w hw), h.2⟩
    | succ fuel ih => exact fun _ _ _ _ h => ⟨fun w hw => hsub w (h.1 w hw), h.2.1, fun i hi => (h.2.2 i hi).mono fun L a h => ih _ _ _ _ h⟩
  exact this _ _ _ _ _ (h a ha)
theorem aRL (hsub : Sub w0 L Lb) (h : XA c ops L fuel listed PQ w0 L f) : XA c ops Lb fuel listed PQ w0 L f := aR L hsub h
end
section
variable {c : Cx} {PQ : PJ} {w0 : World} {L Lb : List Item} {f : Fr} {ops : List Oper} {listed : List Nat} {fuel : Nat} {d : Nat} {op : Op} {ty : TypeId} {pos : String} {af : Array Edge} {v : Value}
theorem upY_val {g : Bool} {gu : Option (Nat × Bool)} (hev : EvG g c w0 Lb f op ty v) : g = true → ∀ w, Mem w0 Lb w → UpY c v w ((execOp (ev f) ⟨some d, op, ty, pos, af, gu⟩).run c.P w) := fun hg w hw => by rw [hev hg _ _ _ _ w hw]; exact ⟨rfl, rfl⟩
theorem upY_call {g : Bool} {gu : Option (Nat × Bool)} {k : FuncId} {args : Array Value} (hen : EnterG g c w0 Lb f op ty k args) (hc : g = true → ∀ w, Mem w0 Lb w → Calls c.P k args w fun e w' => e = .returned v ∧ Bel w w') : g = true → ∀ w, Mem w0 Lb w → UpY c v w ((execOp (ev f) ⟨some d, op, ty, pos, af, gu⟩).run c.P w) := fun hg w hw => by rw [hen hg _ _ _ _ w hw]; exact ⟨rfl, hc hg w hw⟩
theorem aV (i : Nat) (hok : okF ops listed i = true) (hi : ops[i]? = some ⟨some d, op, ty, pos, af, none⟩) (hev : EvG true c w0 Lb f op ty v) (hd : Nat.blt d c.N = true) (next : XA c ops Lb fuel (i :: listed) PQ w0 L (upd f d v)) : XA c ops Lb (fuel + 1) listed PQ w0 L f := aF hi rfl hok Gd_none hd (upY_val hev) (by rw [gv_true]; exact next)
theorem aVT (i : Nat) {j e : Nat} {b : Bool} (hok : okF ops listed i = true) (hi : ops[i]? = some ⟨some d, op, ty, pos, af, some (j, true)⟩) (hev : EvG b c w0 Lb f op ty v) (hj : (ops.map (·.dst))[j]? = some (some e)) (hx : f e = .bool b) (hd : Nat.blt d c.N = true) (next : XA c ops Lb fuel (i :: listed) PQ w0 L (upd f d (gv b v))) : XA c ops Lb (fuel + 1) listed PQ w0 L f := aF hi rfl hok (Gd_true hj hx) hd (upY_val hev) next
theorem aVF (i : Nat) {j e : Nat} {b : Bool} (hok : okF ops listed i = true) (hi : ops[i]? = some ⟨some d, op, ty, pos, af, some (j, false)⟩) (hev : EvG (!b) c w0 Lb f op ty v) (hj : (ops.map (·.dst))[j]? = some (some e)) (hx : f e = .bool b) (hd : Nat.blt d c.N = true) (next : XA c ops Lb fuel (i :: listed) PQ w0 L (upd f d (gv (!b) v))) : XA c ops Lb (fuel + 1) listed PQ w0 L f := aF hi rfl hok (Gd_false hj hx) hd (upY_val hev) next
theorem aC (i : Nat) {k : FuncId} {args : Array Value} (hok : okF ops listed i = true) (hi : ops[i]? = some ⟨some d, op, ty, pos, af, none⟩) (hen : EnterG true c w0 Lb f op ty k args) (hc : true = true → ∀ w, Mem w0 Lb w → Calls c.P k args w fun e w' => e = .returned v ∧ Bel w w') (hd : Nat.blt d c.N = true) (next : XA c ops Lb fuel (i :: listed) PQ w0 L (upd f d v)) : XA c ops Lb (fuel + 1) listed PQ w0 L f := aF hi rfl hok Gd_none hd (upY_call hen hc) (by rw [gv_true]; exact next)
end

/-! the order of the items -/
def insAt : Nat → Item → List Item → List Item
  | 0, x, L => x :: L
  | k + 1, x, y :: L => y :: insAt k x L
  | _ + 1, x, [] => [x]
theorem insAt_perm : ∀ (k : Nat) (x : Item) (L : List Item), (insAt k x L).Perm (x :: L)
  | 0, _, _ => List.Perm.refl _
  | _ + 1, _, [] => List.Perm.refl _
  | k + 1, x, y :: L => ((insAt_perm k x L).cons y).trans (List.Perm.swap x y L)
theorem Mem.perm {w0 w : World} {L L' : List Item} (h : Mem w0 L w) (hp : L'.Perm L) : Mem w0 L' w := by
  obtain ⟨h1, h2, h3, h4⟩ := h
  refine ⟨h1, fun x hx => h2 x (hp.subset hx), fun x hx => h3 x (hp.subset hx), ?_⟩
  exact (hp.pairwise_iff (fun {x y} h b hb hg => h b hg hb)).2 h4
theorem marks_ins : ∀ (k : Nat) (x : Item) (L : List Item), marks [x] = [] → marks (insAt k x L) = marks L
  | 0, x, L, h => by rw [show insAt 0 x L = [x] ++ L from rfl, marks_append, h, List.nil_append]
  | _ + 1, _, [], h => h
  | k + 1, x, y :: L, h => by rw [show insAt (k + 1) x (y :: L) = [y] ++ insAt k x L from rfl, show y :: L = [y] ++ L from rfl, marks_append, marks_append, marks_ins k x L h]
theorem AnyA.weak {c : Cx} {ops : List Oper} {w0 : World} {Lb : List Item} {Q : List Item → Act → Prop} (hq : ∀ L1 L2 a, Sub w0 L1 L2 → marks L2 = marks L1 → Q L2 a → Q L1 a) : ∀ (fuel : Nat) (listed : Array Bool) (L1 L2 : List Item) (a : Act), Sub w0 L1 L2 → marks L2 = marks L1 → AnyA c ops w0 Lb Q fuel listed L2 a → AnyA c ops w0 Lb Q fuel listed L1 a := by
  intro fuel
  induction fuel with
  | zero => exact fun _ _ _ _ hs hk h => ⟨fun w hw => h.1 w (hs w hw), h.2.1, hq _ _ _ hs hk h.2.2⟩
  | succ fuel ih =>
    intro listed L1 L2 a hs hk h
    refine ⟨fun w hw => h.1 w (hs w hw), fun h0 => hq _ _ _ hs hk (h.2.1 h0), fun i hi => ?_⟩
    have h3 := h.2.2 i hi
    unfold OpA at h3 ⊢
    cases ho : ops.toArray[i]? with
    | none => rw [ho] at h3; exact ih _ _ _ _ hs hk h3
    | some o =>
      rw [ho] at h3
      intro w hw
      have h4 := h3 w (hs w hw)
      by_cases hwt : Region.wanted o (yielded ops.toArray a.tmps) = true
      · rw [if_pos hwt] at h4 ⊢; exact h4
      · rw [if_neg hwt] at h4 ⊢; exact ih _ _ _ _ hs hk h4
theorem QA.weak {c : Cx} {PQ : PJ} {w0 : World} (L1 L2 : List Item) (a : Act) (hs : Sub w0 L1 L2) (hk : marks L2 = marks L1) (h : QA c PQ w0 L2 a) : QA c PQ w0 L1 a := by
  obtain ⟨L', f', h1, h2, h3, h4⟩ := h
  exact ⟨L', f', fun w hw => h1 w (hs w hw), h2.trans hk, h3, h4⟩
theorem aI (k : Nat) {c : Cx} {PQ : PJ} {w0 : World} {L Lb : List Item} {x : Item} {f : Fr} {ops : List Oper} {listed : List Nat} {fuel : Nat} (h : XA c ops Lb fuel listed PQ w0 (insAt k x L) f) (hx : marks [x] = [] := by rfl) : XA c ops Lb fuel listed PQ w0 (x :: L) f := by
  intro a ha
  have hk : marks (insAt k x L) = marks (x :: L) := by rw [marks_ins k x L hx, show x :: L = [x] ++ L from rfl, marks_append, hx, List.nil_append]
  exact AnyA.weak QA.weak fuel _ (x :: L) (insAt k x L) a (fun w hw => hw.perm (insAt_perm k x L)) hk (h a (by rw [hk]; exact ha))

/-! ### cuts -/
structure CutAt {σ : Type} (S : List Nat) (f0 : Fr) (vals : σ → List (Nat × Value)) (Li : σ → List Item) (I : σ → Prop) (w0 w1 : World) (L : List Item) (f : Fr) : Prop where
  out : ∃ s, Agree S f f0 ∧ Has f (vals s) ∧ (∀ w, Mem w1 L w → Mem w0 (Li s) w) ∧ marks (Li s) = marks L ∧ I s
def cutJ {σ : Type} (S : List Nat) (f0 : Fr) (vals : σ → List (Nat × Value)) (Li : σ → List Item) (I : σ → Prop) (w0 : World) (PQ : PJ) : PJ := thenJ (CutAt S f0 vals Li I w0) PQ
theorem H_cut {c : Cx} {PQ : PJ} {w0 : World} {L : List Item} {f : Fr} {k : Code} {σ : Type} (S : List Nat) (vals : σ → List (Nat × Value)) (Li : σ → List Item) (I : σ → Prop) (h : H c k (cutJ S f vals Li I w0 PQ) w0 L f)
    (next : ∀ s g, I s → PQ .normal w0 (Li s) (updL (over f S g) (vals s))) : H c k PQ w0 L f := by
  intro a w ha hw
  refine Code.wpIn_mono (fun e a w h => ?_) (h a w ha hw)
  obtain ⟨w1, L1, f1, h1, h2, h3⟩ := h
  cases e with
  | normal =>
    obtain ⟨s, h4, h5, h6, h7, h8⟩ := h3.out
    refine ⟨w0, Li s, updL (over f S f1) (vals s), ?_, h6 w h2, next s f1 h8⟩
    rw [← frame_of h4 h5, h7]; exact h1
  | _ => exact ⟨w1, L1, f1, h1, h2, h3⟩
theorem cutJ_normal {σ : Type} {S : List Nat} {f f0 : Fr} {vals : σ → List (Nat × Value)} {Li : σ → List Item} {I : σ → Prop} {w0 w1 : World} {L : List Item} {PQ : PJ} (s : σ) (hag : Agree S f f0) (hv : Has f (vals s)) (hm : ∀ w, Mem w1 L w → Mem w0 (Li s) w) (hk : marks (Li s) = marks L) (hI : I s) : cutJ S f0 vals Li I w0 PQ .normal w1 L f := ⟨⟨s, hag, hv, hm, hk, hI⟩⟩
theorem cutJ_exit {σ : Type} {S : List Nat} {f f0 : Fr} {vals : σ → List (Nat × Value)} {Li : σ → List Item} {I : σ → Prop} {w0 w1 : World} {L : List Item} {PQ : PJ} {i : Nat} (h : PQ (.exit i) w1 L f) : cutJ S f0 vals Li I w0 PQ (.exit i) w1 L f := h
theorem cutJ_ret {σ : Type} {S : List Nat} {f f0 : Fr} {vals : σ → List (Nat × Value)} {Li : σ → List Item} {I : σ → Prop} {w0 w1 : World} {L : List Item} {PQ : PJ} (h : PQ .ret w1 L f) : cutJ S f0 vals Li I w0 PQ .ret w1 L f := h

end Go.Proofs.E

/-
  Rows that the call owns and that grow by append.
-/
namespace Go.Proofs.E
open Go Go.RowKit

theorem Mem.regrow {w0 w w' : World} {L : List Item} {k : Nat} {it it' : Item} (h : Mem w0 L w) (hk : L[k]? = some it) (hfp : ∀ b, it'.fp b → it.fp b ∨ w.heap.size ≤ b) (hlt : ∀ b, it'.fp b → b < w'.heap.size) (hA : it'.A w')
    (hos : w'.os = w.os ∧ w'.tape = w.tape ∧ w'.output = w.output ∧ w.drawn ≤ w'.drawn) (hsz : w.heap.size ≤ w'.heap.size) (hout : ∀ b, b < w.heap.size → ¬ it.fp b → w'.heap[b]? = w.heap[b]?) : Mem w0 (L.set k it') w' := by
  obtain ⟨h1, h2, h3, h4⟩ := h
  have hmem := List.mem_of_getElem? hk
  refine ⟨⟨⟨hos.1.trans h1.os, hos.2.1.trans h1.tape, hos.2.2.1.trans h1.output, Nat.le_trans h1.size hsz, fun b hb => (hout b (Nat.lt_of_lt_of_le hb h1.size) (fun hf => by have := (h3 it hmem b hf).1; omega)).trans (h1.block b hb)⟩, Nat.le_trans h1.drawn hos.2.2.2⟩, ?_, ?_, ?_⟩
  · intro x hx
    obtain ⟨j, hj⟩ := List.mem_iff_getElem?.1 hx
    rw [List.getElem?_set] at hj
    split at hj
    · split at hj
      · cases hj; exact hA
      · cases hj
    · rename_i hne
      have hxm := List.mem_of_getElem? hj
      refine x.st w w' (fun b hf => hout b (h3 x hxm b hf).2 (fun hg => ?_)) (h2 x hxm)
      rcases Nat.lt_or_gt_of_ne hne with hlt | hlt
      · obtain ⟨p, hp⟩ := List.getElem?_eq_some_iff.1 hk
        obtain ⟨q, hq⟩ := List.getElem?_eq_some_iff.1 hj
        have := List.pairwise_iff_getElem.1 h4 k j p q hlt b (hp ▸ hg)
        exact this (hq ▸ hf)
      · obtain ⟨p, hp⟩ := List.getElem?_eq_some_iff.1 hk
        obtain ⟨q, hq⟩ := List.getElem?_eq_some_iff.1 hj
        have := List.pairwise_iff_getElem.1 h4 j k q p hlt b (hq ▸ hf)
        exact this (hp ▸ hg)
  · intro x hx b hb
    obtain ⟨j, hj⟩ := List.mem_iff_getElem?.1 hx
    rw [List.getElem?_set] at hj
    split at hj
    · split at hj
      · cases hj
        refine ⟨?_, hlt b hb⟩
        rcases hfp b hb with h | h
        · exact (h3 it hmem b h).1
        · have := h1.size; omega
      · cases hj
    · have := h3 x (List.mem_of_getElem? hj) b hb
      exact ⟨this.1, by omega⟩
  · have h5 := h4
    rw [List.pairwise_iff_getElem] at h4 ⊢
    intro i j hi hj hij b hb hg
    simp only [List.length_set] at hi hj
    obtain ⟨p, hp⟩ := List.getElem?_eq_some_iff.1 hk
    simp only [List.getElem_set] at hb hg
    split at hb
    · rename_i e
      subst e
      rw [if_neg (by omega)] at hg
      rcases hfp b hb with h | h
      · exact h4 k j hi hj hij b (hp ▸ h) hg
      · have := (h3 _ (List.getElem_mem hj) b hg).2; omega
    · split at hg
      · rename_i e
        subst e
        rcases hfp b hg with h | h
        · exact h4 i k hi hj hij b hb (hp ▸ h)
        · have := (h3 _ (List.getElem_mem hi) b hb).2; omega
      · exact h4 i j hi hj hij b hb hg

/-- a row of the call's own: the slice '.slice A xs.length c' reads as xs, and nobody else holds its block -/
def rowT {α : Type} (e : TypeId) (k : Nat) (enc : α → List Value) (A : Option Addr) (c : Nat) (xs : List α) : Item where
  fp := fun b => A.map (·.block) = some b
  A := fun w => w.ownsRow 0 e k (.slice A xs.length c) xs.length (xs.flatMap enc)
  st := fun w w' h hA => by
    refine ⟨hA.1, ?_⟩
    rcases hA.2 with h0 | ⟨g, cap, cur, hv, h1, h2, h3⟩
    · exact .inl h0
    · refine .inr ⟨g, cap, cur, hv, h1, ?_, h3⟩
      simp only [Value.slice.injEq] at hv
      rw [h g (by rw [hv.1]; rfl)]
      exact h2

section
variable {α : Type} {e : TypeId} {k : Nat} {enc : α → List Value} {A : Option Addr} {n : Nat} {xs : List α} {w0 w : World} {L : List Item}
theorem flat_len (he : ∀ x, (enc x).length = k) : ∀ xs : List α, (xs.flatMap enc).length = xs.length * k
  | [] => by simp
  | x :: xs => by simp [he x, flat_len he xs, Nat.succ_mul]; omega
theorem flat_inv (he : ∀ x, (enc x).length = k) : ∀ (xs : List α) (j : Nat) (u : Value), (xs.flatMap enc)[j]? = some u → ∃ i x r, xs[i]? = some x ∧ (enc x)[r]? = some u ∧ j = i * k + r
  | [], j, u, h => by simp at h
  | y :: ys, j, u, h => by
    simp only [List.flatMap_cons] at h
    by_cases hj : j < (enc y).length
    · rw [List.getElem?_append_left hj] at h
      exact ⟨0, y, j, rfl, h, by simp⟩
    · rw [List.getElem?_append_right (by omega)] at h
      obtain ⟨i, x, r, h1, h2, h3⟩ := flat_inv he ys _ u h
      rw [he] at h3 hj
      exact ⟨i + 1, x, r, by simpa using h1, h2, by simp [Nat.succ_mul]; omega⟩
theorem Mem.nilRow {c : Nat} (h : Mem w0 L w) (e : TypeId) (k : Nat) (enc : α → List Value) (hc : c = 0) : Mem w0 (rowT e k enc none c ([] : List α) :: L) w := by
  subst hc
  obtain ⟨h1, h2, h3, h4⟩ := h
  refine ⟨h1, ?_, ?_, List.pairwise_cons.2 ⟨fun y _ b (hb : none = some b) => (by cases hb), h4⟩⟩
  · intro x hx
    rcases List.mem_cons.1 hx with rfl | hx
    · exact ⟨by simp, .inl ⟨rfl, rfl⟩⟩
    · exact h2 x hx
  · intro x hx b hb
    rcases List.mem_cons.1 hx with rfl | hx
    · cases hb
    · exact h3 x hx b hb
theorem slAt_row {j c : Nat} (h : Mem w0 L w) (hk : L[j]? = some (rowT e k enc A c xs)) (he : ∀ x, (enc x).length = k) (hl : xs.length ≤ 9223372036854775807) : SlAt w k enc A xs.length xs := by
  have hA : w.ownsRow 0 e k (.slice A xs.length c) xs.length (xs.flatMap enc) := h.item hk
  refine ⟨rfl, hl, fun hn => ?_⟩
  rcases hA.2 with ⟨_, h0⟩ | ⟨g, cap, cur, hv, h1, h2, h3, h4, h5, h6⟩
  · omega
  · simp only [Value.slice.injEq] at hv
    obtain ⟨rfl, _, rfl⟩ := hv
    refine ⟨g, 0, rfl, (Array.getElem?_eq_some_iff.1 h2).1, fun i x hx r u hu => ?_⟩
    have := hA.cells (g := g) rfl (i * k + r) u (flat_get he xs i x hx r u hu)
    rw [add_none rfl] at this
    simpa using this
end

section
variable {α : Type} {e t : TypeId} {k : Nat} {enc : α → List Value} {A B : Option Addr} {xs ys : List α} {c : Cx} {w0 : World} {L : List Item} {f : Fr} {K : List Item → Fr → Prop} {d : Nat} {ty : TypeId} {pos : String} {af : Array Edge} {x y : Operand}
theorem f_append (j : Nat) {cA cB m : Nat} {i : TypeInfo} {z : Value} (ht : c.P.underlying t = some (.slice e)) (hi : c.P.info? e = some i) (hz : i.zero = some z) (hsize : i.size = k) (hzs : z.cells.size = k) (hk0 : Nat.blt 0 k = true)
    (he : ∀ x, (enc x).length = k) (h1 : ∀ x, (enc x).all (·.oneCell') = true) (hx : ev f x = .slice A xs.length cA) (hy : ev f y = .slice B m cB) (hk : L[j]? = some (rowT e k enc A cA xs)) (hr : ∀ w, Mem w0 L w → SlAt w k enc B m ys)
    (hlen : xs.length + ys.length ≤ 1000000 ∧ i.bytes ≤ 100000) (hd : Nat.blt d c.N = true) (next : ∀ A' c', K (L.set j (rowT e k enc A' c' (xs ++ ys))) (upd f d (.slice A' (xs ++ ys).length c'))) :
    Eff c w0 L f ⟨some d, .call { callee := .builtin .append, args := #[x, y], argTypes := #[t, t] }, ty, pos, af, none⟩ K :=
  ⟨rfl, rfl, hd, fun w hw => by
    have hA : w.ownsRow 0 e k (.slice A xs.length cA) xs.length (xs.flatMap enc) := hw.item hk
    have hS := hr w hw
    have hm : ys.length = m := hS.1
    have hk1 : 0 < k := Nat.le_of_ble_eq_true hk0
    have hex : ∀ v' w', (Builtin.append_ #[t, t] ty #[.slice A xs.length cA, .slice B m cB]).run c.P w = .ok v' w' → (execOp (ev f) ⟨some d, .call { callee := .builtin .append, args := #[x, y], argTypes := #[t, t] }, ty, pos, af, none⟩).run c.P w = .ok (.value v') w' := fun v' w' h => by
      simp [execOp, resolve, invoke, builtin, hx, hy, h]
    have key : ∃ v' w', (Builtin.append_ #[t, t] ty #[.slice A xs.length cA, .slice B m cB]).run c.P w = .ok v' w' ∧ w'.ownsRow 0 e k v' (xs.length + m) (xs.flatMap enc ++ ys.flatMap enc) ∧ w.grownBy w' (Value.slice A xs.length cA).ownBlock ∧ w.drawn ≤ w'.drawn ∧ ∀ b, v'.ownBlock = some b → (Value.slice A xs.length cA).ownBlock = some b ∨ w.heap.size ≤ b := by
      have hnl : (ys.flatMap enc).length = m * k := by rw [flat_len he, hm]
      have hby : (xs.length + m) * i.bytes ≤ 140737488355328 := by
        have := Nat.mul_le_mul (show xs.length + m ≤ 1000000 by omega) hlen.2
        omega
      cases B with
      | none =>
        have hm0 : m = 0 := by
          rcases Nat.eq_zero_or_pos m with h | h
          · exact h
          · obtain ⟨b, off, hb, _⟩ := hS.2.2 h; cases hb
        subst hm0
        have hy0 : ys = [] := List.eq_nil_of_length_eq_zero hm
        subst hy0
        refine ⟨.slice A xs.length cA, w, ?_, by simpa using hA, ⟨rfl, rfl, rfl, Nat.le_refl _, fun _ _ _ => rfl⟩, Nat.le_refl _, fun b hb => .inl hb⟩
        rcases hA.2 with ⟨hv, h0⟩ | ⟨g, cap, cur, hv, _, _, hnc, _⟩
        · simp only [Value.slice.injEq] at hv
          obtain ⟨rfl, h6, rfl⟩ := hv
          rw [h0]
          simp [Builtin.append_, run_underlying ht, sizeOf, typeInfo, hi, Builtin.lenOf, Builtin.firstCells]
        · simp only [Value.slice.injEq] at hv
          obtain ⟨rfl, _, rfl⟩ := hv
          simp [Builtin.append_, run_underlying ht, sizeOf, typeInfo, hi, Builtin.lenOf, Builtin.firstCells, hnc, storeCells]
      | some a =>
        have hnews : ∀ j u, (ys.flatMap enc)[j]? = some u → w.cell? (a.add j) = some u := fun j u hu => by
          obtain ⟨q, v, r, hq, hv, rfl⟩ := flat_inv he ys j u hu
          have hq' : q < m := by have := (List.getElem?_eq_some_iff.1 hq).1; omega
          obtain ⟨b, off, hb, _, hc⟩ := hS.2.2 (by omega)
          cases hb
          have := hc q v hq r u hv
          rw [add_none rfl]
          rw [Nat.add_assoc] at this
          exact this
        have hone : ∀ u ∈ ys.flatMap enc, u.oneCell' = true := fun u hu => by
          obtain ⟨v, _, hv⟩ := List.mem_flatMap.1 hu
          exact List.all_eq_true.1 (h1 v) u hv
        obtain ⟨v', w', h2, h3, h4, _⟩ := run_append_own (P := c.P) w 0 t ty e i z k i.bytes ht hi hz hsize rfl hzs hk1 _ xs.length _ hA a m cB (ys.flatMap enc) hnl hnews hone (by simp only [maxLen]; omega) hby (Nat.zero_le _)
        refine ⟨v', w', h2, h3, h4, ?_⟩
        subst hsize
        rcases hA.2 with ⟨hv, h0⟩ | ⟨g, cap, cur, hv, h6, h7, hnc, hcm, hcs, htk⟩
        · simp only [Value.slice.injEq] at hv
          obtain ⟨rfl, h6, rfl⟩ := hv
          rw [h0] at h2
          by_cases hm0 : m = 0
          · subst hm0
            have : (Builtin.append_ #[t, t] ty #[.slice none 0 0, .slice (some a) 0 cB]).run c.P w = .ok (.slice none 0 0) w := by
              simp [Builtin.append_, run_underlying ht, sizeOf, typeInfo, hi, Builtin.lenOf, Builtin.firstCells, loadCells, loadCellsFrom]
            rw [this] at h2
            cases h2
            exact ⟨Nat.le_refl _, fun b hb => by cases hb⟩
          · have := run_append_nil (P := c.P) w t ty e i z ht hi hz a m cB (ys.flatMap enc) hnl hnews (by omega) (by omega) (by have hb := hby; rw [h0] at hb; simp only [Nat.zero_add] at hb; omega)
            rw [this] at h2
            cases h2
            exact ⟨Nat.le_succ _, fun b hb => by
              simp only [Value.ownBlock, Option.some.injEq] at hb
              exact .inr (by omega)⟩
        · simp only [Value.slice.injEq] at hv
          obtain ⟨rfl, _, rfl⟩ := hv
          by_cases hroom : xs.length + m ≤ cA
          · have h8 := run_append_room (P := c.P) w t ty e i ht hi g xs.length cA cur h7 a m cB (ys.flatMap enc) hnl hnews hone hroom (by rw [hnl, hcs, ← Nat.add_mul]; exact Nat.mul_le_mul_right _ hroom)
            rw [h8] at h2
            cases h2
            exact ⟨Nat.le_refl _, fun b hb => .inl hb⟩
          · have := run_append_grow (P := c.P) w t ty e i z ht hi hz ⟨g, 0, none⟩ xs.length cA (xs.flatMap enc) hA.1 (hA.cells (g := g) rfl) a m cB (ys.flatMap enc) hnl hnews (by omega) (by omega) (growslice_fits (by omega) hby)
            rw [this] at h2
            cases h2
            exact ⟨Nat.le_succ _, fun b hb => by
              simp only [Value.ownBlock, Option.some.injEq] at hb
              exact .inr (by omega)⟩
    obtain ⟨v', w', h2, h3, h4, h4d, h5⟩ := key
    rw [hex v' w' h2]
    have hsh : ∃ A' c', v' = .slice A' (xs ++ ys).length c' := by
      rcases h3.2 with ⟨rfl, h0⟩ | ⟨g, cap, cur, rfl, _⟩
      · exact ⟨none, 0, by rw [List.length_append, hm, h0]⟩
      · exact ⟨_, _, by rw [List.length_append, hm]⟩
    obtain ⟨A', c', rfl⟩ := hsh
    have hA' : w'.ownsRow 0 e k (.slice A' (xs ++ ys).length c') (xs ++ ys).length ((xs ++ ys).flatMap enc) := by
      rw [List.flatMap_append]
      have : (xs ++ ys).length = xs.length + m := by rw [List.length_append, hm]
      rw [this] at h3 ⊢
      exact h3
    refine ⟨_, hw.regrow (it' := rowT e k enc A' c' (xs ++ ys)) hk (fun b hb => ?_) (fun b hb => ?_) hA' ⟨h4.os, h4.tape, h4.output, h4d⟩ h4.size (fun b hb hf => h4.block b hb (fun e => hf ?_)), marks_set hk rfl, next A' c'⟩
    · have hb' : (Value.slice A' (xs ++ ys).length c').ownBlock = some b := by
        cases A' with
        | none => cases hb
        | some a => exact hb
      rcases h5 b hb' with h | h
      · left
        cases A with
        | none => cases h
        | some a => exact h
      · exact .inr h
    · have : (Value.slice A' (xs ++ ys).length c').ownBlock = some b := by
        cases A' with
        | none => cases hb
        | some a => exact hb
      exact (hA'.lt b this).2
    · cases A with
      | none => cases e
      | some a => exact e.symm⟩
theorem X_append {PQ : PJ} {ops rest : List Oper} (h : Eff c w0 L f ⟨some d, .call { callee := .builtin .append, args := #[x, y], argTypes := #[t, t] }, ty, pos, af, none⟩ fun L' f' => XL false c ops rest PQ w0 L' f') :
    XL false c ops (⟨some d, .call { callee := .builtin .append, args := #[x, y], argTypes := #[t, t] }, ty, pos, af, none⟩ :: rest) PQ w0 L f := X_eff h
theorem f_slit0 {t el : TypeId} (enc : α → List Value) (ht : c.P.underlying t = some (.slice el)) {size : Nat} (hs : ∀ w, (sizeOf el).run c.P w = .ok size w) (hd : Nat.blt d c.N = true) (next : ∀ A c', K (rowT el size enc A c' ([] : List α) :: L) (upd f d (.slice A 0 c'))) :
    Eff c w0 L f ⟨some d, .buildSlice t 0 #[], ty, pos, af, none⟩ K :=
  ⟨rfl, rfl, hd, fun w hw => by
    have : (execOp (ev f) ⟨some d, .buildSlice t 0 #[], ty, pos, af, none⟩).run c.P w = .ok (.value (.slice (some ⟨w.heap.size, 0, none⟩) 0 0)) (w.alloc (.cells #[] el)) := by
      simp [execOp, Instr.buildSlice, run_underlying ht, hs, Instr.fill, newRow, Result.andThen]
      rw [show Array.range 0 = #[] from Array.ext' (by simp), Array.map_empty]
    rw [this]
    refine ⟨rowT el size enc (some ⟨w.heap.size, 0, none⟩) 0 [] :: L, hw.new _ _ (fun b hb => by cases hb; rfl) ?_, rfl, next _ _⟩
    exact ⟨by simp, .inr ⟨w.heap.size, 0, #[], rfl, Nat.zero_le _, heap_alloc_new w _, Nat.le_refl _, by simp [maxLen], by simp, by simp⟩⟩⟩
theorem f_slit {t el : TypeId} {len size : Nat} {parts : List (Nat × Operand)} {vs : List (Nat × Value)} {z : Value} (zs : List Value) (ht : c.P.underlying t = some (.slice el)) (hs : ∀ w, (sizeOf el).run c.P w = .ok size w) (hz : ∀ w, (zeroValue el).run c.P w = .ok z w)
    (hlen : (Nat.ble (len * size) 16777216 && !Nat.beq (len * size) 0) = true) (hzr : (Array.range (len * size)).map (z.cells[· % z.cells.size]!) = zs.toArray) (hp : Parts f parts vs) (hok : bldOk (rowPl size len) zs.length vs = true) (hd : Nat.blt d c.N = true)
    (next : ∀ b, K (box b el (bld (rowPl size len) zs vs) :: L) (upd f d (.slice (some ⟨b, 0, none⟩) len len))) : Eff c w0 L f ⟨some d, .buildSlice t len parts.toArray, ty, pos, af, none⟩ K :=
  ⟨rfl, rfl, hd, fun w hw => by
    have : (execOp (ev f) ⟨some d, .buildSlice t len parts.toArray, ty, pos, af, none⟩).run c.P w = .ok (.value (.slice (some ⟨w.heap.size, 0, none⟩) len len)) (w.alloc (.cells (bld (rowPl size len) zs vs).toArray el)) := by
      rw [Bool.and_eq_true] at hlen
      have h2 : ¬ len * size > 2 ^ 24 := by have := Nat.le_of_ble_eq_true hlen.1; omega
      have h0 : ¬ len * size = 0 := by
        intro h
        rw [h] at hlen
        cases hlen.2
      have h3 := fill_bld (rowPl size len) (fun i => some (i * size, size)) (fun i q h => by
        unfold rowPl at h
        rw [List.getElem?_map] at h
        cases hr : (List.range len)[i]? with
        | none => rw [hr] at h; cases h
        | some y =>
          rw [hr] at h
          have : y = i := by have := List.getElem?_eq_some_iff.1 hr; obtain ⟨_, h5⟩ := this; simpa using h5.symm
          subst this
          exact h) vs zs.toArray (by simpa using hok)
      simp [execOp, Instr.buildSlice, run_underlying ht, hs, hz, h2, h0, hp.map, hzr, h3, newRow, Result.andThen]
    rw [this]
    exact ⟨_, hw.newBox el _, rfl, next _⟩⟩
end

/-- what holds of the memory may be known ahead -/
theorem H_know {c : Cx} {k : Code} {PQ : PJ} {w0 : World} {L : List Item} {f : Fr} {φ : Prop} (hφ : ∀ w, Mem w0 L w → φ) (h : φ → H c k PQ w0 L f) : H c k PQ w0 L f := fun a w ha hw => h (hφ w hw) a w ha hw
theorem X_know {c : Cx} {ops rest : List Oper} {PQ : PJ} {w0 : World} {L : List Item} {f : Fr} {φ : Prop} (hφ : ∀ w, Mem w0 L w → φ) (h : φ → XL false c ops rest PQ w0 L f) : XL false c ops rest PQ w0 L f := fun a w ha hw => h (hφ w hw) a w ha hw

end Go.Proofs.E

/-
  More operations: division of whatever sign; nil checks; places in arrays.
-/
namespace Go.Proofs.E
open Go Go.RowKit

section
variable {c : Cx} {w0 : World} {L : List Item} {f : Fr} {ty t t2 : TypeId} {g : Bool} {x y : Operand} {m n : Int}
theorem e_quoT (hx : OpV g f x (.int .i64 m)) (hy : OpV g f y (.int .i64 n)) (hr : g = true → -9223372036854775808 ≤ m ∧ m ≤ 9223372036854775807 ∧ 0 < n) : EvG g c w0 L f (.binOp .quo t x y t2) ty (.int .i64 (m.tdiv n)) := fun e _ _ _ _ w _ => by
  obtain ⟨h1, h2, h3⟩ := hr e
  have hz : ¬ n = 0 := by omega
  have hb : -9223372036854775808 ≤ m.tdiv n ∧ m.tdiv n ≤ 9223372036854775807 := by
    rcases Int.le_total 0 m with h | h
    · have h4 : 0 ≤ m.tdiv n := Int.tdiv_nonneg h (by omega)
      have h5 : m.tdiv n ≤ m := Int.tdiv_le_self _ h
      omega
    · have h4 : (-m).tdiv n = -(m.tdiv n) := Int.neg_tdiv _ _
      have h5 : 0 ≤ (-m).tdiv n := Int.tdiv_nonneg (by omega) (by omega)
      have h6 : (-m).tdiv n ≤ -m := Int.tdiv_le_self _ (by omega)
      omega
  simp [execOp, hx e, hy e, eqGuard, binOp, Op.intDiv, hz, IntWalk.i64_in _ hb]
theorem e_remT (hx : OpV g f x (.int .i64 m)) (hy : OpV g f y (.int .i64 n)) (hr : g = true → 0 < n) : EvG g c w0 L f (.binOp .rem t x y t2) ty (.int .i64 (m.tmod n)) := fun e _ _ _ _ w _ => by
  have hz : ¬ n = 0 := by have := hr e; omega
  simp [execOp, hx e, hy e, eqGuard, binOp, Op.intDiv, hz]
theorem e_nilc {a : Addr} (hx : OpV g f x (.pointer (some a))) : EvG g c w0 L f (.nilCheck x) ty (.pointer (some a)) := fun e _ _ _ _ w _ => by
  simp [execOp, hx e]
theorem e_idxA {el : TypeId} {b o sz len : Nat} (j : Nat) (ht : c.P.underlying t = some (.array len el)) (hs : ∀ w, (sizeOf el).run c.P w = .ok sz w) (hx : OpV g f x (.pointer (some ⟨b, o, none⟩))) (hy : OpV g f y (.int .i64 m)) (hm : g = true → m = (j : Int) ∧ j < len) :
    EvG g c w0 L f (.indexAddr t x y) ty (.pointer (some ⟨b, o + j * sz, none⟩)) := fun e _ _ _ _ w _ => by
  obtain ⟨rfl, hj⟩ := hm e
  simp [execOp, hx e, hy e, Instr.indexAt, asIntOf, run_underlying ht, hs, Result.andThen, addr_add, hj, Instr.sureAddr]
theorem e_dead {op : Op} {v : Value} (h : g = false) : EvG g c w0 L f op ty v := fun e => absurd e (by rw [h]; decide)
end

/-! equality of structs of integers -/
def intCells (l : List Int) : List Value := l.map (.int .i64)
theorem run_part_int {P : Program} {t : TypeId} {l : List Int} {k : Nat} {x : Int} (w : World) (ha : ∀ w, (isAgg t).run P w = .ok false w) (hx : l[k]? = some x) : (part t (intCells l).toArray k).run P w = .ok (.int .i64 x) w := by
  simp [part, ha, intCells, hx, Result.andThen]
/-- the fields are integers, one behind the other -/
def intFields (P : Program) : Nat → List Field → Prop
  | _, [] => True
  | k, f :: fs => f.name ≠ "_" ∧ f.offset = k ∧ (∀ w, (isAgg f.type).run P w = .ok false w) ∧ (∃ q, P.underlying f.type = some (.int q)) ∧ intFields P (k + 1) fs
theorem run_eqFields_ints {P : Program} (d : Nat) (w : World) (xs ys : List Int) (hl : xs.length = ys.length) : ∀ (fs : List Field) (k : Nat), intFields P k fs → k + fs.length = xs.length →
    (Op.eqFields (d + 1) (intCells xs).toArray (intCells ys).toArray fs).run P w = .ok (xs.drop k == ys.drop k) w
  | [], k, _, hk => by
    simp only [List.length_nil, Nat.add_zero] at hk
    rw [List.drop_of_length_le (by omega), List.drop_of_length_le (by omega)]
    simp [Op.eqFields]
  | f :: fs, k, ⟨h1, h2, h3, ⟨q, h4⟩, h5⟩, hk => by
    simp only [List.length_cons] at hk
    have kx : k < xs.length := by omega
    have ky : k < ys.length := by omega
    have ih := run_eqFields_ints d w xs ys hl fs (k + 1) h5 (by omega)
    have e : (xs.drop k == ys.drop k) = ((xs[k] == ys[k]) && (xs.drop (k + 1) == ys.drop (k + 1))) := by
      rw [List.drop_eq_getElem_cons kx, List.drop_eq_getElem_cons ky]; rfl
    rw [e]
    simp only [Op.eqFields, h1, ne_eq, not_false_eq_true, if_true, h2, Sem.run_bind, run_part_int w h3 (List.getElem?_eq_getElem kx), run_part_int w h3 (List.getElem?_eq_getElem ky), Result.andThen_ok, run_equalIn_int w d f.type .i64 q _ _ h4, Sem.run_ite]
    cases hb : (xs[k] == ys[k]) with
    | false => rfl
    | true => rw [if_neg (by decide), ih]; rfl
theorem run_equal_ints {P : Program} {t : TypeId} {fs : Array Field} (w : World) (xs ys : List Int) (hl : xs.length = ys.length) (ht : P.underlying t = some (.struct fs)) (hp : P.stoodInHeld t = false) (hf : intFields P 0 fs.toList) (hn : fs.toList.length = xs.length) :
    (Op.equal t (.agg (intCells xs).toArray) (.agg (intCells ys).toArray)).run P w = .ok (xs == ys) w := by
  have h := run_eqFields_ints (P := P) 9998 w xs ys hl fs.toList 0 hf (by omega)
  have e : P.fieldsOf t = fs := by unfold Program.fieldsOf; rw [ht]
  show (Op.equalIn 10000 t _ _).run P w = _
  rw [show (10000 : Nat) = 9999 + 1 from rfl, run_equalIn_struct w 9999 t _ _ (by rw [e]; exact ht) hp, e]
  exact h
section
variable {c : Cx} {w0 : World} {L : List Item} {f : Fr} {ty t t2 : TypeId} {g : Bool} {x y : Operand}
theorem e_eqS {xs ys : Array Value} {b : Bool} (heq : ∀ w, (Op.equal t (.agg xs) (.agg ys)).run c.P w = .ok b w) (hgd : c.P.eqGuardType c.P.depth t = false) (hx : OpV g f x (.agg xs)) (hy : OpV g f y (.agg ys)) : EvG g c w0 L f (.binOp .eql t x y t2) ty (.bool b) := fun e _ _ _ _ w _ => by
  simp [execOp, hx e, hy e, eqGuard, binOp, heq, hgd, Result.andThen]
theorem e_neS {xs ys : Array Value} {b : Bool} (heq : ∀ w, (Op.equal t (.agg xs) (.agg ys)).run c.P w = .ok b w) (hgd : c.P.eqGuardType c.P.depth t = false) (hx : OpV g f x (.agg xs)) (hy : OpV g f y (.agg ys)) : EvG g c w0 L f (.binOp .neq t x y t2) ty (.bool (!b)) := fun e _ _ _ _ w _ => by
  simp [execOp, hx e, hy e, eqGuard, binOp, heq, hgd, Result.andThen]
end

end Go.Proofs.E

/-
  Rows that the call owns: read, stored into, cut, cleared, made; calls that turn what the caller holds.
-/
namespace Go.Proofs.E
open Go Go.RowKit

theorem Mem.swap {w0 w : World} {L : List Item} {j : Nat} {it it' : Item} (h : Mem w0 L w) (hk : L[j]? = some it) (hfp : ∀ b, it'.fp b → it.fp b) (hA : it'.A w) : Mem w0 (L.set j it') w :=
  h.set hk hfp hA ⟨rfl, rfl, rfl, rfl, Nat.le_refl _⟩ (fun _ _ => rfl)

/-- the cells cs hold xs, and room -/
structure RowIs {α : Type} (k : Nat) (enc : α → List Value) (c : Nat) (cs : List Value) (xs : List α) : Prop where
  len : xs.length ≤ c
  max : c ≤ maxLen
  size : cs.length = c * k
  rest : ∃ r, cs = xs.flatMap enc ++ r

section
variable {α : Type} {e : TypeId} {k : Nat} {enc : α → List Value} {c b : Nat} {xs : List α} {w0 w : World} {L : List Item} {j : Nat}

theorem rowT_open (h : (rowT e k enc (some ⟨b, 0, none⟩) c xs).A w) : ∃ cs : List Value, w.heap[b]? = some (.cells cs.toArray e (0, 0)) ∧ RowIs k enc c cs xs := by
  have hA : w.ownsRow 0 e k (.slice (some ⟨b, 0, none⟩) xs.length c) xs.length (xs.flatMap enc) := h
  rcases hA.2 with ⟨h0, _⟩ | ⟨g, cap, cur, hv, _, h2, h3, h4, h5, h6⟩
  · cases h0
  · simp only [Value.slice.injEq, Option.some.injEq, Addr.mk.injEq, and_true, true_and] at hv
    obtain ⟨rfl, rfl⟩ := hv
    refine ⟨cur.toList, by simpa using h2, h3, h4, by simpa using h5, cur.toList.drop (xs.length * k), ?_⟩
    rw [← h6, List.take_append_drop]
theorem rowT_close (he : ∀ x, (enc x).length = k) {cs : List Value} (h : w.heap[b]? = some (.cells cs.toArray e (0, 0))) (hr : RowIs k enc c cs xs) : (rowT e k enc (some ⟨b, 0, none⟩) c xs).A w := by
  show w.ownsRow 0 e k (.slice (some ⟨b, 0, none⟩) xs.length c) xs.length (xs.flatMap enc)
  obtain ⟨r, hr'⟩ := hr.rest
  refine ⟨flat_len he xs, .inr ⟨b, c, cs.toArray, rfl, Nat.zero_le _, h, hr.len, hr.max, by simpa using hr.size, ?_⟩⟩
  simp only [hr']
  rw [← flat_len he xs, List.take_left]
/-- a row that is not empty lies somewhere -/
theorem rowT_at {A : Option Addr} (h : Mem w0 L w) (hk : L[j]? = some (rowT e k enc A c xs)) (hn : 0 < xs.length) : ∃ b, A = some ⟨b, 0, none⟩ := by
  have hA : w.ownsRow 0 e k (.slice A xs.length c) xs.length (xs.flatMap enc) := h.item hk
  rcases hA.2 with ⟨_, h0⟩ | ⟨g, cap, cur, hv, _⟩
  · omega
  · simp only [Value.slice.injEq] at hv
    exact ⟨g, hv.1⟩
theorem rowT_cap {A : Option Addr} (h : Mem w0 L w) (hk : L[j]? = some (rowT e k enc A c xs)) : xs.length ≤ c ∧ c ≤ 9223372036854775807 := by
  have hA : w.ownsRow 0 e k (.slice A xs.length c) xs.length (xs.flatMap enc) := h.item hk
  rcases hA.2 with ⟨hv, h0⟩ | ⟨g, cap, cur, hv, _, _, h3, h4, _⟩
  · simp only [Value.slice.injEq] at hv
    omega
  · simp only [Value.slice.injEq] at hv
    obtain ⟨_, _, rfl⟩ := hv
    simp only [maxLen] at h4
    omega

/-- reads of a row: element i + .., cell r -/
theorem row_cell (he : ∀ x, (enc x).length = k) (h : Mem w0 L w) (hk : L[j]? = some (rowT e k enc (some ⟨b, 0, none⟩) c xs)) {i r : Nat} {x : α} {v : Value} (hx : xs[i]? = some x) (hv : (enc x)[r]? = some v) : w.cell? ⟨b, i * k + r, none⟩ = some v := by
  obtain ⟨cs, h1, h2⟩ := rowT_open (h.item hk)
  obtain ⟨q, hq⟩ := h2.rest
  have hf := flat_get he xs i x hx r v hv
  have hlt : i * k + r < (xs.flatMap enc).length := (List.getElem?_eq_some_iff.1 hf).1
  simp only [World.cell?, h1]
  simp [hq, List.getElem?_append_left hlt, hf]
end

section
variable {α : Type} {e : TypeId} {k : Nat} {enc : α → List Value} {c b : Nat} {xs : List α} {w0 : World} {L : List Item} {g : Bool} {v : Value} {i r : Nat} {x : α}
theorem rr (j : Nat) (hk : L[j]? = some (rowT e k enc (some ⟨b, 0, none⟩) c xs)) (hx : xs[i]? = some x) (hv : (enc x)[r]? = some v) (he : ∀ x, (enc x).length = k := by exact fun _ => rfl) : g = true → ∀ w, Mem w0 L w → w.cell? ⟨b, 0 + i * k + r, none⟩ = some v := fun _ _ hw => by
  rw [Nat.zero_add]; exact row_cell he hw hk hx hv
theorem rr0 (j : Nat) (hk : L[j]? = some (rowT e k enc (some ⟨b, 0, none⟩) c xs)) (hx : xs[i]? = some x) (hv : (enc x)[0]? = some v) (he : ∀ x, (enc x).length = k := by exact fun _ => rfl) : g = true → ∀ w, Mem w0 L w → w.cell? ⟨b, 0 + i * k, none⟩ = some v := rr (r := 0) j hk hx hv he
theorem rrs (j : Nat) (hk : L[j]? = some (rowT e k enc (some ⟨b, 0, none⟩) c xs)) (hx : xs[i]? = some x) (he : ∀ x, (enc x).length = k := by exact fun _ => rfl) : g = true → ∀ w, Mem w0 L w → ∀ q u, (enc x)[q]? = some u → w.cell? ⟨b, 0 + i * k + q, none⟩ = some u := fun hg w hw _ _ hu => rr j hk hx hu he hg w hw
/-- .. of a part of it, from element p on -/
theorem rrs2 (j : Nat) {p : Nat} (hk : L[j]? = some (rowT e k enc (some ⟨b, 0, none⟩) c xs)) (hx : xs[p + i]? = some x) (he : ∀ x, (enc x).length = k := by exact fun _ => rfl) : g = true → ∀ w, Mem w0 L w → ∀ q u, (enc x)[q]? = some u → w.cell? ⟨b, 0 + p * k + i * k + q, none⟩ = some u := fun _ w hw q u hu => by
  have := row_cell he hw hk hx hu
  rw [show 0 + p * k + i * k + q = (p + i) * k + q by rw [Nat.add_mul]; omega]
  exact this
end

/-! stores -/
theorem setAt_append (A B : List Value) : ∀ (vs C : List Value) (off : Nat), off + vs.length ≤ C.length → setAt (A ++ C ++ B) (A.length + off) vs = A ++ setAt C off vs ++ B
  | [], C, off, _ => rfl
  | v :: r, C, off, h => by
    simp only [List.length_cons] at h
    have h1 : (A ++ C ++ B).set (A.length + off) v = A ++ C.set off v ++ B := by
      rw [List.append_assoc, List.set_append_right _ _ (by omega), List.append_assoc, List.set_append_left _ _ (by omega)]
      simp
    simp only [setAt]
    rw [h1, Nat.add_assoc]
    exact setAt_append A B r (C.set off v) (off + 1) (by simp; omega)
theorem set_split {α : Type} : ∀ (xs : List α) (i : Nat) (x y : α), xs[i]? = some x → xs = xs.take i ++ x :: xs.drop (i + 1) ∧ xs.set i y = xs.take i ++ y :: xs.drop (i + 1)
  | [], i, x, y, h => by simp at h
  | a :: xs, 0, x, y, h => by simp at h; subst h; simp
  | a :: xs, i + 1, x, y, h => by
    obtain ⟨h1, h2⟩ := set_split xs i x y (by simpa using h)
    refine ⟨?_, ?_⟩
    · simp only [List.take_succ_cons, List.drop_succ_cons, List.cons_append]; rw [← h1]
    · simp only [List.take_succ_cons, List.drop_succ_cons, List.cons_append, List.set_cons_succ]; rw [h2]
section
variable {α : Type} {k : Nat} {enc : α → List Value} {c : Nat} {cs : List Value} {xs : List α}
theorem RowIs.put (he : ∀ x, (enc x).length = k) (h : RowIs k enc c cs xs) {i off : Nat} {x y : α} {vs : List Value} (hx : xs[i]? = some x) (ho : off + vs.length ≤ k) (hy : enc y = setAt (enc x) off vs) : RowIs k enc c (setAt cs (i * k + off) vs) (xs.set i y) := by
  obtain ⟨r, hr⟩ := h.rest
  refine ⟨by simpa using h.len, h.max, by rw [setAt_length]; exact h.size, r, ?_⟩
  obtain ⟨h1, h2⟩ := set_split xs i x y hx
  have hi : i < xs.length := (List.getElem?_eq_some_iff.1 hx).1
  have hl : ((xs.take i).flatMap enc).length = i * k := by rw [flat_len he, List.length_take, Nat.min_eq_left (by omega)]
  have e : cs = (xs.take i).flatMap enc ++ enc x ++ ((xs.drop (i + 1)).flatMap enc ++ r) := by
    rw [hr]
    conv => lhs; rw [h1]
    simp [List.flatMap_append]
  rw [e, ← hl, setAt_append _ _ vs (enc x) off (by rw [he]; exact ho), ← hy, h2]
  simp [List.flatMap_append]
theorem RowIs.cut (he : ∀ x, (enc x).length = k) (h : RowIs k enc c cs xs) {i : Nat} {vs : List Value} (hi : i ≤ xs.length) (hl : i * k + vs.length ≤ c * k) : RowIs k enc c (setAt cs (i * k) vs) (xs.take i) := by
  obtain ⟨r, hr⟩ := h.rest
  have h0 : ((xs.take i).flatMap enc).length = i * k := by rw [flat_len he, List.length_take, Nat.min_eq_left hi]
  have e : cs = (xs.take i).flatMap enc ++ ((xs.drop i).flatMap enc ++ r) := by
    rw [← List.append_assoc, ← List.flatMap_append, List.take_append_drop]; exact hr
  refine ⟨by rw [List.length_take]; have := h.len; omega, h.max, by rw [setAt_length]; exact h.size, setAt ((xs.drop i).flatMap enc ++ r) 0 vs, ?_⟩
  have hs := h.size
  rw [e] at hs ⊢
  simp only [List.length_append, h0] at hs
  have := setAt_append ((xs.take i).flatMap enc) [] vs ((xs.drop i).flatMap enc ++ r) 0 (by simp only [List.length_append]; omega)
  simp only [List.append_nil, Nat.add_zero, h0] at this
  exact this
end

theorem oneCell_of' {v : Value} (h : v.oneCell' = true) : oneCell v = true := by cases v <;> simp_all [oneCell, Value.oneCell']

section
variable {α : Type} {e : TypeId} {k : Nat} {enc : α → List Value} {c' b : Nat} {xs : List α} {c : Cx} {w0 : World} {L : List Item} {f : Fr} {K : List Item → Fr → Prop} {d : Nat} {ty t : TypeId} {pos : String} {af : Array Edge} {p q : Operand}
theorem row_stores {P : Program} {w : World} {j : Nat} (he : ∀ x, (enc x).length = k) (hw : Mem w0 L w) (hk : L[j]? = some (rowT e k enc (some ⟨b, 0, none⟩) c' xs)) {i off : Nat} {x y : α} {vs : List Value} (hx : xs[i]? = some x) (ho : off + vs.length ≤ k) (hy : enc y = setAt (enc x) off vs) (h1 : vs.all oneCell = true) :
    ∃ w', (storeCells ⟨b, i * k + off, none⟩ vs 0).run P w = .ok () w' ∧ Mem w0 (L.set j (rowT e k enc (some ⟨b, 0, none⟩) c' (xs.set i y))) w' := by
  obtain ⟨cs, hc, hr⟩ := rowT_open (hw.item hk)
  have hj : j < L.length := (List.getElem?_eq_some_iff.1 hk).1
  have hw1 : Mem w0 (L.set j (box b e cs)) w := hw.swap hk (fun x hx => by cases hx; rfl) hc
  have hi : i < xs.length := (List.getElem?_eq_some_iff.1 hx).1
  have hle : i * k + off + vs.length ≤ cs.length := by
    rw [hr.size]
    have h3 := hr.len
    have h2 : (i + 1) * k ≤ c' * k := Nat.mul_le_mul_right _ (by omega)
    rw [Nat.add_mul, Nat.one_mul] at h2
    omega
  obtain ⟨w', hrun, hm⟩ := run_storeCells (P := P) (b := b) (t := e) (o := i * k + off) (k := j) vs 0 cs w _ hw1 (by simp [hj]) h1 (by simpa using hle)
  refine ⟨w', hrun, ?_⟩
  rw [List.set_set, Nat.add_zero] at hm
  have hA : (rowT e k enc (some ⟨b, 0, none⟩) c' (xs.set i y)).A w' := rowT_close he (hm.item (k := j) (it := box b e (setAt cs (i * k + off) vs)) (by simp [hj])) (hr.put he hx ho hy)
  have := hm.swap (j := j) (it := box b e (setAt cs (i * k + off) vs)) (by simp [hj]) (fun x (hx : (some (⟨b, 0, none⟩ : Addr)).map (·.block) = some x) => by cases hx; rfl) hA
  rw [List.set_set] at this
  exact this
/-- a store into a row: the cells from 'off' on of element i; y is what the element is then -/
theorem f_storeR (j : Nat) {i off n : Nat} {x : α} (y : α) {v : Value} (hp : ev f p = .pointer (some ⟨b, 0 + i * k + off, none⟩)) (hq : ev f q = v) (hs : ∀ w, (sizeOf t).run c.P w = .ok n w) (hn : v.cells.size = n) (h1 : v.cells.toList.all oneCell = true)
    (hk : L[j]? = some (rowT e k enc (some ⟨b, 0, none⟩) c' xs)) (hx : xs[i]? = some x) (ho : Nat.ble (off + v.cells.toList.length) k = true) (hy : enc y = setAt (enc x) off v.cells.toList)
    (next : K (L.set j (rowT e k enc (some ⟨b, 0, none⟩) c' (xs.set i y))) f) (he : ∀ x, (enc x).length = k := by exact fun _ => rfl) : Eff c w0 L f ⟨none, .store t p q, ty, pos, af, none⟩ K :=
  ⟨rfl, rfl, rfl, fun w hw => by
    obtain ⟨w', hr, hm⟩ := row_stores (P := c.P) he hw hk hx (Nat.le_of_ble_eq_true ho) hy h1
    rw [Nat.zero_add] at hp
    have : (execOp (ev f) ⟨none, .store t p q, ty, pos, af, none⟩).run c.P w = .ok .skip w' := by
      simp [execOp, hp, hq, Instr.storeAt, Instr.sureAddr, storeVar, hs, hn, hr, Result.andThen]
    rw [this]
    exact ⟨_, hm, marks_set hk rfl, next⟩⟩
theorem f_storeR0 (j : Nat) {i n : Nat} {x : α} (y : α) {v : Value} (hp : ev f p = .pointer (some ⟨b, 0 + i * k, none⟩)) (hq : ev f q = v) (hs : ∀ w, (sizeOf t).run c.P w = .ok n w) (hn : v.cells.size = n) (h1 : v.cells.toList.all oneCell = true)
    (hk : L[j]? = some (rowT e k enc (some ⟨b, 0, none⟩) c' xs)) (hx : xs[i]? = some x) (ho : Nat.ble (0 + v.cells.toList.length) k = true) (hy : enc y = setAt (enc x) 0 v.cells.toList)
    (next : K (L.set j (rowT e k enc (some ⟨b, 0, none⟩) c' (xs.set i y))) f) (he : ∀ x, (enc x).length = k := by exact fun _ => rfl) : Eff c w0 L f ⟨none, .store t p q, ty, pos, af, none⟩ K :=
  f_storeR j (off := 0) y hp hq hs hn h1 hk hx ho hy next he
/-- the row's end is cleared -/
theorem f_clearR (j : Nat) {i m cap : Nat} {z : Value} (ht : c.P.underlying t = some (.slice e)) (hz : ∀ w, (zeroValue e).run c.P w = .ok z w) (hzk : z.cells.size = k) (h1 : z.cells.toList.all oneCell = true) (hp : ev f p = .slice (some ⟨b, 0 + i * k, none⟩) m cap)
    (hk : L[j]? = some (rowT e k enc (some ⟨b, 0, none⟩) c' xs)) (hi : i + m = xs.length ∧ 0 < m)
    (next : K (L.set j (rowT e k enc (some ⟨b, 0, none⟩) c' (xs.take i))) f) (he : ∀ x, (enc x).length = k := by exact fun _ => rfl) : Eff c w0 L f ⟨none, .call { callee := .builtin .clear, args := #[p], argTypes := #[t] }, ty, pos, af, none⟩ K :=
  ⟨rfl, rfl, rfl, fun w hw => by
    obtain ⟨cs, hc, hr⟩ := rowT_open (hw.item hk)
    have hj : j < L.length := (List.getElem?_eq_some_iff.1 hk).1
    have hw1 : Mem w0 (L.set j (box b e cs)) w := hw.swap hk (fun x hx => by cases hx; rfl) hc
    have hzl : (Builtin.zeroCells z.cells m).toList.length = m * k := by simp [size_zeroCells, hzk]
    have hzo : (Builtin.zeroCells z.cells m).toList.all oneCell = true := by
      rw [List.all_eq_true]
      intro v hv
      simp only [Builtin.zeroCells, Array.toList_map, Array.toList_range, List.mem_map, List.mem_range] at hv
      obtain ⟨q, hq, rfl⟩ := hv
      have hk0 : 0 < z.cells.size := by
        rcases Nat.eq_zero_or_pos z.cells.size with h | h
        · rw [h] at hq; omega
        · exact h
      have hqk : q % z.cells.size < z.cells.size := Nat.mod_lt _ hk0
      rw [getElem!_pos z.cells _ hqk]
      exact List.all_eq_true.1 h1 _ (by simp)
    have hle : i * k + m * k ≤ c' * k := by
      rw [← Nat.add_mul]; exact Nat.mul_le_mul_right _ (by have := hr.len; omega)
    obtain ⟨w', hrun, hm⟩ := run_storeCells (P := c.P) (b := b) (t := e) (o := i * k) (k := j) (Builtin.zeroCells z.cells m).toList 0 cs w _ hw1 (by simp [hj]) hzo (by rw [hzl, hr.size]; simpa using hle)
    rw [List.set_set, Nat.add_zero] at hm
    have hA : (rowT e k enc (some ⟨b, 0, none⟩) c' (xs.take i)).A w' := rowT_close he (hm.item (k := j) (it := box b e (setAt cs (i * k) (Builtin.zeroCells z.cells m).toList)) (by simp [hj])) (hr.cut he (by omega) (by rw [hzl]; exact hle))
    have hm2 := hm.swap (j := j) (it := box b e (setAt cs (i * k) (Builtin.zeroCells z.cells m).toList)) (by simp [hj]) (fun x (hx : (some (⟨b, 0, none⟩ : Addr)).map (·.block) = some x) => by cases hx; rfl) hA
    rw [List.set_set] at hm2
    rw [Nat.zero_add] at hp
    have hm0 : m ≠ 0 := by omega
    have : (execOp (ev f) ⟨none, .call { callee := .builtin .clear, args := #[p], argTypes := #[t] }, ty, pos, af, none⟩).run c.P w = .ok (.value (.tuple #[])) w' := by
      obtain ⟨m', rfl⟩ : ∃ m', m = m' + 1 := ⟨m - 1, by omega⟩
      simp [execOp, resolve, invoke, builtin, hp, Builtin.clear_, run_underlying ht, hz, hrun, Result.andThen]
    rw [this]
    exact ⟨_, hm2, marks_set hk rfl, next⟩⟩
/-- the first i of a row -/
theorem rowT_take {j : Nat} {i : Nat} {w : World} (he : ∀ x, (enc x).length = k) (hw : Mem w0 L w) (hk : L[j]? = some (rowT e k enc (some ⟨b, 0, none⟩) c' xs)) : Mem w0 (L.set j (rowT e k enc (some ⟨b, 0, none⟩) c' (xs.take i))) w := by
  obtain ⟨cs, hc, hr⟩ := rowT_open (hw.item hk)
  refine hw.swap hk (fun x hx => hx) (rowT_close he hc ⟨by rw [List.length_take]; have := hr.len; omega, hr.max, hr.size, ?_⟩)
  obtain ⟨r, h⟩ := hr.rest
  exact ⟨(xs.drop i).flatMap enc ++ r, by rw [← List.append_assoc, ← List.flatMap_append, List.take_append_drop]; exact h⟩
theorem f_make {n m : Nat} {z : Value} {i : TypeInfo} {k : Nat} (enc : α → List Value) (zx : α) (ht : c.P.underlying t = some (.slice e)) (hi : c.P.info? e = some i) (hz : i.zero = some z) (hsize : i.size = k) (hzs : z.cells.toList = enc zx) (hp : ev f p = .int .i64 n) (hq : ev f q = .int .i64 m) (hlen : (n ≤ m ∧ m ≤ 1000000) ∧ i.bytes ≤ 100000) (hd : Nat.blt d c.N = true)
    (next : ∀ b, K (rowT e k enc (some ⟨b, 0, none⟩) m (List.replicate n zx) :: L) (upd f d (.slice (some ⟨b, 0, none⟩) n m))) (he : ∀ x, (enc x).length = k := by exact fun _ => rfl) : Eff c w0 L f ⟨some d, .makeSlice t p q, ty, pos, af, none⟩ K :=
  ⟨rfl, rfl, hd, fun w hw => by
    have hb : (i.bytes : Int) * (m : Int) ≤ 281474976710656 := by
      have h1 : i.bytes * m ≤ 100000 * 1000000 := Nat.mul_le_mul hlen.2 hlen.1.2
      have h2 : ((i.bytes * m : Nat) : Int) ≤ 281474976710656 := by omega
      rwa [Int.natCast_mul] at h2
    have hr := run_make (P := c.P) w t e i z ht hi hz .i64 .i64 n m (by omega) (by omega) hb (by omega)
    have : (execOp (ev f) ⟨some d, .makeSlice t p q, ty, pos, af, none⟩).run c.P w = .ok (.value (.slice (some ⟨w.heap.size, 0, none⟩) n m)) (w.alloc (.cells (madeCells z.cells (m * i.size)) e)) := by
      simp only [Int.toNat_natCast] at hr
      simp [execOp, hp, hq, hr, Result.andThen]
    rw [this]
    subst hsize
    have hzk : z.cells.size = i.size := by rw [← Array.length_toList, hzs, he]
    have hcell : ∀ q, (madeCells z.cells (q * i.size)).toList = (List.replicate q zx).flatMap enc := by
      intro q
      apply List.ext_getElem?
      intro y
      by_cases hy : y < q * i.size
      · have hk : 0 < i.size := by rcases Nat.eq_zero_or_pos i.size with h | h; · rw [h] at hy; omega
                                   · exact h
        have hyk : y % i.size < i.size := Nat.mod_lt _ hk
        have h1 : (List.replicate q zx)[y / i.size]? = some zx := by
          rw [List.getElem?_replicate, if_pos (Nat.div_lt_of_lt_mul (by rw [Nat.mul_comm]; exact hy))]
        have h2 : (enc zx)[y % i.size]? = some ((enc zx)[y % i.size]'(by rw [he]; exact hyk)) := List.getElem?_eq_getElem _
        have h3 := flat_get he _ _ _ h1 _ _ h2
        rw [Nat.mul_comm, Nat.div_add_mod] at h3
        rw [h3]
        simp only [madeCells, Array.toList_map, Array.toList_range, List.getElem?_map, List.getElem?_range hy, Option.map_some, hzk]
        congr 1
        rw [getElem!_pos z.cells _ (by rw [hzk]; exact hyk), ← Array.getElem_toList]
        simp only [hzs]
      · rw [List.getElem?_eq_none (by simp [madeCells]; omega), List.getElem?_eq_none (by rw [flat_len he]; simp; omega)]
    refine ⟨rowT e i.size enc (some ⟨w.heap.size, 0, none⟩) m (List.replicate n zx) :: L, hw.new _ _ (fun b hb => by cases hb; rfl) ?_, rfl, ?_⟩
    · refine rowT_close he (cs := (madeCells z.cells (m * i.size)).toList) (heap_alloc_new w _) ⟨by simpa using hlen.1.1, by simp only [maxLen]; omega, by simp [size_madeCells], (List.replicate (m - n) zx).flatMap enc, ?_⟩
      rw [hcell, ← List.flatMap_append, List.replicate_append_replicate]
      congr 2
      omega
    · exact next w.heap.size⟩
end

section
variable {c : Cx} {w0 : World} {L : List Item} {f : Fr} {ty t el : TypeId} {g : Bool} {x y : Operand}
theorem e_slLo {b o n cp sz : Nat} {m : Int} (j : Nat) (ht : c.P.underlying t = some (.slice el)) (hs : ∀ w, (sizeOf el).run c.P w = .ok sz w) (hx : OpV g f x (.slice (some ⟨b, o, none⟩) n cp)) (hy : OpV g f y (.int .i64 m)) (hm : g = true → m = (j : Int) ∧ j < n ∧ n ≤ cp) :
    EvG g c w0 L f (.slice t x (some y) none none) ty (.slice (some ⟨b, o + j * sz, none⟩) (n - j) (cp - j)) := fun e _ _ _ _ w _ => by
  obtain ⟨rfl, hj, hc⟩ := hm e
  have h1 : (0 : Int) ≤ (j : Int) ∧ (j : Int) ≤ (n : Int) := by omega
  have h2 : cp ≠ j := by omega
  simp [execOp, hx e, hy e, Instr.sliceAt, Instr.slice, Instr.sliceBounds, Instr.sliceBound, asIntOf, run_underlying ht, hs, Result.andThen, addr_add, h2, show j ≤ n by omega]
/-- from element j on, whatever is left -/
def cutAddr (A : Option Addr) (cp j sz : Nat) : Option Addr := if cp = j then A else A.map (·.add (j * sz))
theorem e_slLoG {A : Option Addr} {n cp sz : Nat} {m : Int} (j : Nat) (ht : c.P.underlying t = some (.slice el)) (hs : ∀ w, (sizeOf el).run c.P w = .ok sz w) (hx : OpV g f x (.slice A n cp)) (hy : OpV g f y (.int .i64 m)) (hm : g = true → m = (j : Int) ∧ j ≤ n) :
    EvG g c w0 L f (.slice t x (some y) none none) ty (.slice (cutAddr A cp j sz) (n - j) (cp - j)) := fun e _ _ _ _ w _ => by
  obtain ⟨rfl, hj⟩ := hm e
  simp [execOp, hx e, hy e, Instr.sliceAt, Instr.slice, Instr.sliceBounds, Instr.sliceBound, asIntOf, run_underlying ht, hs, Result.andThen, hj, cutAddr]
theorem e_slHi {A : Option Addr} {n cp sz : Nat} {m : Int} (j : Nat) (ht : c.P.underlying t = some (.slice el)) (hs : ∀ w, (sizeOf el).run c.P w = .ok sz w) (hx : OpV g f x (.slice A n cp)) (hy : OpV g f y (.int .i64 m)) (hm : g = true → m = (j : Int) ∧ j ≤ cp) :
    EvG g c w0 L f (.slice t x none (some y) none) ty (.slice A j cp) := fun e _ _ _ _ w _ => by
  obtain ⟨rfl, hj⟩ := hm e
  have ha : A.map (·.add (0 * sz)) = A := by
    cases A with
    | none => rfl
    | some a => simp [Addr.add]
  simp only [Nat.zero_mul] at ha
  simp [execOp, hx e, hy e, Instr.sliceAt, Instr.slice, Instr.sliceBounds, Instr.sliceBound, asIntOf, run_underlying ht, hs, Result.andThen, hj, ha]
theorem e_eqNilS {A : Option Addr} {n cp : Nat} {t2 : TypeId} (ht : c.P.underlying t = some (.slice el)) (hx : OpV g f x (.slice A n cp)) : EvG g c w0 L f (.binOp .eql t x (.const (.slice none 0 0)) t2) ty (.bool A.isNone) := fun e _ _ _ _ w _ => by
  have hq : ∀ d, (Op.equalIn (d + 1) t (.slice A n cp) (.slice none 0 0)).run c.P w = .ok A.isNone w := fun d => by
    cases A <;> simp [Op.equalIn, run_underlying ht]
  have hq : (Op.equal t (.slice A n cp) (.slice none 0 0)).run c.P w = .ok A.isNone w := hq 9999
  simp [execOp, hx e, ev_const, eqGuard, binOp, hq, Result.andThen]
theorem e_eqNilP {A : Option Addr} {t2 : TypeId} (ht : c.P.underlying t = some (.pointer el)) (hx : OpV g f x (.pointer A)) : EvG g c w0 L f (.binOp .eql t x (.const (.pointer none)) t2) ty (.bool A.isNone) := fun e _ _ _ _ w _ => by
  have hq : ∀ d, (Op.equalIn (d + 1) t (.pointer A) (.pointer none)).run c.P w = .ok A.isNone w := fun d => by
    cases A <;> simp [Op.equalIn, run_underlying ht]
  have hq : (Op.equal t (.pointer A) (.pointer none)).run c.P w = .ok A.isNone w := hq 9999
  simp [execOp, hx e, ev_const, eqGuard, binOp, hq, Result.andThen]
theorem e_neNilF {ps : Array TypeId} {rs : Array TypeId} {va : Bool} {fn : Fn} {a1 a2 : Array Value} {t2 : TypeId} (ht : c.P.underlying t = some (.func ps rs va)) (hx : OpV g f x (.func fn a1 a2)) : EvG g c w0 L f (.binOp .neq t x (.const .nilFunc) t2) ty (.bool true) := fun e _ _ _ _ w _ => by
  have hq : ∀ d, (Op.equalIn (d + 1) t (.func fn a1 a2) .nilFunc).run c.P w = .ok false w := fun d => by
    simp [Op.equalIn, run_underlying ht]
  have hq : (Op.equal t (.func fn a1 a2) .nilFunc).run c.P w = .ok false w := hq 9999
  simp [execOp, hx e, ev_const, eqGuard, binOp, hq, Result.andThen]
theorem e_neNilF0 {ps : Array TypeId} {rs : Array TypeId} {va : Bool} {t2 : TypeId} (ht : c.P.underlying t = some (.func ps rs va)) (hx : OpV g f x .nilFunc) : EvG g c w0 L f (.binOp .neq t x (.const .nilFunc) t2) ty (.bool false) := fun e _ _ _ _ w _ => by
  have hq : ∀ d, (Op.equalIn (d + 1) t .nilFunc .nilFunc).run c.P w = .ok true w := fun d => by
    simp [Op.equalIn, run_underlying ht]
  have hq : (Op.equal t .nilFunc .nilFunc).run c.P w = .ok true w := hq 9999
  simp [execOp, hx e, ev_const, eqGuard, binOp, hq, Result.andThen]
end

theorem SlAt.take {α : Type} {w : World} {k : Nat} {enc : α → List Value} {A : Option Addr} {n : Nat} {xs : List α} (h : SlAt w k enc A n xs) {i : Nat} (hi : i ≤ n) : SlAt w k enc A i (xs.take i) := by
  refine ⟨by rw [List.length_take, h.1]; omega, by have := h.2.1; omega, fun h0 => ?_⟩
  obtain ⟨b, off, hA, hb, hc⟩ := h.2.2 (by omega)
  refine ⟨b, off, hA, hb, fun j x hx => hc j x ?_⟩
  rw [List.getElem?_take] at hx
  split at hx
  · exact hx
  · cases hx
theorem SlAt.drop {α : Type} {w : World} {k : Nat} {enc : α → List Value} {A : Option Addr} {n cp : Nat} {xs : List α} (h : SlAt w k enc A n xs) {i : Nat} (hi : i ≤ n) (hc : n ≤ cp) : SlAt w k enc (cutAddr A cp i k) (n - i) (xs.drop i) := by
  refine ⟨by rw [List.length_drop, h.1], by have := h.2.1; omega, fun h0 => ?_⟩
  obtain ⟨b, off, hA, hb, hr⟩ := h.2.2 (by omega)
  refine ⟨b, off + i * k, ?_, hb, fun j x hx => ?_⟩
  · rw [cutAddr, if_neg (by omega), hA]
    simp [addr_add]
  · rw [List.getElem?_drop] at hx
    have := hr (i + j) x hx
    rwa [Nat.add_mul, ← Nat.add_assoc] at this

/-! a call that turns what its caller holds -/
theorem H_enterM {P : Program} {k : FuncId} {fn : Func} {code : Code} {l : List Value} {w0 w : World} {L : List Item} {R : Ending → World → Prop} {N : Nat} (hw : Mem w0 L w) (hmk : marks L = []) (hf : P.funcs[k]? = some fn) (hb : fn.body = some code) (hN : fn.ntmps = N) (hl : Nat.ble l.length N = true)
    (h : H ⟨P, none, N⟩ code (retJ ⟨P, none, N⟩ fn R) w0 L (frOf l)) : Calls P k l.toArray w R := by
  have hl' : l.length ≤ N := Nat.le_of_ble_eq_true hl
  refine calls_FW (n := 0) (callsIn_of_wp_marks hf hb trivial (wpIn_mono (h _ w ⟨?_, ?_, hmk.symm⟩ hw) ?_) rfl)
  · simp [hN]; omega
  · intro i
    simp only [Array.getD_eq_getD_getElem?, frOf, List.getD_eq_getElem?_getD]
    rw [Array.getElem?_append]
    split
    · simp
    · rename_i hi
      have : l[i]? = none := List.getElem?_eq_none (by simpa using hi)
      rw [this]
      simp only [Array.getElem?_replicate]
      split <;> rfl
  · rintro e a w' ⟨u', L', f', k1, k2, k3⟩
    cases e with
    | normal => have := k3 w' a k2 k1; rw [← k1.defers] at this; exact this
    | ret => have := k3 w' a k2 k1; rw [← k1.defers] at this; exact this
    | exit i => exact k3.elim
    | goto l => exact k3.elim
    | panic ch => exact k3.elim
    | outgrown => exact k3.elim

/-! an item brought ahead, and back -/
theorem erase_perm {α : Type} : ∀ (L : List α) (j : Nat) (x : α), L[j]? = some x → (x :: L.eraseIdx j).Perm L
  | [], _, _, h => by simp at h
  | a :: L, 0, x, h => by simp at h; subst h; simp
  | a :: L, j + 1, x, h => by
    have := erase_perm L j x (by simpa using h)
    simp only [List.eraseIdx_cons_succ]
    exact (List.Perm.swap a x _).trans (this.cons a)
theorem set_perm {α : Type} : ∀ (L : List α) (j : Nat) (y : α), j < L.length → (L.set j y).Perm (y :: L.eraseIdx j)
  | [], _, _, h => by simp at h
  | a :: L, 0, y, _ => by simp
  | a :: L, j + 1, y, h => by
    have := set_perm L j y (by simpa using h)
    simp only [List.eraseIdx_cons_succ, List.set_cons_succ]
    exact (this.cons a).trans (List.Perm.swap y a _)
theorem Mem.front {w0 w : World} {L : List Item} {j : Nat} {it : Item} (h : Mem w0 L w) (hk : L[j]? = some it) : Mem w0 (it :: L.eraseIdx j) w := h.perm (erase_perm L j it hk)
theorem Mem.back {w0 w : World} {L : List Item} {j : Nat} {it it' : Item} (h : Mem w0 (it' :: L.eraseIdx j) w) (hk : L[j]? = some it) : Mem w0 (L.set j it') w := h.perm (set_perm L j it' (List.getElem?_eq_some_iff.1 hk).1)
theorem marks_erase : ∀ (L : List Item) (j : Nat), marks L = [] → marks (L.eraseIdx j) = []
  | [], j, _ => by simp [marks]
  | a :: L, 0, h => by rw [marks_cons, List.append_eq_nil_iff] at h; simpa using h.2
  | a :: L, j + 1, h => by
    rw [marks_cons, List.append_eq_nil_iff] at h
    rw [List.eraseIdx_cons_succ, marks_cons, h.1, marks_erase L j h.2]; rfl

section
variable {c : Cx} {w0 : World} {L : List Item} {f : Fr} {K : List Item → Fr → Prop} {dst : Option Nat} {ty : TypeId} {pos : String} {af : Array Edge}
theorem f_callM {α : Type} {op : Op} {k : FuncId} {args : Array Value} {val : α → Value} {Lx : α → List Item} (hen : EnterG true c w0 L f op ty k args) (hc : ∀ w, Mem w0 L w → Calls c.P k args w fun e w' => ∃ x : α, e = .returned (val x) ∧ Mem w0 (Lx x) w') (hd : dstOk c dst = true) (hmk : ∀ x, marks (Lx x) = marks L) (next : ∀ x, K (Lx x) (putF f dst (val x))) (hnd : isDefer op = false := by rfl) : Eff c w0 L f ⟨dst, op, ty, pos, af, none⟩ K :=
  ⟨rfl, hnd, hd, fun w hw => by
    rw [hen rfl _ _ _ _ w hw]
    refine ⟨rfl, (hc w hw).mono ?_⟩
    rintro e w' ⟨x, rfl, hm⟩
    exact ⟨_, _, rfl, hm, hmk x, next x⟩⟩
end

end Go.Proofs.E

/-
  One more element; and the library's sort upon a row of one's own.
-/
namespace Go.Proofs.E
open Go Go.RowKit

section
variable {α : Type} {e t : TypeId} {k : Nat} {enc : α → List Value} {A : Option Addr} {xs : List α} {c : Cx} {w0 : World} {L : List Item} {f : Fr} {PQ : PJ} {ops rest : List Oper} {d1 d2 o1 : Nat} {ty1 ty2 : TypeId} {pos1 pos2 : String} {af1 af2 : Array Edge} {x : Operand}
/-- 'append(out, x)': the slice literal of one element and the append, in one step -/
theorem X_push (j : Nat) (y : α) {cA : Nat} {i : TypeInfo} {z v : Value} (ht : c.P.underlying t = some (.slice e)) (hi : c.P.info? e = some i) (hz : i.zero = some z) (hsize : i.size = k) (hzs : z.cells.size = k) (hk0 : Nat.blt 0 k = true) (hsz : ∀ w, (sizeOf e).run c.P w = .ok k w) (hzv : ∀ w, (zeroValue e).run c.P w = .ok z w) (hk1 : Nat.ble k 10000 = true)
    (hx : ev f x = v) (hv : v.cells.toList = enc y) (ho : f o1 = .slice A xs.length cA) (hne : Nat.beq o1 d1 = false) (hk : L[j]? = some (rowT e k enc A cA xs))
    (hlen : xs.length + 1 ≤ 1000000 ∧ i.bytes ≤ 100000) (hd1 : Nat.blt d1 c.N = true) (hd2 : Nat.blt d2 c.N = true) 
    (next : ∀ B A' c', XL false c ops rest PQ w0 (L.set j (rowT e k enc A' c' (xs ++ [y]))) (upd (upd f d1 (.slice (some ⟨B, 0, none⟩) 1 1)) d2 (.slice A' (xs ++ [y]).length c')))
    (he : ∀ x, (enc x).length = k := by exact fun _ => rfl) (h1 : ∀ x, (enc x).all (·.oneCell') = true := by exact fun _ => rfl) :
    XL false c ops (⟨some d1, .buildSlice t 1 #[(0, x)], ty1, pos1, af1, none⟩ :: ⟨some d2, .call { callee := .builtin .append, args := #[.tmp o1, .tmp d1], argTypes := #[t, t] }, ty2, pos2, af2, none⟩ :: rest) PQ w0 L f := by
  have hk2 : 0 < k := Nat.le_of_ble_eq_true hk0
  have hk3 : k ≤ 10000 := Nat.le_of_ble_eq_true hk1
  refine X_eff ⟨rfl, rfl, hd1, fun w hw => ?_⟩
  have hvs : v.cells.size = k := by rw [← Array.length_toList, hv, he]
  have hrun : (execOp (ev f) ⟨some d1, .buildSlice t 1 #[(0, x)], ty1, pos1, af1, none⟩).run c.P w = .ok (.value (.slice (some ⟨w.heap.size, 0, none⟩) 1 1)) (w.alloc (.cells (enc y).toArray e)) := by
    have h2 : ¬ 16777216 < k := by omega
    have h0 : ¬ k = 0 := by omega
    have hfill : Instr.fill (fun i => some (i * k, k)) ((Array.range (1 * k)).map (z.cells[· % z.cells.size]!)) [(0, v)] = some (enc y).toArray := by
      have h3 := fill_bld (rowPl k 1) (fun i => some (i * k, k)) (fun i q h => rowPl_at h) [(0, v)] ((Array.range (1 * k)).map (z.cells[· % z.cells.size]!)) (by
        simp only [bldOk, rowPl, Array.size_map, Array.size_range]
        simp [hvs])
      rw [h3]
      congr 1
      simp only [bld, rowPl]
      have h4 : (setAt ((Array.range (1 * k)).map (z.cells[· % z.cells.size]!)).toList 0 v.cells.toList) = v.cells.toList := by
        have := setAt_append [] [] v.cells.toList ((Array.range (1 * k)).map (z.cells[· % z.cells.size]!)).toList 0 (by simp [hvs])
        have hl : ∀ (vs C : List Value), vs.length = C.length → setAt C 0 vs = vs := by
          have key : ∀ (vs P C : List Value), vs.length = C.length → setAt (P ++ C) P.length vs = P ++ vs := by
            intro vs
            induction vs with
            | nil => intro P C h; cases C with
              | nil => rfl
              | cons _ _ => simp at h
            | cons v r ih => intro P C h; cases C with
              | nil => simp at h
              | cons a C =>
                simp only [setAt]
                have e1 : (P ++ a :: C).set P.length v = (P ++ [v]) ++ C := by simp
                rw [e1]
                have := ih (P ++ [v]) C (by simpa using h)
                simp only [List.length_append, List.length_cons, List.length_nil] at this
                rw [this]
                simp
          intro vs C h
          have := key vs [] C h
          simpa using this
        exact hl _ _ (by simp [hvs])
      rw [show ((List.map (fun i => (i * k, k)) (List.range 1)).getD 0 (0, 0)).fst = 0 by simp]
      rw [h4, hv]
    simp [execOp, Instr.buildSlice, run_underlying ht, hsz, hzv, h2, h0, hx, newRow, Result.andThen]
    simp at hfill
    rw [hfill]
    simp
  rw [hrun]
  refine ⟨_, hw.newBox e (enc y), rfl, ?_⟩
  have ho' : ev (upd f d1 (.slice (some ⟨w.heap.size, 0, none⟩) 1 1)) (.tmp o1) = .slice A xs.length cA := by
    show upd f d1 _ o1 = _
    simp only [upd, hne, cond_false]
    exact ho
  have hd' : ev (upd f d1 (.slice (some ⟨w.heap.size, 0, none⟩) 1 1)) (.tmp d1) = .slice (some ⟨w.heap.size, 0, none⟩) 1 1 := by
    show upd f d1 _ d1 = _
    simp [upd, Nat.beq_refl]
  refine X_append (f_append (j + 1) (m := 1) (ys := [y]) ht hi hz hsize hzs hk0 he h1 ho' hd' (by simpa using hk) (fun w1 hw1 => ?_) ⟨by simpa using hlen.1, hlen.2⟩ hd2 fun A' c' => ?_)
  · have := slAt_box (enc := enc) (xs := [y]) hw1 (j := 0) (b := w.heap.size) (t := e) (by simp) he (by simp)
    simpa using this
  · refine HL_mem (L' := L.set j (rowT e k enc A' c' (xs ++ [y]))) (fun w1 hw1 => ?_) rfl (next w.heap.size A' c')
    simpa using hw1.tail
end

open Go.Shelf Go.Lib Go.Sort in
theorem sorted_mem {α : Type} [Inhabited α] {e : TypeId} {k : Nat} {enc : α → List Value} {c b j n : Nat} {xs ys : List α} {w0 w : World} {L : List Item} {os : Array Obj} (he : ∀ x, (enc x).length = k) (hw : Mem w0 L w) (hk : L[j]? = some (rowT e k enc (some ⟨b, 0, none⟩) c xs)) (hl : ys.length = xs.length) :
    Mem w0 (L.set j (rowT e k enc (some ⟨b, 0, none⟩) c ys)) (sortWorldK enc k w b 0 n ys.toArray os) := by
  obtain ⟨cs, hc, hr⟩ := rowT_open (hw.item hk)
  obtain ⟨r, hrest⟩ := hr.rest
  have hb : b < w.heap.size := (Array.getElem?_eq_some_iff.1 hc).1
  have hflat : (flatK enc k ys.toArray).toList = ys.flatMap enc := by
    apply List.ext_getElem?
    intro y
    by_cases hy : y < ys.length * k
    · have hk0 : 0 < k := by rcases Nat.eq_zero_or_pos k with h | h; · rw [h] at hy; omega
                             · exact h
      have hyk : y % k < k := Nat.mod_lt _ hk0
      have hyd : y / k < ys.length := Nat.div_lt_of_lt_mul (by rw [Nat.mul_comm]; exact hy)
      have h1 : ys[y / k]? = some ys[y / k] := List.getElem?_eq_getElem hyd
      have h2 : (enc ys[y / k])[y % k]? = some ((enc ys[y / k])[y % k]'(by rw [he]; exact hyk)) := List.getElem?_eq_getElem _
      have h3 := flat_get he _ _ _ h1 _ _ h2
      rw [Nat.mul_comm, Nat.div_add_mod] at h3
      rw [h3]
      have h4 := get_flatK enc k ys.toArray y (by simpa using hy)
      rw [getElem!_pos _ y (by simpa using hy)] at h4
      rw [Array.getElem?_toList, Array.getElem?_eq_getElem (by simpa using hy), h4]
      congr 1
      rw [getElem!_pos ys.toArray (y / k) (by simpa using hyd)]
      simp only [List.getElem_toArray]
      rw [getElem!_pos _ (y % k) (by rw [he]; exact hyk)]
    · rw [List.getElem?_eq_none (by simp; omega), List.getElem?_eq_none (by rw [flat_len he]; omega)]
  have hput : (putRowK enc k (Go.Sort.ahead w n) b 0 ys.toArray).heap[b]? = some (.cells (ys.flatMap enc ++ r).toArray e (0, 0)) := by
    show (w.heap.modify b _)[b]? = _
    rw [Array.getElem?_modify, if_pos rfl, hc]
    simp only [Option.map_some, onCells, Option.some.injEq, Obj.cells.injEq, and_true]
    apply Array.ext'
    apply List.ext_getElem?
    intro y
    simp only [putCells, Array.toList_mapIdx, List.getElem?_mapIdx, size_flatK, List.size_toArray, Nat.zero_le, true_and, Nat.zero_add, Nat.sub_zero]
    by_cases hy : y < ys.length * k
    · have hy2 : y < cs.length := by
        rw [hr.size]
        have := hr.len
        have h2 : ys.length * k ≤ c * k := Nat.mul_le_mul_right _ (by omega)
        omega
      rw [List.getElem?_eq_getElem hy2]
      simp only [Option.map_some, hy, if_true, id]
      have h4 : (ys.flatMap enc)[y]? = some (flatK enc k ys.toArray)[y]! := by
        rw [← hflat, Array.getElem?_toList, getElem!_pos _ y (by simpa using hy)]
        exact Array.getElem?_eq_getElem _
      rw [List.getElem?_append_left (by rw [flat_len he]; exact hy), h4]
    · simp only [hy, if_false, Option.map_id', id]
      rw [hrest, List.getElem?_append_right (by rw [flat_len he, ← hl]; omega), List.getElem?_append_right (by rw [flat_len he]; omega), flat_len he, flat_len he, hl]
  have hsz : (putRowK enc k (Go.Sort.ahead w n) b 0 ys.toArray).heap.size = w.heap.size := by simp [putRowK, Go.Sort.ahead]
  refine hw.regrow hk (fun b hb => .inl hb) (fun b' hb' => ?_) (rowT_close he (cs := ys.flatMap enc ++ r) ?_ ⟨by rw [hl]; exact hr.len, hr.max, ?_, r, rfl⟩) ⟨rfl, rfl, rfl, ?_⟩ ?_ (fun b' hb' hf => ?_)
  · cases hb'
    show b < ((putRowK enc k (Go.Sort.ahead w n) b 0 ys.toArray).heap ++ os).size
    rw [Array.size_append, hsz]; omega
  · show ((putRowK enc k (Go.Sort.ahead w n) b 0 ys.toArray).heap ++ os)[b]? = _
    rw [Array.getElem?_append_left (by rw [hsz]; exact hb)]
    exact hput
  · have := hr.size
    rw [hrest] at this
    simp only [List.length_append, flat_len he, hl] at this ⊢
    exact this
  · exact Nat.le_add_right _ _
  · show w.heap.size ≤ ((putRowK enc k (Go.Sort.ahead w n) b 0 ys.toArray).heap ++ os).size
    rw [Array.size_append, hsz]; omega
  · show ((putRowK enc k (Go.Sort.ahead w n) b 0 ys.toArray).heap ++ os)[b']? = _
    rw [Array.getElem?_append_left (by rw [hsz]; exact hb')]
    show (w.heap.modify b _)[b']? = _
    rw [Array.getElem?_modify, if_neg (fun h => hf (by rw [h]; rfl))]

open Go.Shelf Go.Lib Go.Sort in
theorem holdsK_row {α : Type} [Inhabited α] {e : TypeId} {k : Nat} {enc : α → List Value} {c b j : Nat} {xs : List α} {w0 w : World} {L : List Item} (he : ∀ x, (enc x).length = k) (hw : Mem w0 L w) (hk : L[j]? = some (rowT e k enc (some ⟨b, 0, none⟩) c xs)) : HoldsK enc k w b 0 xs.toArray := by
  intro t ht
  rw [size_flatK] at ht
  simp only [List.size_toArray] at ht
  have hk0 : 0 < k := by rcases Nat.eq_zero_or_pos k with h | h; · rw [h] at ht; omega
                         · exact h
  have htk : t % k < k := Nat.mod_lt _ hk0
  have htd : t / k < xs.length := Nat.div_lt_of_lt_mul (by rw [Nat.mul_comm]; exact ht)
  rw [get_flatK enc k xs.toArray t (by simpa using ht), Nat.zero_add]
  have h1 : xs[t / k]? = some xs[t / k] := List.getElem?_eq_getElem htd
  have h2 : (enc xs[t / k])[t % k]? = some ((enc xs[t / k])[t % k]'(by rw [he]; exact htk)) := List.getElem?_eq_getElem _
  have h3 := row_cell he hw hk h1 h2
  rw [Nat.mul_comm, Nat.div_add_mod] at h3
  refine ⟨?_, ?_⟩
  · rw [h3, getElem!_pos xs.toArray (t / k) (by simpa using htd)]
    simp only [List.getElem_toArray, id]
    rw [getElem!_pos _ (t % k) (by rw [he]; exact htk)]
  · obtain ⟨cs, hc, _⟩ := rowT_open (hw.item hk)
    simp [World.frozen?, hc]

/-- a world that has only grown -/
theorem Bel.grew {w w' : World} (h : Bel w w') : ∃ q os', w' = Go.Sort.grow (w.drewN q) os' := by
  refine ⟨w'.drawn - w.drawn, w'.heap.extract w.heap.size w'.heap.size, ?_⟩
  have hh : w'.heap = w.heap ++ w'.heap.extract w.heap.size w'.heap.size := by
    apply Array.ext_getElem?
    intro i
    by_cases hi : i < w.heap.size
    · rw [Array.getElem?_append_left hi]; exact h.block i hi
    · rw [Array.getElem?_append_right (by omega), Array.getElem?_extract]
      by_cases h2 : i < w'.heap.size
      · rw [if_pos (by omega)]; congr 1; omega
      · rw [if_neg (by omega), Array.getElem?_eq_none (by omega)]
  have h1 := h.os
  have h2 := h.tape
  have h3 := h.output
  have h4 := h.drawn
  cases w; cases w'
  simp only [World.drewN, Go.Sort.grow] at *
  subst h1 h2 h3
  congr 1
  omega

end Go.Proofs.E

/-
  Maps, more: delete; a range over a map that stays as it is; a map of pointers to boxes of one's own.
-/
namespace Go.Proofs.E
open Go Go.RowKit

def mdel (ps : List (Int × Value)) (k : Int) : List (Int × Value) := ps.eraseP (fun p => p.1 == k)
theorem pairs_erase (k : Int) : ∀ (es : List MapEntry) (ps : List (Int × Value)) (i : Nat), PairsAre es ps →
    (Instr.findNow (.int .i64) (.int .i64 k) es i = some none ∧ mdel ps k = ps) ∨
    (∃ j x, Instr.findNow (.int .i64) (.int .i64 k) es i = some (some (i + j, x)) ∧ j < es.length ∧ PairsAre (es.eraseIdx j) (mdel ps k)) := by
  intro es
  induction es with
  | nil => intro ps i h; cases h; exact .inl ⟨rfl, rfl⟩
  | cons e es ih =>
    intro ps i h
    cases h with
    | cons hp hr =>
      rename_i p ps
      have hp' := hp
      obtain ⟨hk, hv⟩ := hp
      by_cases hkk : p.1 = k
      · refine .inr ⟨0, e.val, ?_, by simp, ?_⟩
        · simp [Instr.findNow, Instr.sameNow, hk, hkk]
        · simpa [mdel, hkk] using hr
      · have hne : (k == p.1) = false := beq_eq_false_iff_ne.2 fun e => hkk e.symm
        rcases ih ps (i + 1) hr with ⟨h1, h2⟩ | ⟨j, x, h1, h2, h3⟩
        · refine .inl ⟨?_, ?_⟩
          · simp [Instr.findNow, Instr.sameNow, hk, hne, h1]
          · simp only [mdel] at h2 ⊢
            rw [List.eraseP_cons_of_neg (by simpa using hkk), h2]
        · refine .inr ⟨j + 1, x, ?_, by simp; omega, ?_⟩
          · simp [Instr.findNow, Instr.sameNow, hk, hne, h1]
            omega
          · simp only [mdel] at h3 ⊢
            rw [List.eraseP_cons_of_neg (by simpa using hkk), List.eraseIdx_cons_succ]
            exact .cons hp' h3
section
variable {P : Program} {t kt et : TypeId}
theorem run_delete_imap {w : World} {b : Nat} {ps : List (Int × Value)} {k : Int} {ty : TypeId} {t2 : TypeId} (ht : P.underlying t = some (.map kt et)) (hk : P.underlying kt = some (.int .i64)) (h : IMap w b ps) :
    ∃ w', (Builtin.delete_ #[t, t2] ty #[.map (some b), .int .i64 k]).run P w = .ok (.tuple #[]) w' ∧ IMap w' b (mdel ps k) ∧ w.grownBy w' (some b) ∧ w'.heap.size = w.heap.size ∧ w.drawn ≤ w'.drawn := by
  have hlt := h.lt
  obtain ⟨es, c, h1, h2, h3⟩ := h
  have hg : ∀ o : Obj, w.grownBy { w with heap := w.heap.setIfInBounds b o } (some b) := fun o => ⟨rfl, rfl, rfl, by simp, fun i _ hi => by
    have hne : b ≠ i := fun e => hi (by rw [e])
    exact Array.getElem?_setIfInBounds_ne hne⟩
  rcases pairs_erase k es.toList ps 0 h2 with ⟨ha, hs⟩ | ⟨j, x, ha, hj, hm⟩
  · refine ⟨{ w with heap := w.heap.setIfInBounds b (.map es c) }, ?_, ⟨es, c, Array.getElem?_setIfInBounds_self_of_lt hlt, by rw [hs]; exact h2, h3⟩, hg _, by simp, Nat.le_refl _⟩
    simp [Builtin.delete_, run_underlying ht, MapKept.run_getObj_map h1, run_checkKey10000 hk, run_underlying hk, Instr.findKey, ha, Result.andThen, MapKept.run_setObj_map _ h1]
  · rw [Nat.zero_add] at ha
    have he : (es.eraseIdxIfInBounds j).toList = es.toList.eraseIdx j := by simp [Array.eraseIdxIfInBounds]; split <;> simp_all
    refine ⟨{ w with heap := w.heap.setIfInBounds b (.map (es.eraseIdxIfInBounds j) c) }, ?_, ⟨_, c, Array.getElem?_setIfInBounds_self_of_lt hlt, by rw [he]; exact hm, by rw [he]; exact h3.sub (List.eraseIdx_sublist _ _)⟩, hg _, by simp, Nat.le_refl _⟩
    simp [Builtin.delete_, run_underlying ht, MapKept.run_getObj_map h1, run_checkKey10000 hk, run_underlying hk, Instr.findKey, ha, Result.andThen, MapKept.run_setObj_map _ h1]
end

section
variable {c : Cx} {w0 : World} {L : List Item} {f : Fr} {K : List Item → Fr → Prop} {d : Nat} {ty t kt et : TypeId} {pos : String} {af : Array Edge} {g : Bool} {x y z : Operand}
/-- a look-up, however the map is known -/
theorem e_lookG {b : Nat} {ps : List (Int × Value)} {key : Int} {v u : Value} (ht : c.P.underlying t = some (.map kt et)) (hkt : c.P.underlying kt = some (.int .i64)) (hz : ∀ w, (zeroValue et).run c.P w = .ok v w) (hx : OpV g f x (.map (some b))) (hy : OpV g f y (.int .i64 key))
    (hI : ∀ w, Mem w0 L w → IMap w b ps) (hu : g = true → (mlook ps key).getD v = u) : EvG g c w0 L f (.lookup t x y false) ty u := fun e _ _ _ _ w hw => by
  simp [execOp, hx e, hy e, run_lookup_imap ht hkt hz (hI w hw) key, Result.andThen, hu e]
theorem IMap.mem {b : Nat} {ps : List (Int × Value)} (h : IMap w0 b ps) (w : World) (hw : Mem w0 L w) : IMap w b ps := h.kept (hw.1.block b h.lt)

/-! a range over a map that stays as it is -/
def mit (r m clock : Nat) (seen : Array Nat) (last : Nat) : Item where
  fp := fun b => b = r
  A := fun w => w.heap[r]? = some (.mapIter (some m) clock seen last)
  st := fun _ _ h hA => (h r rfl).trans hA
theorem f_range {m clock : Nat} {es : Array MapEntry} (ht : c.P.underlying t = some (.map kt et)) (hm : ∀ w, Mem w0 L w → w.heap[m]? = some (.map es clock)) (hx : ev f x = .map (some m)) (hd : Nat.blt d c.N = true)
    (next : ∀ r, K (mit r m clock #[] clock :: L) (upd f d (.pointer (some ⟨r, 0, none⟩)))) : Eff c w0 L f ⟨some d, .range t x, ty, pos, af, none⟩ K :=
  ⟨rfl, rfl, hd, fun w hw => by
    have : (execOp (ev f) ⟨some d, .range t x, ty, pos, af, none⟩).run c.P w = .ok (.value (.pointer (some ⟨w.heap.size, 0, none⟩))) (w.alloc (.mapIter (some m) clock #[] clock)) := by
      simp [execOp, hx, Instr.range, run_underlying ht, MapKept.run_getObj_map (hm w hw), Result.andThen]
    rw [this]
    exact ⟨_, hw.new _ (mit w.heap.size m clock #[] clock) (fun _ h => h) (heap_alloc_new w _), rfl, next _⟩⟩
theorem f_next (k : Nat) {r m clock last : Nat} {seen : Array Nat} {es : Array MapEntry} (hm : ∀ w, Mem w0 L w → w.heap[m]? = some (.map es clock)) (hB : BornOk es.toList clock) (hx : ev f x = .pointer (some ⟨r, 0, none⟩)) (hk : L[k]? = some (mit r m clock seen last)) (hl : clock ≤ last) (hd : Nat.blt d c.N = true)
    (stop : (∀ e ∈ es.toList, seen.contains e.born = true) → K L (upd f d (.tuple #[.bool false])))
    (step : ∀ e ∈ es.toList, seen.contains e.born = false → K (L.set k (mit r m clock (seen.push e.born) clock)) (upd f d (.tuple #[.bool true, e.key, e.val]))) : Eff c w0 L f ⟨some d, .next x false, ty, pos, af, none⟩ K :=
  ⟨rfl, rfl, hd, fun w hw => by
    have hr : w.heap[r]? = some (.mapIter (some m) clock seen last) := hw.item hk
    have hrl := hw.itemLt hk (b := r) rfl
    rcases run_next_at (P := c.P) w ty r m clock last seen es clock hr (hm w hw) (fun x hx => hB.lt x hx) hl with ⟨h0, hrun⟩ | ⟨e, he, w1, hw1, hrun⟩
    · have : (execOp (ev f) ⟨some d, .next x false, ty, pos, af, none⟩).run c.P w = .ok (.value (.tuple #[.bool false])) w := by simp [execOp, hx, hrun, Result.andThen]
      rw [this]
      refine ⟨L, hw, rfl, stop fun e he => ?_⟩
      cases hc : seen.contains e.born with
      | true => rfl
      | false =>
        have : e ∈ (leftOf es seen).toList := by
          unfold leftOf
          simp only [Array.toList_filter, List.mem_filter, Bool.not_eq_true']
          exact ⟨he, hc⟩
        rw [Array.eq_empty_of_size_eq_zero h0] at this
        cases this
    · have : (execOp (ev f) ⟨some d, .next x false, ty, pos, af, none⟩).run c.P w = .ok (.value (.tuple #[.bool true, e.key, e.val])) (Go.ChangeMaps.setBlock w1 r (.mapIter (some m) clock (seen.push e.born) clock)) := by simp [execOp, hx, hrun, Result.andThen]
      rw [this]
      have hes : e ∈ es.toList ∧ seen.contains e.born = false := by
        unfold leftOf at he
        simp only [Array.toList_filter, List.mem_filter, Bool.not_eq_true'] at he
        exact he
      have hw1' : Mem w0 L w1 := by rcases hw1 with rfl | rfl; · exact hw
                                    · exact hw.drew
      refine ⟨L.set k (mit r m clock (seen.push e.born) clock), ?_, marks_set hk rfl, step e hes.1 hes.2⟩
      have hrl1 := hw1'.itemLt hk (b := r) rfl
      refine hw1'.set (w' := Go.ChangeMaps.setBlock w1 r (.mapIter (some m) clock (seen.push e.born) clock)) (it' := mit r m clock (seen.push e.born) clock) hk (fun _ h => h) ?_ ⟨rfl, rfl, rfl, by simp [Go.ChangeMaps.setBlock], Nat.le_refl _⟩ (fun b hb => ?_)
      · show (w1.heap.setIfInBounds r _)[r]? = _
        exact Array.getElem?_setIfInBounds_self_of_lt hrl1.2
      · show (w1.heap.setIfInBounds r _)[b]? = _
        exact Array.getElem?_setIfInBounds_ne (fun e => hb e.symm)⟩
theorem born_nodup {es : List MapEntry} {clock : Nat} (h : BornOk es clock) : (es.map (·.born)).Nodup := List.pairwise_map.2 (h.asc.imp fun h => Nat.ne_of_lt h)
theorem e_entry (k : Nat) {r m clock : Nat} {seen : Array Nat} {es : Array MapEntry} {e : MapEntry} (hm : ∀ w, Mem w0 L w → w.heap[m]? = some (.map es clock)) (hB : BornOk es.toList clock) (he : e ∈ es.toList) (hx : OpV g f x (.pointer (some ⟨r, 0, none⟩))) (hk : L[k]? = some (mit r m clock (seen.push e.born) clock)) :
    EvG g c w0 L f (.entry x) ty (.tuple #[e.key, e.val]) := fun hg _ _ _ _ w hw => by
  have := run_entry_at (P := c.P) w r m clock seen es clock e (hw.item hk) (hm w hw) he (born_nodup hB)
  simp [execOp, hx hg, this, Result.andThen]
end

theorem run_storeCells2 {P : Program} {w0 : World} {b o k : Nat} {t : TypeId} : ∀ (vs : List Value) (i : Nat) (cs : List Value) (w : World) (L : List Item), Mem w0 L w → L[k]? = some (box b t cs) → vs.all oneCell = true → o + i + vs.length ≤ cs.length →
    ∃ w', (storeCells ⟨b, o, none⟩ vs i).run P w = .ok () w' ∧ Mem w0 (L.set k (box b t (setAt cs (o + i) vs))) w' ∧ (w'.os = w.os ∧ w'.tape = w.tape ∧ w'.output = w.output ∧ w'.heap.size = w.heap.size ∧ w.drawn ≤ w'.drawn) ∧ ∀ q, q ≠ b → w'.heap[q]? = w.heap[q]?
  | [], i, cs, w, L, hw, hk, _, _ => ⟨w, by simp [storeCells], by
    have hi : L.set k (box b t cs) = L := by
      obtain ⟨h1, h2⟩ := List.getElem?_eq_some_iff.1 hk
      rw [← h2]; exact List.set_getElem_self h1
    show Mem w0 (L.set k (box b t cs)) w
    rw [hi]; exact hw, ⟨rfl, rfl, rfl, rfl, Nat.le_refl _⟩, fun _ _ => rfl⟩
  | v :: r, i, cs, w, L, hw, hk, h1, hl => by
    simp only [List.all_cons, Bool.and_eq_true] at h1
    simp only [List.length_cons] at hl
    have hlt : o + i < cs.length := by omega
    have hc : w.cell? ⟨b, o + i, none⟩ = some cs[o + i] := box_cell hw hk (List.getElem?_eq_getElem hlt)
    have hf : w.frozen? ⟨b, o + i, none⟩ = false := box_free hw hk _
    have hw1 := box_set hw hk (o + i) v
    have hk1 : (L.set k (box b t (cs.set (o + i) v)))[k]? = some (box b t (cs.set (o + i) v)) := by
      obtain ⟨h1, _⟩ := List.getElem?_eq_some_iff.1 hk
      simp [h1]
    obtain ⟨w', hr, hm, hos, hot⟩ := run_storeCells2 (P := P) (o := o) r (i + 1) (cs.set (o + i) v) (w.setCell ⟨b, o + i, none⟩ v) _ hw1 hk1 h1.2 (by simp; omega)
    refine ⟨w', ?_, ?_, ⟨hos.1, hos.2.1, hos.2.2.1, by rw [hos.2.2.2.1]; simp [World.setCell], hos.2.2.2.2⟩, fun q hq => (hot q hq).trans ?_⟩
    · have hst : (store ⟨b, o + i, none⟩ v).run P w = .ok () (w.setCell ⟨b, o + i, none⟩ v) := by
        have h2 := h1.1
        cases v <;> simp [oneCell] at h2 <;> simp [store, Sem.run, hc, hf]
      simp [storeCells, addr_add, hst, Result.andThen, hr]
    · rw [List.set_set] at hm
      exact hm
    · simp [World.setCell, Array.getElem?_modify, Ne.symm hq]

/-! a map of pointers, each to a box of its own -/
def ptrs {β : Type} (ps : List (Int × Nat × β)) : List (Int × Value) := ps.map fun p => (p.1, .pointer (some ⟨p.2.1, 0, none⟩))
def blks {β : Type} (ps : List (Int × Nat × β)) : List Nat := ps.map fun p => p.2.1
def pmap {β : Type} (m : Nat) (t : TypeId) (enc : β → List Value) (ps : List (Int × Nat × β)) : Item where
  fp := fun b => b = m ∨ b ∈ blks ps
  A := fun w => IMap w m (ptrs ps) ∧ (∀ p ∈ ps, w.heap[p.2.1]? = some (.cells (enc p.2.2).toArray t (0, 0))) ∧ (blks ps).Nodup
  st := fun w w' h hA => ⟨hA.1.kept (h m (.inl rfl)), fun p hp => (h p.2.1 (.inr (List.mem_map.2 ⟨p, hp, rfl⟩))).trans (hA.2.1 p hp), hA.2.2⟩
theorem ptrs_look {β : Type} (ps : List (Int × Nat × β)) (k : Int) : mlook (ptrs ps) k = (ps.find? (fun p => p.1 == k)).map fun p => .pointer (some ⟨p.2.1, 0, none⟩) := by
  induction ps with
  | nil => rfl
  | cons p ps ih =>
    by_cases h : p.1 == k
    · simp [mlook, ptrs, h]
    · simp only [mlook, ptrs, List.map_cons] at ih ⊢
      rw [List.find?_cons_of_neg (by simpa using h), List.find?_cons_of_neg (by simpa using h)]
      exact ih
theorem ptrs_del {β : Type} (ps : List (Int × Nat × β)) (k : Int) : mdel (ptrs ps) k = ptrs (ps.eraseP fun p => p.1 == k) := by
  induction ps with
  | nil => rfl
  | cons p ps ih =>
    by_cases h : p.1 == k
    · simp [mdel, ptrs, h]
    · simp only [mdel, ptrs, List.map_cons] at ih ⊢
      rw [List.eraseP_cons_of_neg (by simpa using h), List.eraseP_cons_of_neg (by simpa using h), List.map_cons, ih]
theorem ptrs_put {β : Type} (ps : List (Int × Nat × β)) (k : Int) (b : Nat) (x : β) (h : ps.find? (fun p => p.1 == k) = none) : mput (ptrs ps) k (.pointer (some ⟨b, 0, none⟩)) = ptrs (ps ++ [(k, b, x)]) := by
  induction ps with
  | nil => rfl
  | cons p ps ih =>
    by_cases hk : p.1 == k
    · rw [List.find?_cons_of_pos (by simpa using hk)] at h; cases h
    · rw [List.find?_cons_of_neg (by simpa using hk)] at h
      have := ih h
      simp only [ptrs, List.map_cons, List.cons_append, mput] at this ⊢
      rw [if_neg (by simpa using hk), this]
section
variable {β : Type} {c : Cx} {w0 : World} {L : List Item} {f : Fr} {K : List Item → Fr → Prop} {d m : Nat} {ty t kt et tb : TypeId} {pos : String} {af : Array Edge} {g : Bool} {x y z : Operand} {enc : β → List Value} {ps : List (Int × Nat × β)}
theorem pmap_map (k : Nat) (hk : L[k]? = some (pmap m tb enc ps)) (w : World) (hw : Mem w0 L w) : IMap w m (ptrs ps) := (hw.item hk).1
theorem pc (k : Nat) {q r : Nat} {p : Int × Nat × β} {v : Value} (hk : L[k]? = some (pmap m tb enc ps)) (hp : ps[q]? = some p) (hv : (enc p.2.2)[r]? = some v) : g = true → ∀ w, Mem w0 L w → w.cell? ⟨p.2.1, 0 + r, none⟩ = some v := fun _ w hw => by
  have hA : (pmap m tb enc ps).A w := hw.item hk
  have := hA.2.1 p (List.mem_of_getElem? hp)
  simp [World.cell?, this, hv]
theorem f_pmapDel (k : Nat) {t2 : TypeId} {key : Int} (ht : c.P.underlying t = some (.map kt et)) (hkt : c.P.underlying kt = some (.int .i64)) (hx : ev f x = .map (some m)) (hy : ev f y = .int .i64 key) (hk : L[k]? = some (pmap m tb enc ps))
    (next : K (L.set k (pmap m tb enc (ps.eraseP fun p => p.1 == key))) f) : Eff c w0 L f ⟨none, .call { callee := .builtin .delete, args := #[x, y], argTypes := #[t, t2] }, ty, pos, af, none⟩ K :=
  ⟨rfl, rfl, rfl, fun w hw => by
    have hA : (pmap m tb enc ps).A w := hw.item hk
    obtain ⟨w', hrun, h1, h2, h3, h4⟩ := run_delete_imap (P := c.P) (k := key) (ty := ty) (t2 := t2) ht hkt hA.1
    have : (execOp (ev f) ⟨none, .call { callee := .builtin .delete, args := #[x, y], argTypes := #[t, t2] }, ty, pos, af, none⟩).run c.P w = .ok (.value (.tuple #[])) w' := by
      simp [execOp, resolve, invoke, builtin, hx, hy, hrun, Result.andThen]
    rw [this]
    have hsub : (ps.eraseP fun p => p.1 == key).Sublist ps := List.eraseP_sublist
    have hml := (hw.itemLt hk (b := m) (.inl rfl))
    have hne : ∀ p ∈ ps, p.2.1 ≠ m := fun p hp e => by
      have h5 := hA.2.1 p hp
      obtain ⟨es, cl, h6, _⟩ := hA.1
      rw [e, h6] at h5; cases h5
    have hbl : ∀ b, b ≠ m → w'.heap[b]? = w.heap[b]? := fun b hb => by
      by_cases hlt : b < w.heap.size
      · exact h2.block b hlt (fun e => hb (by injection e))
      · rw [Array.getElem?_eq_none (by omega), Array.getElem?_eq_none (by omega)]
    refine ⟨_, hw.set (it' := pmap m tb enc (ps.eraseP fun p => p.1 == key)) hk (fun b hb => ?_) ⟨by rw [← ptrs_del]; exact h1, fun p hp => (hbl p.2.1 (hne p (hsub.mem hp))).trans (hA.2.1 p (hsub.mem hp)), hA.2.2.sublist (hsub.map (fun p : Int × Nat × β => p.2.1))⟩ ⟨h2.os, h2.tape, h2.output, h3, h4⟩ (fun b hb => hbl b (fun e => hb (.inl e))), marks_set hk rfl, next⟩
    rcases hb with hb | hb
    · exact .inl hb
    · exact .inr ((hsub.map (fun p : Int × Nat × β => p.2.1)).mem hb)⟩
/-- a new box, laid into the map under a new key -/
theorem f_pmapPut (k : Nat) {key : Int} {b : Nat} {cs : List Value} (v : β) (ht : c.P.underlying t = some (.map kt et)) (hkt : c.P.underlying kt = some (.int .i64)) (hx : ev f x = .map (some m)) (hy : ev f y = .int .i64 key) (hz : ev f z = .pointer (some ⟨b, 0, none⟩))
    (hk : (box b tb cs :: L)[k + 1]? = some (pmap m tb enc ps)) (hcs : cs = enc v) (hno : ps.find? (fun p => p.1 == key) = none)
    (next : K (L.set k (pmap m tb enc (ps ++ [(key, b, v)]))) f) : Eff c w0 (box b tb cs :: L) f ⟨none, .mapUpdate t x y z, ty, pos, af, none⟩ K :=
  ⟨rfl, rfl, rfl, fun w hw => by
    have hA : (pmap m tb enc ps).A w := hw.item hk
    have hbx : w.heap[b]? = some (.cells cs.toArray tb (0, 0)) := hw.item (k := 0) rfl
    have hbl0 := hw.itemLt (k := 0) (it := box b tb cs) rfl (b := b) rfl
    obtain ⟨w', hrun, h1, h2, h3, h4⟩ := run_update_imap (P := c.P) ht hkt hA.1 key (.pointer (some ⟨b, 0, none⟩))
    have : (execOp (ev f) ⟨none, .mapUpdate t x y z, ty, pos, af, none⟩).run c.P w = .ok .skip w' := by simp [execOp, hx, hy, hz, hrun, Result.andThen]
    rw [this]
    have hk' : L[k]? = some (pmap m tb enc ps) := by simpa using hk
    have hdis : ∀ q, (pmap m tb enc ps).fp q → q ≠ b := fun q hq e => by
      subst e
      exact (List.pairwise_cons.1 hw.2.2.2).1 _ (List.mem_of_getElem? hk') q rfl hq
    have hne : ∀ p ∈ ps, p.2.1 ≠ m := fun p hp e => by
      have h5 := hA.2.1 p hp
      obtain ⟨es, cl, h6, _⟩ := hA.1
      rw [e, h6] at h5; cases h5
    have hbl : ∀ q, q ≠ m → w'.heap[q]? = w.heap[q]? := fun q hq => by
      by_cases hlt : q < w.heap.size
      · exact h2.block q hlt (fun e => hq (by injection e))
      · rw [Array.getElem?_eq_none (by omega), Array.getElem?_eq_none (by omega)]
    have hbm : b ≠ m := fun e => hdis m (.inl rfl) e.symm
    -- the map alone first, the box beside it
    have hnd : (blks (ps ++ [(key, b, v)])).Nodup := by
      unfold blks
      rw [List.map_append]
      refine List.nodup_append.2 ⟨hA.2.2, by simp, fun q hq r hr => ?_⟩
      simp at hr
      subst hr
      exact hdis q (.inr hq)
    have hAll : (pmap m tb enc (ps ++ [(key, b, v)])).A w' := ⟨by rw [← ptrs_put ps key b v hno]; exact h1, fun p hp => by
      rcases List.mem_append.1 hp with hp | hp
      · exact (hbl p.2.1 (hne p hp)).trans (hA.2.1 p hp)
      · simp at hp
        subst hp
        rw [← hcs]
        exact (hbl b hbm).trans hbx, hnd⟩
    refine ⟨L.set k (pmap m tb enc (ps ++ [(key, b, v)])), ?_, marks_set hk' rfl, next⟩
    -- Mem of the new list
    obtain ⟨q1, q2, q3, q4⟩ := hw
    have hLk : k < L.length := (List.getElem?_eq_some_iff.1 hk').1
    have hfp : ∀ q, (pmap m tb enc (ps ++ [(key, b, v)])).fp q → (pmap m tb enc ps).fp q ∨ q = b := fun q hq => by
      rcases hq with hq | hq
      · exact .inl (.inl hq)
      · simp only [blks, List.map_append, List.map_cons, List.map_nil, List.mem_append, List.mem_singleton] at hq
        rcases hq with hq | hq
        · exact .inl (.inr hq)
        · exact .inr hq
    have hp1 := List.pairwise_cons.1 q4
    have hother : ∀ (j : Nat) it, L[j]? = some it → j ≠ k → (∀ q, it.fp q → ¬ (pmap m tb enc ps).fp q) ∧ (∀ q, it.fp q → q ≠ b) := fun j it hj hjk => by
      constructor
      · intro q hq hq2
        obtain ⟨p1, e1⟩ := List.getElem?_eq_some_iff.1 hj
        obtain ⟨p2, e2⟩ := List.getElem?_eq_some_iff.1 hk'
        rcases Nat.lt_or_gt_of_ne hjk with h | h
        · exact List.pairwise_iff_getElem.1 hp1.2 j k p1 p2 h q (e1 ▸ hq) (e2 ▸ hq2)
        · exact List.pairwise_iff_getElem.1 hp1.2 k j p2 p1 h q (e2 ▸ hq2) (e1 ▸ hq)
      · intro q hq e
        subst e
        exact hp1.1 it (List.mem_of_getElem? hj) q rfl hq
    have hset : ∀ (j : Nat) it, (L.set k (pmap m tb enc (ps ++ [(key, b, v)])))[j]? = some it → (j = k ∧ it = pmap m tb enc (ps ++ [(key, b, v)])) ∨ (j ≠ k ∧ L[j]? = some it) := fun j it hj => by
      rw [List.getElem?_set] at hj
      split at hj
      · rename_i e
        cases hj; exact .inl ⟨e.symm, rfl⟩
      · rename_i e
        exact .inr ⟨fun h => e h.symm, hj⟩
    refine ⟨⟨⟨h2.os.trans q1.os, h2.tape.trans q1.tape, h2.output.trans q1.output, by rw [h3]; exact q1.size, fun q hq => (hbl q (fun e => ?_)).trans (q1.block q hq)⟩, Nat.le_trans q1.drawn h4⟩, ?_, ?_, ?_⟩
    · subst e
      have := (q3 _ (List.mem_cons_of_mem _ (List.mem_of_getElem? hk')) q (.inl rfl)).1
      omega
    · intro it hi
      obtain ⟨j, hj⟩ := List.mem_iff_getElem?.1 hi
      rcases hset j it hj with ⟨_, rfl⟩ | ⟨hjk, hj⟩
      · exact hAll
      · exact it.st w w' (fun q hq => hbl q (fun e => (hother j it hj hjk).1 q hq (.inl e))) (q2 it (List.mem_cons_of_mem _ (List.mem_of_getElem? hj)))
    · intro it hi q hq
      rw [h3]
      obtain ⟨j, hj⟩ := List.mem_iff_getElem?.1 hi
      rcases hset j it hj with ⟨_, rfl⟩ | ⟨hjk, hj⟩
      · rcases hfp q hq with hq | rfl
        · exact q3 _ (List.mem_cons_of_mem _ (List.mem_of_getElem? hk')) q hq
        · exact hbl0
      · exact q3 it (List.mem_cons_of_mem _ (List.mem_of_getElem? hj)) q hq
    · rw [List.pairwise_iff_getElem]
      intro i j hi hj hij q hq1 hq2
      have hi' := hset i _ (List.getElem?_eq_getElem hi)
      have hj' := hset j _ (List.getElem?_eq_getElem hj)
      rcases hi' with ⟨ei, e1⟩ | ⟨hik, e1⟩
      · rcases hj' with ⟨ej, _⟩ | ⟨hjk, e2⟩
        · omega
        · rw [e1] at hq1
          rcases hfp q hq1 with h | h
          · exact (hother j _ e2 hjk).1 q hq2 h
          · exact (hother j _ e2 hjk).2 q hq2 h
      · rcases hj' with ⟨ej, e2⟩ | ⟨hjk, e2⟩
        · rw [e2] at hq2
          rcases hfp q hq2 with h | h
          · exact (hother i _ e1 hik).1 q hq1 h
          · exact (hother i _ e1 hik).2 q hq1 h
        · obtain ⟨p1, e3⟩ := List.getElem?_eq_some_iff.1 e1
          obtain ⟨p2, e4⟩ := List.getElem?_eq_some_iff.1 e2
          exact List.pairwise_iff_getElem.1 hp1.2 i j p1 p2 hij q (e3 ▸ hq1) (e4 ▸ hq2)⟩
/-- a store of one cell into a box that the map leads to -/
theorem f_pmapStore (k : Nat) {q off n : Nat} {p : Int × Nat × β} (v' : β) {v : Value} (hx : ev f x = .pointer (some ⟨p.2.1, 0 + off, none⟩)) (hy : ev f y = v) (hs : ∀ w, (sizeOf t).run c.P w = .ok n w) (hn : v.cells.size = n) (h1 : v.cells.toList.all oneCell = true)
    (hk : L[k]? = some (pmap m tb enc ps)) (hp : ps[q]? = some p) (ho : off + v.cells.toList.length ≤ (enc p.2.2).length) (hv : enc v' = setAt (enc p.2.2) off v.cells.toList)
    (next : K (L.set k (pmap m tb enc (ps.set q (p.1, p.2.1, v')))) f) : Eff c w0 L f ⟨none, .store t x y, ty, pos, af, none⟩ K :=
  ⟨rfl, rfl, rfl, fun w hw => by
    have hA : (pmap m tb enc ps).A w := hw.item hk
    have hmem := List.mem_of_getElem? hp
    have hcell := hA.2.1 p hmem
    have hLk : k < L.length := (List.getElem?_eq_some_iff.1 hk).1
    have hbnd := hw.itemLt hk (b := p.2.1) (.inr (List.mem_map.2 ⟨p, hmem, rfl⟩))
    have hw1 : Mem w0 (L.set k (box p.2.1 tb (enc p.2.2))) w := hw.swap hk (fun b hb => by cases hb; exact .inr (List.mem_map.2 ⟨p, hmem, rfl⟩)) hcell
    obtain ⟨w', hrun, hm, hos, hother⟩ := run_storeCells2 (P := c.P) (b := p.2.1) (t := tb) (o := off) (k := k) v.cells.toList 0 (enc p.2.2) w _ hw1 (by simp [hLk]) h1 (by simpa using ho)
    rw [List.set_set, Nat.add_zero] at hm
    have hbox : w'.heap[p.2.1]? = some (.cells (enc v').toArray tb (0, 0)) := by
      have := hm.item (k := k) (it := box p.2.1 tb (setAt (enc p.2.2) off v.cells.toList)) (by simp [hLk])
      rw [hv]; exact this
    rw [Nat.zero_add] at hx
    have : (execOp (ev f) ⟨none, .store t x y, ty, pos, af, none⟩).run c.P w = .ok .skip w' := by
      simp [execOp, hx, hy, Instr.storeAt, Instr.sureAddr, storeVar, hs, hn, hrun, Result.andThen]
    rw [this]
    have hblocks : blks (ps.set q (p.1, p.2.1, v')) = blks ps := by
      unfold blks
      rw [List.map_set]
      apply List.ext_getElem?
      intro i
      rw [List.getElem?_set]
      split
      · rename_i e; subst e
        simp only [List.length_map, List.getElem?_map, hp]
        rw [if_pos (List.getElem?_eq_some_iff.1 hp).1]; rfl
      · rfl
    have hptrs : ptrs (ps.set q (p.1, p.2.1, v')) = ptrs ps := by
      unfold ptrs
      rw [List.map_set]
      apply List.ext_getElem?
      intro i
      rw [List.getElem?_set]
      split
      · rename_i e; subst e
        simp only [List.length_map, List.getElem?_map, hp]
        rw [if_pos (List.getElem?_eq_some_iff.1 hp).1]; rfl
      · rfl
    have hne : ∀ p ∈ ps, p.2.1 ≠ m := fun p hp e => by
      have h5 := hA.2.1 p hp
      obtain ⟨es, cl, h6, _⟩ := hA.1
      rw [e, h6] at h5; cases h5
    refine ⟨_, hw.set (it' := pmap m tb enc (ps.set q (p.1, p.2.1, v'))) hk (fun b hb => ?_) ⟨?_, ?_, by rw [hblocks]; exact hA.2.2⟩ hos (fun b hb => hother b (fun e => hb (.inr (by rw [e]; exact List.mem_map.2 ⟨p, hmem, rfl⟩)))), marks_set hk rfl, next⟩
    · rcases hb with hb | hb
      · exact .inl hb
      · rw [hblocks] at hb; exact .inr hb
    · rw [hptrs]; exact hA.1.kept (hother m (fun e => hne p hmem e.symm))
    · intro r hr
      obtain ⟨i, hi⟩ := List.mem_iff_getElem?.1 hr
      rw [List.getElem?_set] at hi
      split at hi
      · split at hi
        · cases hi; exact hbox
        · cases hi
      · rename_i hqi
        have hrm := List.mem_of_getElem? hi
        refine (hother r.2.1 (fun e => ?_)).trans (hA.2.1 r hrm)
        have h6 := List.pairwise_iff_getElem.1 hA.2.2
        obtain ⟨p1, e1⟩ := List.getElem?_eq_some_iff.1 hi
        obtain ⟨p2, e2⟩ := List.getElem?_eq_some_iff.1 hp
        rcases Nat.lt_or_gt_of_ne hqi with h | h
        · exact h6 q i (by simpa [blks] using p2) (by simpa [blks] using p1) h (by simp [blks, e1, e2, e])
        · exact h6 i q (by simpa [blks] using p1) (by simpa [blks] using p2) h (by simp [blks, e1, e2, e])⟩
end

end Go.Proofs.E

/-
  Maps made, as items; the order of items ahead of a list that is not known.
-/
namespace Go.Proofs.E
open Go Go.RowKit

section
variable {β : Type} {c : Cx} {w0 : World} {L : List Item} {f : Fr} {K : List Item → Fr → Prop} {d : Nat} {ty t kt et : TypeId} {pos : String} {af : Array Edge} {x y z : Operand}
theorem f_makeMap (hd : Nat.blt d c.N = true) (next : ∀ b, K (imap b [] :: L) (upd f d (.map (some b)))) : Eff c w0 L f ⟨some d, .makeMap t none, ty, pos, af, none⟩ K :=
  ⟨rfl, rfl, hd, fun w hw => by
    have : (execOp (ev f) ⟨some d, .makeMap t none, ty, pos, af, none⟩).run c.P w = .ok (.value (.map (some w.heap.size))) (w.alloc (.map #[] 0)) := by simp [execOp, run_makeMap, Result.andThen]
    rw [this]
    exact ⟨_, hw.new _ (imap w.heap.size []) (fun _ h => h) (IMap.made w), rfl, next _⟩⟩
theorem f_makePmap (tb : TypeId) (enc : β → List Value) (hd : Nat.blt d c.N = true) (next : ∀ b, K (pmap b tb enc ([] : List (Int × Nat × β)) :: L) (upd f d (.map (some b)))) : Eff c w0 L f ⟨some d, .makeMap t none, ty, pos, af, none⟩ K :=
  ⟨rfl, rfl, hd, fun w hw => by
    have : (execOp (ev f) ⟨some d, .makeMap t none, ty, pos, af, none⟩).run c.P w = .ok (.value (.map (some w.heap.size))) (w.alloc (.map #[] 0)) := by simp [execOp, run_makeMap, Result.andThen]
    rw [this]
    exact ⟨_, hw.new _ (pmap w.heap.size tb enc []) (fun _ h => h.elim id (fun h => by simp [blks] at h)) ⟨IMap.made w, fun p hp => by simp at hp, by simp [blks]⟩, rfl, next _⟩⟩
theorem f_mapset (k : Nat) {b : Nat} {ps : List (Int × Value)} {key : Int} {v : Value} (ht : c.P.underlying t = some (.map kt et)) (hkt : c.P.underlying kt = some (.int .i64)) (hx : ev f x = .map (some b)) (hy : ev f y = .int .i64 key) (hz : ev f z = v)
    (hk : L[k]? = some (imap b ps)) (next : K (L.set k (imap b (mput ps key v))) f) : Eff c w0 L f ⟨none, .mapUpdate t x y z, ty, pos, af, none⟩ K :=
  ⟨rfl, rfl, rfl, fun w hw => by
    have hA : IMap w b ps := hw.item hk
    obtain ⟨w', hrun, h1, h2, h3, h4⟩ := run_update_imap (P := c.P) ht hkt hA key v
    have : (execOp (ev f) ⟨none, .mapUpdate t x y z, ty, pos, af, none⟩).run c.P w = .ok .skip w' := by simp [execOp, hx, hy, hz, hrun, Result.andThen]
    rw [this]
    refine ⟨_, hw.set (it' := imap b (mput ps key v)) hk (fun _ h => h) h1 ⟨h2.os, h2.tape, h2.output, h3, h4⟩ (fun b' hb' => ?_), marks_set hk rfl, next⟩
    by_cases hlt : b' < w.heap.size
    · exact h2.block b' hlt (fun e => hb' (by injection e))
    · rw [Array.getElem?_eq_none (by omega), Array.getElem?_eq_none (by omega)]⟩
end

theorem Mem.rot {w0 w : World} {X S L : List Item} (h : Mem w0 (X ++ (S ++ L)) w) : Mem w0 (S ++ (X ++ L)) w := h.perm (List.perm_append_comm_assoc ..)
theorem Mem.cutM {w0 w : World} {X S L : List Item} (h : Mem w0 (S ++ (X ++ L)) w) : Mem w0 (S ++ L) w := h.sublist (List.Sublist.append_left (List.sublist_append_right ..) _)
theorem Mem.cutX {w0 w : World} {X L : List Item} (h : Mem w0 (X ++ L) w) : Mem w0 L w := h.sublist (List.sublist_append_right ..)
theorem Mem.cutR {w0 w : World} {X L : List Item} (h : Mem w0 (X ++ L) w) : Mem w0 X w := h.sublist (List.sublist_append_left ..)
theorem Mem.mv1 {w0 w : World} {a b : Item} {L : List Item} (hm : Mem w0 (a :: b :: L) w) : Mem w0 (b :: a :: L) w := hm.perm (List.perm_middle (l₁ := [b]))
theorem Mem.fr1 {w0 w : World} {a b : Item} {L : List Item} (hm : Mem w0 (b :: a :: L) w) : Mem w0 (a :: b :: L) w := hm.perm (List.perm_middle (l₁ := [b])).symm
theorem Mem.mv2 {w0 w : World} {a b c : Item} {L : List Item} (hm : Mem w0 (a :: b :: c :: L) w) : Mem w0 (b :: c :: a :: L) w := hm.perm (List.perm_middle (l₁ := [b, c]))
theorem Mem.fr2 {w0 w : World} {a b c : Item} {L : List Item} (hm : Mem w0 (b :: c :: a :: L) w) : Mem w0 (a :: b :: c :: L) w := hm.perm (List.perm_middle (l₁ := [b, c])).symm
theorem Mem.mv3 {w0 w : World} {a b c d : Item} {L : List Item} (hm : Mem w0 (a :: b :: c :: d :: L) w) : Mem w0 (b :: c :: d :: a :: L) w := hm.perm (List.perm_middle (l₁ := [b, c, d]))
theorem Mem.fr3 {w0 w : World} {a b c d : Item} {L : List Item} (hm : Mem w0 (b :: c :: d :: a :: L) w) : Mem w0 (a :: b :: c :: d :: L) w := hm.perm (List.perm_middle (l₁ := [b, c, d])).symm
theorem Mem.mv4 {w0 w : World} {a b c d e : Item} {L : List Item} (hm : Mem w0 (a :: b :: c :: d :: e :: L) w) : Mem w0 (b :: c :: d :: e :: a :: L) w := hm.perm (List.perm_middle (l₁ := [b, c, d, e]))
theorem Mem.fr4 {w0 w : World} {a b c d e : Item} {L : List Item} (hm : Mem w0 (b :: c :: d :: e :: a :: L) w) : Mem w0 (a :: b :: c :: d :: e :: L) w := hm.perm (List.perm_middle (l₁ := [b, c, d, e])).symm
theorem Mem.mv5 {w0 w : World} {a b c d e f : Item} {L : List Item} (hm : Mem w0 (a :: b :: c :: d :: e :: f :: L) w) : Mem w0 (b :: c :: d :: e :: f :: a :: L) w := hm.perm (List.perm_middle (l₁ := [b, c, d, e, f]))
theorem Mem.fr5 {w0 w : World} {a b c d e f : Item} {L : List Item} (hm : Mem w0 (b :: c :: d :: e :: f :: a :: L) w) : Mem w0 (a :: b :: c :: d :: e :: f :: L) w := hm.perm (List.perm_middle (l₁ := [b, c, d, e, f])).symm
theorem Mem.mv6 {w0 w : World} {a b c d e f g : Item} {L : List Item} (hm : Mem w0 (a :: b :: c :: d :: e :: f :: g :: L) w) : Mem w0 (b :: c :: d :: e :: f :: g :: a :: L) w := hm.perm (List.perm_middle (l₁ := [b, c, d, e, f, g]))
theorem Mem.fr6 {w0 w : World} {a b c d e f g : Item} {L : List Item} (hm : Mem w0 (b :: c :: d :: e :: f :: g :: a :: L) w) : Mem w0 (a :: b :: c :: d :: e :: f :: g :: L) w := hm.perm (List.perm_middle (l₁ := [b, c, d, e, f, g])).symm
theorem Mem.mv7 {w0 w : World} {a b c d e f g h : Item} {L : List Item} (hm : Mem w0 (a :: b :: c :: d :: e :: f :: g :: h :: L) w) : Mem w0 (b :: c :: d :: e :: f :: g :: h :: a :: L) w := hm.perm (List.perm_middle (l₁ := [b, c, d, e, f, g, h]))
theorem Mem.fr7 {w0 w : World} {a b c d e f g h : Item} {L : List Item} (hm : Mem w0 (b :: c :: d :: e :: f :: g :: h :: a :: L) w) : Mem w0 (a :: b :: c :: d :: e :: f :: g :: h :: L) w := hm.perm (List.perm_middle (l₁ := [b, c, d, e, f, g, h])).symm

end Go.Proofs.E

/-
  Equality of structs, field by field; steps whose guard is known to hold.
-/
namespace Go.Proofs.E
open Go Go.RowKit

theorem run_part_one {P : Program} {t : TypeId} {cs : List Value} {k : Nat} {x : Value} (w : World) (ha : ∀ w, (isAgg t).run P w = .ok false w) (hx : cs[k]? = some x) : (part t cs.toArray k).run P w = .ok x w := by
  simp [part, ha, hx, Result.andThen]
theorem run_part_agg {P : Program} {t : TypeId} {cs : List Value} {k n : Nat} {vs : List Value} (w : World) (ha : ∀ w, (isAgg t).run P w = .ok true w) (hs : ∀ w, (sizeOf t).run P w = .ok n w) (hv : (cs.drop k).take n = vs) : (part t cs.toArray k).run P w = .ok (.agg vs.toArray) w := by
  subst hv
  simp [part, ha, hs, Result.andThen]
theorem eqF_nil {P : Program} {d : Nat} {xs ys : Array Value} (w : World) : (Op.eqFields (d + 1) xs ys []).run P w = .ok true w := by simp [Op.eqFields]
theorem eqF_cons {P : Program} {d : Nat} {xs ys : Array Value} {f : Field} {fs : List Field} {vx vy : Value} {b r : Bool} (w : World) (h1 : f.name ≠ "_") (hx : (part f.type xs f.offset).run P w = .ok vx w) (hy : (part f.type ys f.offset).run P w = .ok vy w) (he : (Op.equalIn (d + 1) f.type vx vy).run P w = .ok b w)
    (ih : (Op.eqFields (d + 1) xs ys fs).run P w = .ok r w) : (Op.eqFields (d + 1) xs ys (f :: fs)).run P w = .ok (b && r) w := by
  simp only [Op.eqFields, h1, ne_eq, not_false_eq_true, if_true, Sem.run_bind, hx, hy, Result.andThen_ok, he, Sem.run_ite]
  cases b with
  | false => rfl
  | true => rw [if_neg (by decide), ih]; rfl
theorem eqS_of {P : Program} {d : Nat} {t : TypeId} {fs : Array Field} {xs ys : Array Value} {r : Bool} (w : World) (ht : P.underlying t = some (.struct fs)) (hp : P.stoodInHeld t = false) (h : (Op.eqFields (d + 1) xs ys fs.toList).run P w = .ok r w) : (Op.equalIn (d + 2) t (.agg xs) (.agg ys)).run P w = .ok r w := by
  have e : P.fieldsOf t = fs := by unfold Program.fieldsOf; rw [ht]
  rw [run_equalIn_struct w (d + 1) t _ _ (by rw [e]; exact ht) hp, e]
  exact h

section
variable {c : Cx} {PQ : PJ} {w0 : World} {L : List Item} {f : Fr} {ops rest : List Oper} {d : Nat} {ty : TypeId} {pos : String} {af : Array Edge} {g : Bool} {v : Value} {dr : Bool}
theorem EvG.any {op : Op} (h : EvG true c w0 L f op ty v) : EvG g c w0 L f op ty v := fun _ => h rfl
/-- a guard that is known to hold -/
theorem xVk {op : Op} {gu : Option (Nat × Bool)} (hg : Gd f gu (ops.map (·.dst)) true) (hev : EvG true c w0 L f op ty v) (hnd : isDefer op = false) (hd : Nat.blt d c.N = true) (next : XL dr c ops rest PQ w0 L (upd f d v)) : XL dr c ops (⟨some d, op, ty, pos, af, gu⟩ :: rest) PQ w0 L f :=
  XV hg hnd hev hd (by rw [gv_true]; exact next)
theorem xCk {op : Op} {k : FuncId} {args : Array Value} {gu : Option (Nat × Bool)} (hg : Gd f gu (ops.map (·.dst)) true) (hen : EnterG true c w0 L f op ty k args) (hc : true = true → ∀ w, Mem w0 L w → Calls c.P k args w fun e w' => e = .returned v ∧ Bel w w') (hnd : isDefer op = false) (hd : Nat.blt d c.N = true) (next : XL dr c ops rest PQ w0 L (upd f d v)) : XL dr c ops (⟨some d, op, ty, pos, af, gu⟩ :: rest) PQ w0 L f :=
  XC hg hnd hen hd hc (by rw [gv_true]; exact next)
theorem gdT {j e : Nat} {dsts : List (Option Nat)} {b : Bool} (hb : b = true) (hj : dsts[j]? = some (some e)) (hx : f e = .bool b) : Gd f (some (j, true)) dsts true := hb ▸ Gd_true hj hx
theorem gdF {j e : Nat} {dsts : List (Option Nat)} {b : Bool} (hb : b = false) (hj : dsts[j]? = some (some e)) (hx : f e = .bool b) : Gd f (some (j, false)) dsts true := by
  have := Gd_false hj hx
  rw [hb] at this; exact this
theorem HL_effG {op : Op} {gu : Option (Nat × Bool)} (hg : Gd f gu (ops.map (·.dst)) true) (hnd : isDefer op = false) (hd : Nat.blt d c.N = true)
    (hev : ∀ w, Mem w0 L w → ∃ v w' L', (execOp (ev f) ⟨some d, op, ty, pos, af, gu⟩).run c.P w = .ok (.value v) w' ∧ Mem w0 L' w' ∧ marks L' = marks L ∧ HL c ops rest PQ w0 L' (upd f d v)) :
    HL c ops (⟨some d, op, ty, pos, af, gu⟩ :: rest) PQ w0 L f := by
  intro a w ha hw
  obtain ⟨v, w', L', hrun, hm, hk, hn⟩ := hev w hw
  show if _ then _ else _
  rw [wanted_fr ha]
  show if gd f gu _ = true then _ else _
  rw [show gd f gu (ops.map (·.dst)) = true from hg, if_pos rfl]
  refine ⟨fun _ _ => trivial, ?_⟩
  rw [Oper.semAt_eq _ _ _ (not_defer hnd), ha.eval, hrun]
  exact hn _ _ (hk ▸ ha.put hd v) hm
theorem X_slitG {t el : TypeId} {gu : Option (Nat × Bool)} {len size : Nat} {parts : List (Nat × Operand)} {vs : List (Nat × Value)} {z : Value} (hg : Gd f gu (ops.map (·.dst)) true) (zs : List Value) (ht : c.P.underlying t = some (.slice el)) (hs : ∀ w, (sizeOf el).run c.P w = .ok size w) (hz : ∀ w, (zeroValue el).run c.P w = .ok z w)
    (hlen : (Nat.ble (len * size) 16777216 && !Nat.beq (len * size) 0) = true) (hzr : (Array.range (len * size)).map (z.cells[· % z.cells.size]!) = zs.toArray) (hp : Parts f parts vs) (hok : bldOk (rowPl size len) zs.length vs = true) (hd : Nat.blt d c.N = true)
    (next : ∀ b, XL false c ops rest PQ w0 (box b el (bld (rowPl size len) zs vs) :: L) (upd f d (.slice (some ⟨b, 0, none⟩) len len))) : XL false c ops (⟨some d, .buildSlice t len parts.toArray, ty, pos, af, gu⟩ :: rest) PQ w0 L f :=
  HL_effG hg rfl hd fun w hw => ⟨.slice (some ⟨w.heap.size, 0, none⟩) len len, w.alloc (.cells (bld (rowPl size len) zs vs).toArray el), box w.heap.size el (bld (rowPl size len) zs vs) :: L, by
    rw [Bool.and_eq_true] at hlen
    have h2 : ¬ len * size > 2 ^ 24 := by have := Nat.le_of_ble_eq_true hlen.1; omega
    have h0 : ¬ len * size = 0 := by
      intro h
      rw [h] at hlen
      cases hlen.2
    have h3 := fill_bld (rowPl size len) (fun i => some (i * size, size)) (fun i q h => rowPl_at h) vs zs.toArray (by simpa using hok)
    simp [execOp, Instr.buildSlice, run_underlying ht, hs, hz, h2, h0, hp.map, hzr, h3, newRow, Result.andThen], hw.newBox el _, rfl, next _⟩
end

theorem e_cvt {c : Cx} {w0 : World} {L : List Item} {f : Fr} {ty src dst : TypeId} {g : Bool} {x : Operand} {k q : IntKind} {m : Int} (hs : c.P.underlying src = some (.int k)) (hd : c.P.underlying dst = some (.int .i64)) (hx : OpV g f x (.int q m)) (hm : g = true → -9223372036854775808 ≤ m ∧ m ≤ 9223372036854775807) : EvG g c w0 L f (.convert src dst x) ty (.int .i64 m) := fun e _ _ _ _ w _ => by
  simp [execOp, hx e, convert, run_underlying hs, run_underlying hd, Conv.intToInt, IntWalk.i64_in _ (hm e), Result.andThen]

end Go.Proofs.E

/-
  More results.
-/
namespace Go.Proofs.E
open Go Go.RowKit

theorem resc3 {c : Cx} {fn : Func} {w0 : World} {L : List Item} {f : Fr} (k : Nat) {a n b u u2 : Nat} {t tb : TypeId} {cs : List Value} {x y : Value} (hr : fn.results = #[.cell a t, .tmp u, .tmp u2]) (hv : f a = .pointer (some ⟨b, 0, none⟩)) (hx : f u = x) (hy : f u2 = y) (ht : ∀ w, (isAgg t).run c.P w = .ok true w) (hs : ∀ w, (sizeOf t).run c.P w = .ok n w)
    (hk : L[k]? = some (box b tb cs)) (hl : cs.length = n) : ResIs c.P c.N fn w0 L f (.tuple #[.agg cs.toArray, x, y]) := fun w ds ac hw ha => by
  have h1 := ha.get a
  rw [hv, Array.getD_eq_getD_getElem?] at h1
  have h2 := ha.get u
  rw [hx, Array.getD_eq_getD_getElem?] at h2
  have h3 := ha.get u2
  rw [hy, Array.getD_eq_getD_getElem?] at h3
  have := run_loadCellsFrom (P := c.P) (w := w) (b := b) (o := 0) n 0 #[] cs hl (fun j u hu => by simpa using box_cell hw hk hu)
  simp [results, hr, h1, h2, h3, asAddr, loadVar, ht, hs, loadCells, this, Result.andThen]

/-! the same, with the search for the place left to the end -/
section
variable {c : Cx} {w0 : World} {L : List Item} {f : Fr} {ty t : TypeId} {g : Bool} {x : Operand} {v : Value}
theorem eL {p : Addr} (ht : ∀ w, (isAgg t).run c.P w = .ok false w) (hx : OpV g f x (.pointer (some p))) (hc : g = true → ∀ w, Mem w0 L w → w.cell? p = some v := by first | exact bx 0 rfl rfl | exact bx 1 rfl rfl | exact bx 2 rfl rfl | exact bx 3 rfl rfl | exact bx 4 rfl rfl | exact bx 5 rfl rfl | exact bx 6 rfl rfl | exact bx 7 rfl rfl | exact bx 8 rfl rfl | exact bx 9 rfl rfl | exact bx 10 rfl rfl | exact bx 11 rfl rfl | exact bx 12 rfl rfl | exact bx 13 rfl rfl | exact rc ‹_› ‹_› rfl | exact rc0 ‹_› ‹_› rfl | exact xc ‹_› ‹_› | exact rr 0 rfl ‹_› rfl | exact rr0 0 rfl ‹_› rfl | exact rr 1 rfl ‹_› rfl | exact rr0 1 rfl ‹_› rfl | exact rr 2 rfl ‹_› rfl | exact rr0 2 rfl ‹_› rfl | exact rr 3 rfl ‹_› rfl | exact rr0 3 rfl ‹_› rfl | exact rr 4 rfl ‹_› rfl | exact rr0 4 rfl ‹_› rfl | exact rr 5 rfl ‹_› rfl | exact rr0 5 rfl ‹_› rfl | exact rr 6 rfl ‹_› rfl | exact rr0 6 rfl ‹_› rfl | exact rr 7 rfl ‹_› rfl | exact rr0 7 rfl ‹_› rfl | exact rr 8 rfl ‹_› rfl | exact rr0 8 rfl ‹_› rfl | exact rr 9 rfl ‹_› rfl | exact rr0 9 rfl ‹_› rfl | exact rr 10 rfl ‹_› rfl | exact rr0 10 rfl ‹_› rfl | exact rr 11 rfl ‹_› rfl | exact rr0 11 rfl ‹_› rfl) : EvG g c w0 L f (.load t x) ty v := e_ld ht hx hc
theorem eS {b o n : Nat} {vs : List Value} (ht : ∀ w, (isAgg t).run c.P w = .ok true w) (hs : ∀ w, (sizeOf t).run c.P w = .ok n w) (hx : OpV g f x (.pointer (some ⟨b, o, none⟩)))
    (hc : g = true → ∀ w, Mem w0 L w → ∀ j u, vs[j]? = some u → w.cell? ⟨b, o + j, none⟩ = some u := by first | exact bxs 0 rfl | exact bxs 1 rfl | exact bxs 2 rfl | exact bxs 3 rfl | exact bxs 4 rfl | exact bxs 5 rfl | exact bxs 6 rfl | exact bxs 7 rfl | exact bxs 8 rfl | exact bxs 9 rfl | exact bxs 10 rfl | exact bxs 11 rfl | exact bxs 12 rfl | exact bxs 13 rfl | exact rcs ‹_› ‹_› | exact rrs 0 rfl ‹_› | exact rrs 1 rfl ‹_› | exact rrs 2 rfl ‹_› | exact rrs 3 rfl ‹_› | exact rrs 4 rfl ‹_› | exact rrs 5 rfl ‹_› | exact rrs 6 rfl ‹_› | exact rrs 7 rfl ‹_› | exact rrs 8 rfl ‹_› | exact rrs 9 rfl ‹_› | exact rrs 10 rfl ‹_› | exact rrs 11 rfl ‹_›) (hl : vs.length = n := by rfl) : EvG g c w0 L f (.load t x) ty (.agg vs.toArray) := e_lds ht hs hx hc hl
end
section
variable {c : Cx} {PQ : PJ} {w0 : World} {L : List Item} {f : Fr} {ops rest : List Oper} {ty : TypeId} {pos : String} {af : Array Edge} {x y : Operand} {K : List Item → Fr → Prop}
theorem X_st {k : Nat} {t tb : TypeId} {v : Value} {b o n : Nat} {cs : List Value} (hx : ev f x = .pointer (some ⟨b, o, none⟩)) (hy : ev f y = v) (hs : ∀ w, (sizeOf t).run c.P w = .ok n w) (next : XL false c ops rest PQ w0 (L.set k (box b tb (setAt cs o v.cells.toList))) f)
    (hk : L[k]? = some (box b tb cs) := by first | exact (show _[0]? = _ from rfl) | exact (show _[1]? = _ from rfl) | exact (show _[2]? = _ from rfl) | exact (show _[3]? = _ from rfl) | exact (show _[4]? = _ from rfl) | exact (show _[5]? = _ from rfl) | exact (show _[6]? = _ from rfl) | exact (show _[7]? = _ from rfl) | exact (show _[8]? = _ from rfl) | exact (show _[9]? = _ from rfl) | exact (show _[10]? = _ from rfl) | exact (show _[11]? = _ from rfl) | exact (show _[12]? = _ from rfl) | exact (show _[13]? = _ from rfl)) (hn : v.cells.size = n := by rfl) (h1 : v.cells.toList.all oneCell = true := by rfl) (hl : Nat.ble (o + v.cells.toList.length) cs.length = true := by rfl) :
    XL false c ops (⟨none, .store t x y, ty, pos, af, none⟩ :: rest) PQ w0 L f := X_store k hx hy hs hn h1 hk hl next
theorem f_st {k : Nat} {t tb : TypeId} {v : Value} {b o n : Nat} {cs : List Value} (hx : ev f x = .pointer (some ⟨b, o, none⟩)) (hy : ev f y = v) (hs : ∀ w, (sizeOf t).run c.P w = .ok n w) (next : K (L.set k (box b tb (setAt cs o v.cells.toList))) f)
    (hk : L[k]? = some (box b tb cs) := by first | exact (show _[0]? = _ from rfl) | exact (show _[1]? = _ from rfl) | exact (show _[2]? = _ from rfl) | exact (show _[3]? = _ from rfl) | exact (show _[4]? = _ from rfl) | exact (show _[5]? = _ from rfl) | exact (show _[6]? = _ from rfl) | exact (show _[7]? = _ from rfl) | exact (show _[8]? = _ from rfl) | exact (show _[9]? = _ from rfl) | exact (show _[10]? = _ from rfl) | exact (show _[11]? = _ from rfl) | exact (show _[12]? = _ from rfl) | exact (show _[13]? = _ from rfl)) (hn : v.cells.size = n := by rfl) (h1 : v.cells.toList.all oneCell = true := by rfl) (hl : Nat.ble (o + v.cells.toList.length) cs.length = true := by rfl) :
    Eff c w0 L f ⟨none, .store t x y, ty, pos, af, none⟩ K := f_store k hx hy hs hn h1 hk hl next
end

/-- a call that makes nothing, among those that turn memory -/
theorem toU {P : Program} {k : FuncId} {args : Array Value} {w : World} {v : Value} (h : Calls P k args w fun e w' => e = .returned v ∧ Bel w w') : Calls P k args w fun e w' => ∃ _ : Unit, e = .returned v ∧ Mem w [] w' :=
  h.mono fun _ _ ⟨h1, h2⟩ => ⟨(), h1, mem_nil.2 h2⟩

end Go.Proofs.E

/-
  More operations among those that turn memory.
-/
namespace Go.Proofs.E
open Go Go.RowKit

/-- an operation that only reads, among those that turn memory -/
theorem f_ev {c : Cx} {w0 : World} {L : List Item} {f : Fr} {K : List Item → Fr → Prop} {d : Nat} {op : Op} {ty : TypeId} {pos : String} {af : Array Edge} {v : Value} (h : EvG true c w0 L f op ty v) (hnd : isDefer op = false) (hd : Nat.blt d c.N = true) (next : K L (upd f d v)) : Eff c w0 L f ⟨some d, op, ty, pos, af, none⟩ K :=
  ⟨rfl, hnd, hd, fun w hw => by rw [h rfl _ _ _ _ w hw]; exact ⟨L, hw, rfl, next⟩⟩

end Go.Proofs.E

/-
  Loads of a part of what lies somewhere: a struct within a struct.
-/
namespace Go.Proofs.E
open Go Go.RowKit

def PartAt (w : World) (b o n : Nat) (vs : List Value) : Prop := vs.length = n ∧ ∀ j u, vs[j]? = some u → w.cell? ⟨b, o + j, none⟩ = some u
theorem part_len {cs : List Value} {o n : Nat} (h : Nat.ble (o + n) cs.length = true) : ((cs.drop o).take n).length = n := by
  have := Nat.le_of_ble_eq_true h
  rw [List.length_take, List.length_drop]; omega
theorem part_get {cs : List Value} {o n j : Nat} {u : Value} (h : ((cs.drop o).take n)[j]? = some u) : cs[o + j]? = some u := by
  rw [List.getElem?_take] at h
  split at h
  · rw [List.getElem?_drop] at h; exact h
  · cases h
theorem cell_blk {w : World} {a : Addr} {v : Value} (h : w.cell? a = some v) : a.block < w.heap.size := by
  unfold World.cell? at h
  cases hb : w.heap[a.block]? with
  | none => rw [hb] at h; simp at h
  | some o => exact (Array.getElem?_eq_some_iff.1 hb).1
section
variable {c : Cx} {w0 : World} {L : List Item} {f : Fr} {ty t : TypeId} {g : Bool} {x : Operand} {b o n p : Nat}
theorem bp (k : Nat) {tb : TypeId} {cs : List Value} (hk : L[k]? = some (box b tb cs)) (hl : Nat.ble (o + n) cs.length = true) : g = true → ∀ w, Mem w0 L w → PartAt w b o n ((cs.drop o).take n) :=
  fun _ _ hw => ⟨part_len hl, fun _ _ hu => box_cell hw hk (part_get hu)⟩
theorem rp {cs : List Value} (h : RowAt w0 b o cs) (hb : b < w0.heap.size) (hl : Nat.ble (p + n) cs.length = true) : g = true → ∀ w, Mem w0 L w → PartAt w b (o + p) n ((cs.drop p).take n) :=
  fun _ _ hw => ⟨part_len hl, fun j u hu => by rw [Nat.add_assoc]; exact (hw.1.cell (p := ⟨b, o + (p + j), none⟩) hb).trans (h (p + j) u (part_get hu))⟩
theorem rrp {α : Type} {e : TypeId} {k i cp : Nat} {enc : α → List Value} {xs : List α} {y : α} (j : Nat) (hk : L[j]? = some (rowT e k enc (some ⟨b, 0, none⟩) cp xs)) (hx : xs[i]? = some y) (hl : Nat.ble (p + n) (enc y).length = true) (he : ∀ x, (enc x).length = k := by exact fun _ => rfl) : g = true → ∀ w, Mem w0 L w → PartAt w b (0 + i * k + p) n (((enc y).drop p).take n) :=
  fun hg w hw => ⟨part_len hl, fun q u hu => by rw [Nat.add_assoc]; exact rr j hk hx (part_get hu) he hg w hw⟩
theorem eP {vs : List Value} (ht : ∀ w, (isAgg t).run c.P w = .ok true w) (hs : ∀ w, (sizeOf t).run c.P w = .ok n w) (hx : OpV g f x (.pointer (some ⟨b, o, none⟩)))
    (hc : g = true → ∀ w, Mem w0 L w → PartAt w b o n vs := by first | exact bp 0 rfl rfl | exact bp 1 rfl rfl | exact bp 2 rfl rfl | exact bp 3 rfl rfl | exact bp 4 rfl rfl | exact bp 5 rfl rfl | exact bp 6 rfl rfl | exact bp 7 rfl rfl | exact bp 8 rfl rfl | exact bp 9 rfl rfl | exact bp 10 rfl rfl | exact bp 11 rfl rfl | exact rp ‹_› ‹_› rfl | exact rrp 0 rfl ‹_› rfl | exact rrp 1 rfl ‹_› rfl | exact rrp 2 rfl ‹_› rfl | exact rrp 3 rfl ‹_› rfl | exact rrp 4 rfl ‹_› rfl | exact rrp 5 rfl ‹_› rfl) : EvG g c w0 L f (.load t x) ty (.agg vs.toArray) := fun e dst pos af gu w hw => by
  obtain ⟨hl, hc'⟩ := hc e w hw
  exact e_lds (g := true) (L := []) (w0 := w) ht hs (fun _ => hx e) (fun _ w' hw' j u hu => (hw'.1.cell (p := ⟨b, o + j, none⟩) (cell_blk (hc' j u hu))).trans (hc' j u hu)) hl rfl dst pos af gu w (Mem.start w)
end

end Go.Proofs.E

/-
  More values: pointers against nil, fields of struct values.
-/
namespace Go.Proofs.E
open Go Go.RowKit
section
variable {c : Cx} {w0 : World} {L : List Item} {f : Fr} {ty t el : TypeId} {g : Bool} {x : Operand}
theorem e_neNilP {A : Option Addr} {t2 : TypeId} (ht : c.P.underlying t = some (.pointer el)) (hx : OpV g f x (.pointer A)) : EvG g c w0 L f (.binOp .neq t x (.const (.pointer none)) t2) ty (.bool (!A.isNone)) := fun e _ _ _ _ w _ => by
  have hq : ∀ d, (Op.equalIn (d + 1) t (.pointer A) (.pointer none)).run c.P w = .ok A.isNone w := fun d => by
    cases A <;> simp [Op.equalIn, run_underlying ht]
  have hq : (Op.equal t (.pointer A) (.pointer none)).run c.P w = .ok A.isNone w := hq 9999
  simp [execOp, hx e, ev_const, eqGuard, binOp, hq, Result.andThen]
theorem e_fv {i : Nat} {fs : Array Field} {fl : Field} {cs : Array Value} {v : Value} (ht : c.P.underlying t = some (.struct fs)) (hf : fs[i]? = some fl) (ha : ∀ w, (isAgg fl.type).run c.P w = .ok false w) (hx : OpV g f x (.agg cs)) (hv : cs[fl.offset]? = some v) :
    EvG g c w0 L f (.field t x i) ty v := fun e _ _ _ _ w _ => by
  simp [execOp, hx e, Instr.field, run_underlying ht, hf, asAgg, part, ha, hv, Result.andThen]
theorem e_fa {i n : Nat} {fs : Array Field} {fl : Field} {cs : Array Value} {vs : Array Value} (ht : c.P.underlying t = some (.struct fs)) (hf : fs[i]? = some fl) (ha : ∀ w, (isAgg fl.type).run c.P w = .ok true w) (hs : ∀ w, (sizeOf fl.type).run c.P w = .ok n w) (hx : OpV g f x (.agg cs)) (hv : cs.extract fl.offset (fl.offset + n) = vs) :
    EvG g c w0 L f (.field t x i) ty (.agg vs) := fun e _ _ _ _ w _ => by
  simp [execOp, hx e, Instr.field, run_underlying ht, hf, asAgg, part, ha, hs, hv, Result.andThen]
/-- a result that lies in a box -/
theorem resC {fn : Func} {a b o n : Nat} {vs : List Value} (hr : fn.results = #[.cell a t]) (hv : f a = .pointer (some ⟨b, o, none⟩)) (ht : ∀ w, (isAgg t).run c.P w = .ok true w) (hs : ∀ w, (sizeOf t).run c.P w = .ok n w)
    (hc : true = true → ∀ w, Mem w0 L w → ∀ j u, vs[j]? = some u → w.cell? ⟨b, o + j, none⟩ = some u := by first | exact bxs 0 rfl | exact bxs 1 rfl | exact bxs 2 rfl | exact bxs 3 rfl | exact bxs 4 rfl | exact bxs 5 rfl | exact bxs 6 rfl | exact bxs 7 rfl | exact bxs 8 rfl | exact bxs 9 rfl | exact bxs 10 rfl | exact bxs 11 rfl | exact bxs 12 rfl | exact bxs 13 rfl) (hl : vs.length = n := by rfl) : ResIs c.P c.N fn w0 L f (.agg vs.toArray) := fun w ds ac hw ha => by
  have h1 := ha.get a
  have h2 := e_lds (c := c) (f := f) (x := .tmp a) (ty := 0) (g := true) (L := L) (w0 := w0) ht hs (fun _ => hv) hc hl rfl none "" #[] none w hw
  simp only [execOp, show ev f (.tmp a) = .pointer (some ⟨b, o, none⟩) from hv, Instr.loadAt, Instr.sureAddr, Sem.run_bind, Sem.run_pure, Result.andThen_ok] at h2
  have hlv : (loadVar t ⟨b, o, none⟩).run c.P w = .ok (.agg vs.toArray) w := by
    cases hx : (loadVar t ⟨b, o, none⟩).run c.P w with
    | ok a' w' =>
      rw [hx] at h2
      simp only [Result.andThen] at h2
      injection h2 with h4 h5
      injection h4 with h4
      rw [h4, h5]
    | halt a' w' => rw [hx] at h2; cases h2
  rw [Array.getD_eq_getD_getElem?, hv] at h1
  simp [results, hr, h1, asAddr, hlv, Result.andThen]
end
end Go.Proofs.E

/-
  Regions that draw their order: an invariant that says how things stand when the operations S are done.
-/
namespace Go.Proofs.E
open Go Go.RowKit

def Lis (l : Array Bool) (j : Nat) : Prop := l.getD j false = true
theorem lis_set {l : Array Bool} {i : Nat} (h : i < l.size) : Lis (l.setIfInBounds i true) = fun j => Lis l j ∨ j = i := by
  funext j; apply propext; unfold Lis
  rw [Array.getD_eq_getD_getElem?, Array.getD_eq_getD_getElem?, Array.getElem?_setIfInBounds]
  by_cases e : i = j
  · subst e; simp [h]
  · rw [if_neg e]
    exact ⟨.inl, fun h => h.resolve_right fun e2 => e e2.symm⟩
theorem lis_no {l : Array Bool} {i : Nat} (h : i < l.size) : l.getD i true = false ↔ ¬Lis l i := by
  unfold Lis
  rw [Array.getD_eq_getD_getElem?, Array.getD_eq_getD_getElem?, Array.getElem?_eq_getElem h]
  simp
theorem lis_count {l : Array Bool} {i : Nat} (h : i < l.size) (hn : ¬Lis l i) {n : Nat} (hc : l.toList.count false ≤ n + 1) : (l.setIfInBounds i true).toList.count false ≤ n := by
  have h1 : l[i] = false := by
    have := (lis_no h).2 hn
    rwa [Array.getD_eq_getD_getElem?, Array.getElem?_eq_getElem h] at this
  rw [Array.toList_setIfInBounds, List.count_set (by simpa using h), if_pos (by rw [Array.getElem_toList, h1]; rfl), if_neg (by decide)]
  omega
theorem lis_all {l : Array Bool} (hc : l.toList.count false ≤ 0) {i : Nat} (h : i < l.size) : Lis l i := by
  refine Classical.byContradiction fun hn => ?_
  have h1 : l[i] = false := by
    have := (lis_no h).2 hn
    rwa [Array.getD_eq_getD_getElem?, Array.getElem?_eq_getElem h] at this
  have := List.count_eq_zero.1 (Nat.le_zero.1 hc)
  exact this (by rw [← h1]; exact Array.mem_toList_iff.2 (Array.getElem_mem h))
theorem lis_none {n j : Nat} : ¬Lis (Array.replicate n false) j := fun h => by
  unfold Lis at h
  rw [Array.getD_eq_getD_getElem?, Array.getElem?_replicate] at h
  split at h <;> cases h

/-- what an operation awaits for lies ahead of it in the text -/
def edgesDown (ops : List Oper) : Bool := (List.range ops.length).all fun i => match ops[i]? with
  | some o => o.after.toList.all fun e => !Region.binds .any e || decide (e.on < i)
  | none => true
theorem edgesDown_spec {ops : List Oper} (h : edgesDown ops = true) {i : Nat} {o : Oper} (ho : ops[i]? = some o) {e : Edge} (he : e ∈ o.after) (hb : Region.binds .any e = true) : e.on < i := by
  have hi : i < ops.length := (List.getElem?_eq_some_iff.1 ho).1
  have h1 := List.all_eq_true.1 h i (List.mem_range.2 hi)
  rw [ho] at h1
  have h2 := List.all_eq_true.1 h1 e (Array.mem_toList_iff.2 he)
  rw [hb] at h2
  simpa using h2
section
variable {c : Cx} {PQ : PJ} {w0 : World} {L : List Item} {f : Fr} {ops : List Oper}
theorem Eff.opA {i : Nat} {o : Oper} {K : List Item → Fr → Prop} (hi : ops[i]? = some o) (h : Eff c w0 L f o K) {a : Act} (ha : IsFr c.N (marks L) a f) : OpA c ops w0 i (fun L' a' => ∃ f', IsFr c.N (marks L') a' f' ∧ K L' f') L a := by
  unfold OpA
  rw [show ops.toArray[i]? = some o by simpa using hi]
  intro w hw
  rw [if_pos (by simp [Region.wanted, h.guard]), ha.eval]
  have h2 := h.run w hw
  generalize (execOp (ev f) o).run c.P w = r at h2
  cases r with
  | halt x w' => exact False.elim h2
  | ok x w' =>
    cases x with
    | value v => obtain ⟨L', hm, hk, hn⟩ := h2; exact ⟨L', hm, _, hk ▸ ha.putF rfl h.dst v, hn⟩
    | skip => obtain ⟨L', hm, hk, hn⟩ := h2; exact ⟨L', hm, _, hk ▸ ha.putF rfl h.dst undef, hn⟩
    | enter k args =>
      obtain ⟨e, hc⟩ := h2
      refine ⟨e, hc.mono ?_⟩
      rintro e w'' ⟨v, L', rfl, hm, hk, hn⟩
      exact ⟨v, L', rfl, hm, _, hk ▸ ha.putF rfl h.dst v, hn⟩
    | _ => exact False.elim h2
theorem inv_all (J : (Nat → Prop) → List Item → Fr → Prop) {Q : Exit → Act → World → Prop} (hE : edgesDown ops = true) (hnd : ∀ (j : Nat) (o : Oper), ops.toArray[j]? = some o → ∀ x, o.op ≠ .defer x)
    (hs : ∀ S L f i o, J S L f → ops[i]? = some o → ¬S i → (∀ e ∈ o.after, Region.binds .any e = true → S e.on) → Eff c w0 L f o fun L' f' => J (fun j => S j ∨ j = i) L' f')
    (hq : ∀ S L f a w, (∀ j, j < ops.length → S j) → J S L f → IsFr c.N (marks L) a f → Mem w0 L w → Q .normal a w) :
    ∀ (fuel : Nat) (l : Array Bool) (L : List Item) (f : Fr) (a : Act) (w : World), l.size = ops.length → l.toList.count false ≤ fuel → J (Lis l) L f → IsFr c.N (marks L) a f → Mem w0 L w → wpAnyIn (FW c.ro) 0 c.P .any ops.toArray Q fuel l a w
  | 0, l, L, f, a, w, hl, hc, hJ, ha, hw => by
    have hall : ∀ j, j < ops.length → Lis l j := fun j hj => lis_all hc (by rw [hl]; exact hj)
    refine ⟨List.eq_nil_iff_forall_not_mem.2 fun i hi => ?_, hq _ L f a w hall hJ ha hw⟩
    obtain ⟨hu, o, ho, _⟩ := mem_ready.1 hi
    have hil : i < ops.length := by
      have ho : ops[i]? = some o := by simpa using ho
      exact (List.getElem?_eq_some_iff.1 ho).1
    exact (lis_no (by rw [hl]; exact hil)).1 hu (hall i hil)
  | fuel + 1, l, L, f, a, w, hl, hc, hJ, ha, hw => by
    refine ⟨fun hr => hq _ L f a w (fun j => ?_) hJ ha hw, fun i hi => ?_⟩
    · induction j using Nat.strongRecOn with
      | _ j ih =>
        intro hj
        refine Classical.byContradiction fun hn => ?_
        have ho : ops[j]? = some ops[j] := List.getElem?_eq_getElem hj
        have : j ∈ Region.ready .any ops.toArray l := mem_ready.2 ⟨(lis_no (by rw [hl]; exact hj)).2 hn, ops[j], by simp [hj], fun e he hb => by
          have hlt := edgesDown_spec hE ho he hb
          exact ih e.on hlt (by omega)⟩
        rw [hr] at this; cases this
    · obtain ⟨hu, o, ho, he⟩ := mem_ready.1 hi
      have ho : ops[i]? = some o := by simpa using ho
      have hil : i < ops.length := (List.getElem?_eq_some_iff.1 ho).1
      have hils : i < l.size := by rw [hl]; exact hil
      have hns := (lis_no hils).1 hu
      refine OpA.wpOpIn hnd hw (fun L' a' w' hw' h3 => ?_) ((hs _ L f i o hJ ho hns he).opA ho ha)
      obtain ⟨f', ha', hJ'⟩ := h3
      exact inv_all J hE hnd hs hq fuel (l.setIfInBounds i true) L' f' a' w' (by simpa using hl) (lis_count hils hns hc) (by rw [lis_set hils]; exact hJ') ha' hw'
theorem H_inv (J : (Nat → Prop) → List Item → Fr → Prop) {id : Nat} (hm : c.P.follows .mixedOrders = true) (hB : (edgesDown ops && ops.all (fun o => !isDefer o.op)) = true) (h0 : ∀ S : Nat → Prop, (∀ j, ¬S j) → J S L f)
    (hs : ∀ S L f i o, J S L f → ops[i]? = some o → ¬S i → (∀ e ∈ o.after, Region.binds .any e = true → S e.on) → Eff c w0 L f o fun L' f' => J (fun j => S j ∨ j = i) L' f')
    (hq : ∀ S L f, (∀ j, j < ops.length → S j) → J S L f → PQ .normal w0 L f) : H c (.region id ops.toArray true) PQ w0 L f := by
  intro a w ha hw
  rw [Bool.and_eq_true] at hB
  have hnd : ∀ (j : Nat) (o : Oper), ops.toArray[j]? = some o → ∀ x, o.op ≠ .defer x := fun j o hj => not_defer (by
    have hmem : o ∈ ops := List.mem_of_getElem? (by simpa using hj)
    simpa using List.all_eq_true.1 hB.2 o hmem)
  refine wpIn_region_any hm ?_
  exact inv_all J hB.1 hnd hs (fun S L f a w hS hJ ha hw => ⟨w0, L, f, ha, hw, hq S L f hS hJ⟩) _ _ L f a _ (by simp) (by simp) (h0 _ fun j => lis_none) ha hw.drew
/-- operation j awaits for operation k -/
def awaits (ops : List Oper) (j k : Nat) : Bool := match ops[j]? with
  | some o => o.after.toList.any fun e => Region.binds .any e && Nat.beq e.on k
  | none => false
theorem awaits_spec {j k : Nat} {o : Oper} (h : awaits ops j k = true) (ho : ops[j]? = some o) : ∃ e ∈ o.after, Region.binds .any e = true ∧ e.on = k := by
  unfold awaits at h
  rw [ho] at h
  obtain ⟨e, he, h1⟩ := List.any_eq_true.1 h
  rw [Bool.and_eq_true] at h1
  exact ⟨e, Array.mem_toList_iff.1 he, h1.1, Nat.eq_of_beq_eq_true h1.2⟩
def dstsOk (ops : List Oper) (W : List Nat) : Bool := (ops.filterMap (·.dst)).all (fun d => W.elem d) && (List.range ops.length).all fun i => (List.range ops.length).all fun j => match (ops.map (·.dst))[i]?, (ops.map (·.dst))[j]? with
  | some (some d), some (some e) => Nat.beq i j || !Nat.beq d e
  | _, _ => true
theorem dstsOk_in {W : List Nat} (h : dstsOk ops W = true) {i d : Nat} {o : Oper} (ho : ops[i]? = some o) (hd : o.dst = some d) : W.elem d = true := by
  unfold dstsOk at h
  rw [Bool.and_eq_true] at h
  exact List.all_eq_true.1 h.1 d (List.mem_filterMap.2 ⟨o, List.mem_of_getElem? ho, hd⟩)
theorem dstsOk_ne {W : List Nat} (h : dstsOk ops W = true) {i j d e : Nat} {o o' : Oper} (ho : ops[i]? = some o) (ho' : ops[j]? = some o') (hd : o.dst = some d) (he : o'.dst = some e) (hij : i ≠ j) : d ≠ e := by
  unfold dstsOk at h
  rw [Bool.and_eq_true] at h
  have h1 := List.all_eq_true.1 (List.all_eq_true.1 h.2 i (List.mem_range.2 (List.getElem?_eq_some_iff.1 ho).1)) j (List.mem_range.2 (List.getElem?_eq_some_iff.1 ho').1)
  rw [List.getElem?_map, List.getElem?_map, ho, ho'] at h1
  simp only [Option.map_some, hd, he] at h1
  intro e2
  subst e2
  simp [hij] at h1
/-- what is known: M of the memory, P d of the value in the slot d -/
theorem H_invP {f0 : Fr} (W : List Nat) (P : Nat → Value → Prop) (M : (Nat → Prop) → List Item → Prop) {id : Nat} (hm : c.P.follows .mixedOrders = true) (hB : (dstsOk ops W && (edgesDown ops && ops.all (fun o => !isDefer o.op))) = true)
    (h0 : ∀ S : Nat → Prop, (∀ j, ¬S j) → M S L)
    (hs : ∀ (S : Nat → Prop) L f i o, Agree W f f0 → (∀ j o' d, ops[j]? = some o' → S j → o'.dst = some d → P d (f d)) → M S L → ops[i]? = some o → ¬S i → (∀ k, awaits ops i k = true → S k) → (∀ j k, awaits ops j k = true → S j → S k) →
      Eff c w0 L f o fun L' f' => M (fun j => S j ∨ j = i) L' ∧ ∃ v, f' = putF f o.dst v ∧ ∀ d, o.dst = some d → P d v)
    (hq : ∀ (S : Nat → Prop) L f, (∀ j, j < ops.length → S j) → Agree W f f0 → (∀ j o' d, ops[j]? = some o' → S j → o'.dst = some d → P d (f d)) → M S L → PQ .normal w0 L f) : H c (.region id ops.toArray true) PQ w0 L f0 := by
  rw [Bool.and_eq_true] at hB
  refine H_inv (fun S L f => Agree W f f0 ∧ (∀ j o' d, ops[j]? = some o' → S j → o'.dst = some d → P d (f d)) ∧ M S L ∧ (∀ j k, awaits ops j k = true → S j → S k)) hm hB.2 (fun S h => ⟨agree_self, fun j _ _ _ hj => absurd hj (h j), h0 S h, fun j _ _ hj => absurd hj (h j)⟩) ?_ (fun S L f hS h => hq S L f hS h.1 h.2.1 h.2.2.1)
  intro S L f i o h ho hns hdep
  obtain ⟨hA, hF, hM, hC⟩ := h
  have hw : ∀ k, awaits ops i k = true → S k := fun k hk => by
    obtain ⟨e, he, hb, rfl⟩ := awaits_spec hk ho
    exact hdep e he hb
  obtain ⟨h1, h2, h3, h4⟩ := hs S L f i o hA hF hM ho hns hw hC
  refine ⟨h1, h2, h3, fun w hw2 => ?_⟩
  have h5 := h4 w hw2
  have key : ∀ L' f', (M (fun j => S j ∨ j = i) L' ∧ ∃ v, f' = putF f o.dst v ∧ ∀ d, o.dst = some d → P d v) → (Agree W f' f0 ∧ (∀ j o' d, ops[j]? = some o' → (S j ∨ j = i) → o'.dst = some d → P d (f' d)) ∧ M (fun j => S j ∨ j = i) L' ∧ (∀ j k, awaits ops j k = true → (S j ∨ j = i) → (S k ∨ k = i))) := by
    rintro L' f' ⟨hM', v, rfl, hP⟩
    refine ⟨?_, ?_, hM', ?_⟩
    · cases hd : o.dst with
      | none => exact hA
      | some d => exact agree_upd (dstsOk_in hB.1 ho hd) hA
    · intro j o' d' hj hS hd'
      by_cases hji : j = i
      · subst hji
        rw [ho] at hj; cases hj
        rw [hd']
        show P d' (upd f d' v d')
        rw [show upd f d' v d' = v by simp [upd]]
        exact hP d' hd'
      · have h6 := hF j o' d' hj (hS.resolve_right hji) hd'
        cases hd : o.dst with
        | none => exact h6
        | some d =>
          have hne := dstsOk_ne hB.1 hj ho hd' hd hji
          show P d' (upd f d v d')
          rw [show upd f d v d' = f d' by
            have : Nat.beq d' d = false := by cases hb : Nat.beq d' d with
              | false => rfl
              | true => exact absurd (Nat.eq_of_beq_eq_true hb) hne
            simp [upd, this]]
          exact h6
    · intro j k hjk hS
      rcases hS with hS | rfl
      · exact .inl (hC j k hjk hS)
      · exact .inl (hw k hjk)
  unfold EffR at h5 ⊢
  split at h5
  · obtain ⟨L', a1, a2, a3⟩ := h5; exact ⟨L', a1, a2, key _ _ a3⟩
  · obtain ⟨L', a1, a2, a3⟩ := h5; exact ⟨L', a1, a2, key _ _ a3⟩
  · exact ⟨h5.1, h5.2.mono fun e w'' ⟨v, L', b1, b2, b3, b4⟩ => ⟨v, L', b1, b2, b3, key _ _ b4⟩⟩
  · exact h5.elim
end
end Go.Proofs.E

/-
  Many items as one; items put in another order with the rest kept; a box as a row.
-/
namespace Go.Proofs.E
open Go Go.RowKit

def bag (T : List Item) : Item where
  fp := fun b => ∃ it ∈ T, it.fp b
  A := fun w => (∀ it ∈ T, it.A w) ∧ T.Pairwise (fun (x y : Item) => ∀ b, x.fp b → ¬ y.fp b)
  st := fun w w' h hA => ⟨fun it hi => it.st w w' (fun b hb => h b ⟨it, hi, hb⟩) (hA.1 it hi), hA.2⟩
section
variable {w0 w : World} {T L M : List Item}
theorem Mem.bag (h : Mem w0 (T ++ L) w) : Mem w0 (bag T :: L) w := by
  obtain ⟨h1, h2, h3, h4⟩ := h
  obtain ⟨p1, p2, p3⟩ := List.pairwise_append.1 h4
  refine ⟨h1, fun it hi => ?_, fun it hi b hb => ?_, List.pairwise_cons.2 ⟨fun y hy b hb hg => ?_, p2⟩⟩
  · rcases List.mem_cons.1 hi with rfl | hi
    · exact ⟨fun it hi => h2 it (List.mem_append.2 (.inl hi)), p1⟩
    · exact h2 it (List.mem_append.2 (.inr hi))
  · rcases List.mem_cons.1 hi with rfl | hi
    · obtain ⟨x, hx, hxb⟩ := hb
      exact h3 x (List.mem_append.2 (.inl hx)) b hxb
    · exact h3 it (List.mem_append.2 (.inr hi)) b hb
  · obtain ⟨x, hx, hxb⟩ := hb
    exact p3 x hx y hy b hxb hg
theorem Mem.unbag (h : Mem w0 (E.bag T :: L) w) : Mem w0 (T ++ L) w := by
  obtain ⟨h1, h2, h3, h4⟩ := h
  obtain ⟨p1, p2⟩ := List.pairwise_cons.1 h4
  obtain ⟨a1, a2⟩ : (E.bag T).A w := h2 _ (List.mem_cons_self ..)
  refine ⟨h1, fun it hi => ?_, fun it hi b hb => ?_, List.pairwise_append.2 ⟨a2, p2, fun x hx y hy b hb hg => ?_⟩⟩
  · rcases List.mem_append.1 hi with hi | hi
    · exact a1 it hi
    · exact h2 it (List.mem_cons_of_mem _ hi)
  · rcases List.mem_append.1 hi with hi | hi
    · exact h3 _ (List.mem_cons_self ..) b ⟨it, hi, hb⟩
    · exact h3 it (List.mem_cons_of_mem _ hi) b hb
  · exact p1 y hy b ⟨x, hx, hb⟩ hg
variable {α : Type} {f : α → List Item} {xs : List α} {k : Nat} {x y : α}
/-- the items of one element, apart -/
theorem Mem.apart (h : Mem w0 (E.bag (xs.flatMap f) :: L) w) (hk : xs[k]? = some x) : Mem w0 (f x ++ (E.bag ((xs.eraseIdx k).flatMap f) :: L)) w := by
  have h1 := h.unbag
  have h2 : (xs.flatMap f).Perm (f x ++ (xs.eraseIdx k).flatMap f) := ((erase_perm xs k x hk).symm.flatMap_right f)
  have h3 := h1.perm (List.Perm.append_right L h2.symm)
  rw [List.append_assoc] at h3
  have h4 := h3.perm (L' := (xs.eraseIdx k).flatMap f ++ (f x ++ L)) (List.perm_append_comm_assoc ..)
  have h5 := h4.bag
  exact h5.perm (List.perm_middle)
/-- .. and back -/
theorem Mem.joined (h : Mem w0 (f y ++ (E.bag ((xs.eraseIdx k).flatMap f) :: L)) w) (hk : k < xs.length) : Mem w0 (E.bag ((xs.set k y).flatMap f) :: L) w := by
  have h5 := h.perm (L' := E.bag ((xs.eraseIdx k).flatMap f) :: (f y ++ L)) (List.perm_middle.symm)
  have h4 := h5.unbag
  have h3 := h4.perm (L' := f y ++ ((xs.eraseIdx k).flatMap f ++ L)) (List.perm_append_comm_assoc ..)
  rw [← List.append_assoc] at h3
  have h2 : ((xs.set k y).flatMap f).Perm (f y ++ (xs.eraseIdx k).flatMap f) := ((set_perm xs k y hk).flatMap_right f)
  exact (h3.perm (List.Perm.append_right L h2)).bag
theorem Mem.pushed (h : Mem w0 (f y ++ (E.bag (xs.flatMap f) :: L)) w) : Mem w0 (E.bag ((xs ++ [y]).flatMap f) :: L) w := by
  have h5 := h.perm (L' := E.bag (xs.flatMap f) :: (f y ++ L)) (List.perm_middle.symm)
  have h4 := h5.unbag
  rw [← List.append_assoc] at h4
  have e : (xs ++ [y]).flatMap f = xs.flatMap f ++ f y := by simp
  rw [← e] at h4
  exact h4.bag
theorem Mem.noBag (h : Mem w0 L w) : Mem w0 (E.bag (([] : List α).flatMap f) :: L) w := Mem.bag (T := []) h

theorem range_drop : ∀ (k n : Nat), n + k = M.length → (List.range' n k).filterMap (M[·]?) = M.drop n
  | 0, n, h => by rw [List.drop_of_length_le (by omega)]; rfl
  | k + 1, n, h => by
    have hn : n < M.length := by omega
    rw [List.range'_succ, List.filterMap_cons, List.getElem?_eq_getElem hn]
    simp only
    rw [range_drop k (n + 1) (by omega), List.drop_eq_getElem_cons hn]
/-- some of the first n items, in another order; the rest as it was -/
theorem Mem.pickN (h : Mem w0 M w) (n : Nat) (idx : List Nat) (hn : idx.Nodup) (hi : idx.all (fun i => Nat.blt i n) = true) : Mem w0 (idx.filterMap (M[·]?) ++ M.drop n) w := by
  have hi' : ∀ i ∈ idx, i < n := fun i hx => by simpa using List.all_eq_true.1 hi i hx
  rcases Nat.lt_or_ge M.length n with hl | hl
  · rw [List.drop_of_length_le (by omega), List.append_nil]; exact h.pick idx hn
  · have h1 := h.pick (idx ++ List.range' n (M.length - n)) (List.nodup_append.2 ⟨hn, List.nodup_range', fun a ha b hb e => by
      have := hi' a ha
      have := List.mem_range'_1.1 hb
      omega⟩)
    rw [List.filterMap_append, range_drop _ _ (by omega)] at h1
    exact h1
/-- an element that is written alike -/
theorem rowT_same {e : TypeId} {n c : Nat} {enc : α → List Value} {A : Option Addr} (hk : xs[k]? = some x) (h : enc y = enc x) : rowT e n enc A c (xs.set k y) = rowT e n enc A c xs := by
  have hf : (xs.set k y).flatMap enc = xs.flatMap enc := by
    have hm : (xs.set k y).map enc = xs.map enc := by
      rw [List.map_set, h]
      obtain ⟨h1, h2⟩ := List.getElem?_eq_some_iff.1 hk
      rw [← h2]
      apply List.ext_getElem?
      intro i
      rw [List.getElem?_set]
      split
      · rename_i hi
        subst hi
        simp [h1]
      · rfl
    rw [List.flatMap_def, List.flatMap_def, hm]
  unfold rowT
  simp only [hf, List.length_set]
/-- a box that holds just these elements, as a row -/
theorem Mem.boxRow {e : TypeId} {n b j : Nat} {enc : α → List Value} (h : Mem w0 M w) (hk : M[j]? = some (box b e (xs.flatMap enc))) (he : ∀ x, (enc x).length = n) (hl : xs.length ≤ 1000000) : Mem w0 (M.set j (rowT e n enc (some ⟨b, 0, none⟩) xs.length xs)) w := by
  refine h.swap hk (fun x hx => ?_) ?_
  · simp [rowT] at hx; exact hx.symm
  · have hA : w.heap[b]? = some (.cells (xs.flatMap enc).toArray e (0, 0)) := h.item hk
    refine rowT_close he hA ⟨Nat.le_refl _, by unfold maxLen; omega, ?_, [], by simp⟩
    exact (flat_len he xs)
end

end Go.Proofs.E
