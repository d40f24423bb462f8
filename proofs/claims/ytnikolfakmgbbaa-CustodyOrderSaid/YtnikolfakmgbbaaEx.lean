/-
  Regions that draw their order and in which several operations turn the memory; and cuts: what stands behind a piece of code, told once for all its ways.
-/
import Derived.Test.YtnikolfakmgbbaaEe
import Derived.Test.YtnikolfakmgbbaaEm
namespace Go.Proofs.E
open Go Go.RowKit

/-! ### operations that turn the memory, whatever comes behind -/
def putF (f : Fr) (dst : Option Nat) (v : Value) : Fr := match dst with | some d => upd f d v | none => f
def EffR (c : Cx) (w0 : World) (L : List Item) (f : Fr) (dst : Option Nat) (w : World) (K : List Item → Fr → Prop) : Result Next → Prop
  | .ok (.value v) w' => ∃ L', Mem w0 L' w' ∧ marks L' = marks L ∧ K L' (putF f dst v)
  | .ok .skip w' => ∃ L', Mem w0 L' w' ∧ marks L' = marks L ∧ K L' (putF f dst undef)
  | .ok (.enter k args) w' => w' = w ∧ Calls c.P k args w fun e w'' => ∃ v L', e = .returned v ∧ Mem w0 L' w'' ∧ marks L' = marks L ∧ K L' (putF f dst v)
  | _ => False
def dstOk (c : Cx) : Option Nat → Bool
  | some d => Nat.blt d c.N
  | none => true
structure Eff (c : Cx) (w0 : World) (L : List Item) (f : Fr) (o : Oper) (K : List Item → Fr → Prop) : Prop where
  guard : o.guard = none
  nd : isDefer o.op = false
  dst : dstOk c o.dst = true
  run : ∀ w, Mem w0 L w → EffR c w0 L f o.dst w K ((execOp (ev f) o).run c.P w)
theorem IsFr.putF {N : Nat} {D : List Deferred} {a : Act} {f : Fr} (h : IsFr N D a f) {c : Cx} (hc : c.N = N) {dst : Option Nat} (hd : dstOk c dst = true) (v : Value) : IsFr N D (a.put dst v) (putF f dst v) := by
  subst hc
  cases dst with
  | none => exact h.put_none v
  | some d => exact h.put hd v

section
variable {c : Cx} {PQ : PJ} {w0 : World} {L : List Item} {f : Fr} {ops rest : List Oper} {o : Oper}
theorem X_eff (h : Eff c w0 L f o fun L' f' => XL false c ops rest PQ w0 L' f') : XL false c ops (o :: rest) PQ w0 L f := by
  intro a w ha hw
  show if _ then _ else _
  rw [if_pos (by simp [Region.wanted, h.guard])]
  refine ⟨fun _ _ => trivial, ?_⟩
  rw [Oper.semAt_eq _ _ _ (not_defer h.nd), ha.eval]
  have h2 := h.run w hw
  generalize (execOp (ev f) o).run c.P w = r at h2
  cases r with
  | halt x w' => exact False.elim h2
  | ok x w' =>
    cases x with
    | value v => obtain ⟨L', hm, hk, hn⟩ := h2; exact hn _ _ (hk ▸ ha.putF rfl h.dst v) hm
    | skip => obtain ⟨L', hm, hk, hn⟩ := h2; exact hn _ _ (hk ▸ ha.putF rfl h.dst undef) hm
    | enter k args =>
      obtain ⟨e, hc⟩ := h2
      subst e
      refine ⟨fun h => by simp [FW] at h, (callsIn_FW (hc.mono ?_))⟩
      rintro e w'' ⟨v, L', rfl, hm, hk, hn⟩
      exact hn _ _ (hk ▸ ha.putF rfl h.dst v) hm
    | _ => exact False.elim h2
end

section
variable {c : Cx} {w0 : World} {L : List Item} {f : Fr} {K : List Item → Fr → Prop} {d : Nat} {ty : TypeId} {pos : String} {af : Array Edge} {x y z : Operand}
theorem f_box {t : TypeId} {v : Value} (hx : ev f x = v) (hd : Nat.blt d c.N = true) (next : ∀ b, K (box b t v.cells.toList :: L) (upd f d (.pointer (some ⟨b, 0, none⟩)))) : Eff c w0 L f ⟨some d, .box t x, ty, pos, af, none⟩ K :=
  ⟨rfl, rfl, hd, fun w hw => by
    have : (execOp (ev f) ⟨some d, .box t x, ty, pos, af, none⟩).run c.P w = .ok (.value (.pointer (some ⟨w.heap.size, 0, none⟩))) (w.alloc (.cells v.cells t)) := by simp [execOp, hx, Instr.box, newVar, newRow, Result.andThen]
    rw [this]
    exact ⟨box w.heap.size t v.cells.toList :: L, by simpa using hw.newBox t v.cells.toList, rfl, next _⟩⟩
theorem f_alloc {t : TypeId} {v : Value} (hz : ∀ w, (zeroValue t).run c.P w = .ok v w) (hd : Nat.blt d c.N = true) (next : ∀ b, K (box b t v.cells.toList :: L) (upd f d (.pointer (some ⟨b, 0, none⟩)))) : Eff c w0 L f ⟨some d, .alloc t, ty, pos, af, none⟩ K :=
  ⟨rfl, rfl, hd, fun w hw => by
    have : (execOp (ev f) ⟨some d, .alloc t, ty, pos, af, none⟩).run c.P w = .ok (.value (.pointer (some ⟨w.heap.size, 0, none⟩))) (w.alloc (.cells v.cells t)) := by simp [execOp, hz, Instr.alloc, newVar, newRow, Result.andThen]
    rw [this]
    exact ⟨box w.heap.size t v.cells.toList :: L, by simpa using hw.newBox t v.cells.toList, rfl, next _⟩⟩
theorem f_store (k : Nat) {t tb : TypeId} {v : Value} {b o n : Nat} {cs : List Value} (hx : ev f x = .pointer (some ⟨b, o, none⟩)) (hy : ev f y = v) (hs : ∀ w, (sizeOf t).run c.P w = .ok n w) (hn : v.cells.size = n) (h1 : v.cells.toList.all oneCell = true)
    (hk : L[k]? = some (box b tb cs)) (hl : Nat.ble (o + v.cells.toList.length) cs.length = true) (next : K (L.set k (box b tb (setAt cs o v.cells.toList))) f) : Eff c w0 L f ⟨none, .store t x y, ty, pos, af, none⟩ K :=
  ⟨rfl, rfl, rfl, fun w hw => by
    obtain ⟨w', hr, hm⟩ := run_storeCells (P := c.P) (o := o) v.cells.toList 0 cs w L hw hk h1 (Nat.le_of_ble_eq_true hl)
    have : (execOp (ev f) ⟨none, .store t x y, ty, pos, af, none⟩).run c.P w = .ok .skip w' := by simp [execOp, hx, hy, Instr.storeAt, Instr.sureAddr, storeVar, hs, hn, hr, Result.andThen]
    rw [this]
    exact ⟨_, hm, marks_set hk rfl, next⟩⟩
theorem f_callx {α : Type} {op : Op} {k : FuncId} {args : Array Value} {val : α → Value} {Lx : α → List Item} (hen : EnterG true c w0 L f op ty k args) (hc : ∀ w, Mem w0 L w → Calls c.P k args w fun e w' => ∃ x : α, e = .returned (val x) ∧ Mem w (Lx x) w') (hd : Nat.blt d c.N = true) (hmk : ∀ x, marks (Lx x) = []) (next : ∀ x, K (Lx x ++ L) (upd f d (val x))) (hnd : isDefer op = false := by rfl) : Eff c w0 L f ⟨some d, op, ty, pos, af, none⟩ K :=
  ⟨rfl, hnd, hd, fun w hw => by
    rw [hen rfl _ _ _ _ w hw]
    refine ⟨rfl, (hc w hw).mono ?_⟩
    rintro e w' ⟨x, rfl, hm⟩
    exact ⟨_, _, rfl, hw.callNew hm, by rw [marks_append, hmk x, List.nil_append], next x⟩⟩
end

/-! ### whatever order is drawn -/
section
variable {c : Cx} {w0 : World} {ops : List Oper}
def Sub (w0 : World) (L' L : List Item) : Prop := ∀ w, Mem w0 L' w → Mem w0 L w
theorem Sub.refl {L : List Item} : Sub w0 L L := fun _ h => h
theorem Mem.sublist {L L' : List Item} {w : World} (h : Mem w0 L w) (hs : L'.Sublist L) : Mem w0 L' w := by
  obtain ⟨h1, h2, h3, h4⟩ := h
  exact ⟨h1, fun x hx => h2 x (hs.subset hx), fun x hx => h3 x (hs.subset hx), h4.sublist hs⟩
theorem sub_drop (k : Nat) {L : List Item} : Sub w0 L (L.drop k) := fun _ h => Mem.sublist h (List.drop_sublist _ _)

def UpA (c : Cx) (w0 : World) (K : List Item → Act → Prop) (dst : Option Nat) (a : Act) (w : World) : Result Next → Prop
  | .ok (.value u) w' => ∃ L', Mem w0 L' w' ∧ K L' (a.put dst u)
  | .ok .skip w' => ∃ L', Mem w0 L' w' ∧ K L' (a.put dst undef)
  | .ok (.enter k args) w' => w' = w ∧ Calls c.P k args w fun e w'' => ∃ u L', e = .returned u ∧ Mem w0 L' w'' ∧ K L' (a.put dst u)
  | _ => False
theorem UpA.mono {K K' : List Item → Act → Prop} {dst dst' : Option Nat} {a a' : Act} {w : World} {r : Result Next} (h : ∀ L u, K L (a.put dst u) → K' L (a'.put dst' u)) (hh : UpA c w0 K dst a w r) : UpA c w0 K' dst' a' w r := by
  cases r with
  | halt x w' => exact False.elim hh
  | ok x w' =>
    cases x with
    | value u => obtain ⟨L', hm, hn⟩ := hh; exact ⟨L', hm, h _ _ hn⟩
    | skip => obtain ⟨L', hm, hn⟩ := hh; exact ⟨L', hm, h _ _ hn⟩
    | enter k args =>
      obtain ⟨e, hc⟩ := hh
      exact ⟨e, hc.mono fun e w'' ⟨u, L', h1, h2, h3⟩ => ⟨u, L', h1, h2, h _ _ h3⟩⟩
    | _ => exact False.elim hh
def OpA (c : Cx) (ops : List Oper) (w0 : World) (j : Nat) (K : List Item → Act → Prop) (L : List Item) (a : Act) : Prop :=
  match ops.toArray[j]? with
  | none => K L a
  | some o => ∀ w, Mem w0 L w → if Region.wanted o (yielded ops.toArray a.tmps) then UpA c w0 K o.dst a w ((execOp a.eval o).run c.P w) else K L (a.put o.dst undef)
def AnyA (c : Cx) (ops : List Oper) (w0 : World) (Lb : List Item) (QA : List Item → Act → Prop) : Nat → Array Bool → List Item → Act → Prop
  | 0, listed, L, a => Sub w0 L Lb ∧ Region.ready .any ops.toArray listed = [] ∧ QA L a
  | fuel + 1, listed, L, a => Sub w0 L Lb ∧ (Region.ready .any ops.toArray listed = [] → QA L a) ∧ ∀ i ∈ Region.ready .any ops.toArray listed, OpA c ops w0 i (AnyA c ops w0 Lb QA fuel (listed.setIfInBounds i true)) L a
theorem AnyA.sub {Lb : List Item} {QA : List Item → Act → Prop} : ∀ {fuel : Nat} {listed : Array Bool} {L : List Item} {a : Act}, AnyA c ops w0 Lb QA fuel listed L a → Sub w0 L Lb
  | 0, _, _, _, h => h.1
  | _ + 1, _, _, _, h => h.1
theorem OpA.mono {j : Nat} {K K' : List Item → Act → Prop} {L : List Item} {a : Act} (h : ∀ L a, K L a → K' L a) (hh : OpA c ops w0 j K L a) : OpA c ops w0 j K' L a := by
  unfold OpA at *
  cases ho : ops.toArray[j]? with
  | none => rw [ho] at hh; exact h _ _ hh
  | some o =>
    rw [ho] at hh
    intro w hw
    have h2 := hh w hw
    by_cases hwt : Region.wanted o (yielded ops.toArray a.tmps) = true
    · rw [if_pos hwt] at h2 ⊢; exact h2.mono fun L u => h L _
    · rw [if_neg hwt] at h2 ⊢; exact h _ _ h2
theorem OpA.wpOpIn {j : Nat} {K : List Item → Act → Prop} {K' : Act → World → Prop} {Q' : Exit → Act → World → Prop} {L : List Item} {a : Act} {w : World} (hnd : ∀ (j : Nat) o, ops.toArray[j]? = some o → ∀ x, o.op ≠ .defer x) (hw : Mem w0 L w) (h : ∀ L a w, Mem w0 L w → K L a → K' a w) (hh : OpA c ops w0 j K L a) :
    wpOpIn (FW c.ro) 0 c.P ops.toArray Q' j K' a w := by
  unfold OpA at hh
  unfold Go.wpOpIn
  cases ho : ops.toArray[j]? with
  | none => rw [ho] at hh; exact h _ _ _ hw hh
  | some o =>
    rw [ho] at hh
    have h2 := hh w hw
    dsimp only at h2 ⊢
    by_cases hwt : Region.wanted o (yielded ops.toArray a.tmps) = true
    · rw [if_pos hwt] at h2 ⊢
      refine ⟨fun _ _ => trivial, ?_⟩
      rw [Oper.semAt_eq _ _ _ (hnd j o ho)]
      generalize (execOp a.eval o).run c.P w = r at h2
      cases r with
      | halt x w' => exact False.elim h2
      | ok x w' =>
        cases x with
        | value v => obtain ⟨L', hm, hn⟩ := h2; exact h _ _ _ hm hn
        | skip => obtain ⟨L', hm, hn⟩ := h2; exact h _ _ _ hm hn
        | enter k args =>
          obtain ⟨e, hc⟩ := h2
          subst e
          refine ⟨fun h => by simp [FW] at h, (callsIn_FW (hc.mono ?_))⟩
          rintro e w'' ⟨v, L', rfl, hm, hn⟩
          exact h _ _ _ hm hn
        | _ => exact False.elim h2
    · rw [if_neg hwt] at h2 ⊢
      exact ⟨fun _ _ => trivial, h _ _ _ hw h2⟩
theorem AnyA.sound {Lb : List Item} {QA : List Item → Act → Prop} {Q' : Exit → Act → World → Prop} (hnd : ∀ (j : Nat) o, ops.toArray[j]? = some o → ∀ x, o.op ≠ .defer x) (hQ : ∀ L a w, Mem w0 L w → QA L a → Q' .normal a w) : ∀ (fuel : Nat) (listed : Array Bool) (L : List Item) (a : Act) (w : World), Mem w0 L w →
    AnyA c ops w0 Lb QA fuel listed L a → wpAnyIn (FW c.ro) 0 c.P .any ops.toArray Q' fuel listed a w
  | 0, _, _, _, _, hw, h => ⟨h.2.1, hQ _ _ _ hw h.2.2⟩
  | fuel + 1, _, _, _, _, hw, h => ⟨fun h0 => hQ _ _ _ hw (h.2.1 h0), fun i hi => (h.2.2 i hi).wpOpIn hnd hw fun L a w hw h => AnyA.sound hnd hQ fuel _ L a w hw h⟩

/-- it yields v, over whatever memory that holds Lb, and turns nothing that was there -/
def UpY (c : Cx) (v : Value) (w : World) : Result Next → Prop
  | .ok (.value u) w' => w' = w ∧ u = v
  | .ok .skip w' => w' = w ∧ v = undef
  | .ok (.enter k args) w' => w' = w ∧ Calls c.P k args w fun e w'' => e = .returned v ∧ Bel w w''
  | _ => False
def YB (c : Cx) (ops : List Oper) (w0 : World) (Lb : List Item) (o : Oper) (v : Value) (a : Act) : Prop :=
  (Region.wanted o (yielded ops.toArray a.tmps) = true ∧ ∀ w, Mem w0 Lb w → UpY c v w ((execOp a.eval o).run c.P w)) ∨ (Region.wanted o (yielded ops.toArray a.tmps) = false ∧ v = undef)
theorem YB.opA {i : Nat} {o : Oper} {v : Value} {a : Act} {L Lb : List Item} (hi : ops.toArray[i]? = some o) (hs : Sub w0 L Lb) (hy : YB c ops w0 Lb o v a) {K : List Item → Act → Prop} (h : K L (a.put o.dst v)) : OpA c ops w0 i K L a := by
  unfold OpA
  rw [hi]
  intro w hw
  rcases hy with ⟨hwt, hv⟩ | ⟨hwt, rfl⟩
  · rw [if_pos hwt]
    have h2 := hv w (hs w hw)
    generalize (execOp a.eval o).run c.P w = r at h2
    cases r with
    | halt x w' => exact False.elim h2
    | ok x w' =>
      cases x with
      | value u => obtain ⟨e1, e2⟩ := h2; rw [e1, e2]; exact ⟨L, hw, h⟩
      | skip => obtain ⟨e1, e2⟩ := h2; rw [e1]; exact ⟨L, hw, by rw [← e2]; exact h⟩
      | enter k args =>
        obtain ⟨e1, hc⟩ := h2
        exact ⟨e1, hc.mono fun e w'' ⟨h1, h2⟩ => ⟨v, L, h1, hw.call h2, h⟩⟩
      | _ => exact False.elim h2
  · rw [if_neg (by rw [hwt]; decide)]; exact h
theorem YB.of_same {o : Oper} {v : Value} {a a' : Act} {Lb : List Item} (hy : YB c ops w0 Lb o v a) (he : execOp a'.eval o = execOp a.eval o) (hw : Region.wanted o (yielded ops.toArray a'.tmps) = Region.wanted o (yielded ops.toArray a.tmps)) : YB c ops w0 Lb o v a' := by
  unfold YB at *
  rw [he, hw]
  exact hy
theorem OpA.put {j : Nat} {oi oj : Oper} {v : Value} {L Lb : List Item} (hj : ops.toArray[j]? = some oj) (hap : oi.apart ops.toArray oj = true) (hsi : ∀ cs b, oi.op ≠ .select cs b) (hsj : ∀ cs b, oj.op ≠ .select cs b) {K : List Item → Act → Prop} {a : Act}
    (hy : YB c ops w0 Lb oi v a) (h : OpA c ops w0 j K L (a.put oi.dst v)) : OpA c ops w0 j (fun L' a' => YB c ops w0 Lb oi v a' ∧ K L' (a'.put oi.dst v)) L a := by
  obtain ⟨h1, h2, h3⟩ := Oper.apart_spec hap
  have keep : ∀ u, YB c ops w0 Lb oi v (a.put oj.dst u) := fun u => hy.of_same (execOp_put oi hsi a oj.dst u h3) (wanted_put oi a oj.dst u h3)
  unfold OpA at *
  rw [hj] at h ⊢
  intro w hw
  have h4 := h w hw
  rw [wanted_put oj a oi.dst v h1, execOp_put oj hsj a oi.dst v h1] at h4
  by_cases hwt : Region.wanted oj (yielded ops.toArray a.tmps) = true
  · rw [if_pos hwt] at h4 ⊢
    exact h4.mono fun L' u hn => ⟨keep u, by rw [← Act.put_comm a v u h2]; exact hn⟩
  · rw [if_neg hwt] at h4 ⊢
    exact ⟨keep _, by rw [← Act.put_comm a v undef h2]; exact h4⟩
theorem AnyA.first {Lb : List Item} {QA : List Item → Act → Prop} {i : Nat} {oi : Oper} {v : Value} (hi : ops.toArray[i]? = some oi) (hsel : ∀ (j : Nat) (o : Oper) cs b, ops.toArray[j]? = some o → o.op ≠ .select cs b) :
    ∀ (fuel : Nat) (listed : Array Bool) (L : List Item) (a : Act),
      (∀ j oj, ops.toArray[j]? = some oj → j ≠ i → listed.getD j true = false → (∀ e ∈ oj.after, Region.binds .any e = true → e.on ≠ i) → oi.apart ops.toArray oj = true) →
      i ∈ Region.ready .any ops.toArray listed → YB c ops w0 Lb oi v a →
      AnyA c ops w0 Lb QA fuel (listed.setIfInBounds i true) L (a.put oi.dst v) → AnyA c ops w0 Lb QA (fuel + 1) listed L a := by
  intro fuel
  induction fuel with
  | zero =>
    intro listed L a _ hr hy H
    refine ⟨H.1, fun h => (by rw [h] at hr; cases hr), fun j hj => ?_⟩
    by_cases hji : j = i
    · subst hji; exact hy.opA hi H.1 H
    · have := ready_mono hj hji
      rw [H.2.1] at this
      cases this
  | succ fuel ih =>
    intro listed L a hfree hr hy H
    refine ⟨H.1, fun h => (by rw [h] at hr; cases hr), fun j hj => ?_⟩
    by_cases hji : j = i
    · subst hji; exact hy.opA hi H.1 H
    · have h1 := H.2.2 j (ready_mono hj hji)
      obtain ⟨hjun, oj, hoj, hall⟩ := mem_ready.1 hj
      have hnot : ∀ e ∈ oj.after, Region.binds .any e = true → e.on ≠ i := fun e he hb heq => by
        have h1 := hall e he hb
        have h0 := (mem_ready.1 hr).1
        rw [heq] at h1
        rcases Nat.lt_or_ge i listed.size with h' | h'
        · simp [h'] at h0 h1; rw [h0] at h1; cases h1
        · simp [Array.getElem?_eq_none h'] at h1
      have h2 := OpA.put hoj (hfree j oj hoj hji hjun hnot) (fun cs b => hsel i oi cs b hi) (fun cs b => hsel j oj cs b hoj) hy h1
      have hfree' : ∀ k ok, ops.toArray[k]? = some ok → k ≠ i → (listed.setIfInBounds j true).getD k true = false →
          (∀ e ∈ ok.after, Region.binds .any e = true → e.on ≠ i) → oi.apart ops.toArray ok = true := fun k ok hk hki hun hno => by
        refine hfree k ok hk hki ?_ hno
        by_cases hjk : j = k
        · subst hjk; exact hjun
        · rw [getD_set_ne true hjk] at hun; exact hun
      refine h2.mono fun L' a' h3 => ih (listed.setIfInBounds j true) L' a' hfree' (ready_mono hr (Ne.symm hji)) h3.1 ?_
      rw [Array.setIfInBounds_comm _ _ hji]
      exact h3.2
end

/-! the rules -/
def arr (n : Nat) (l : List Nat) : Array Bool := l.foldr (fun i r => r.setIfInBounds i true) (Array.replicate n false)
def QA (c : Cx) (PQ : PJ) (w0 : World) (L : List Item) (a : Act) : Prop := ∃ L' f', Sub w0 L L' ∧ marks L' = marks L ∧ IsFr c.N (marks L') a f' ∧ PQ .normal w0 L' f'
def XA (c : Cx) (ops : List Oper) (Lb : List Item) (fuel : Nat) (listed : List Nat) (PQ : PJ) (w0 : World) (L : List Item) (f : Fr) : Prop :=
  ∀ a, IsFr c.N (marks L) a f → AnyA c ops w0 Lb (QA c PQ w0) fuel (arr ops.length listed) L a
def LX (c : Cx) (ops : List Oper) (Lb : List Item) (fuel : Nat) (listed : List Nat) (i : Nat) (PQ : PJ) (w0 : World) (L : List Item) (f : Fr) : Prop :=
  ∀ a, IsFr c.N (marks L) a f → OpA c ops w0 i (AnyA c ops w0 Lb (QA c PQ w0) fuel (arr ops.length (i :: listed))) L a
def okF (ops : List Oper) (listed : List Nat) (i : Nat) : Bool := Region.noSelect ops.toArray && (Region.ready .any ops.toArray (arr ops.length listed)).contains i && Region.free .any ops.toArray (arr ops.length listed) i
section
variable {c : Cx} {PQ : PJ} {w0 : World} {L Lb : List Item} {f : Fr} {ops : List Oper} {listed : List Nat} {fuel i j k : Nat}
theorem RAb (Lb : List Item) {id : Nat} (hm : c.P.follows .mixedOrders = true) (hB : (ops.all (fun o => !isDefer o.op)) = true) (h : XA c ops Lb ops.length [] PQ w0 L f) : H c (.region id ops.toArray true) PQ w0 L f := by
  intro a w ha hw
  have hnd : ∀ (j : Nat) (o : Oper), ops.toArray[j]? = some o → ∀ x, o.op ≠ .defer x := fun j o hj => not_defer (by
    have hmem : o ∈ ops := List.mem_of_getElem? (by simpa using hj)
    simpa using List.all_eq_true.1 hB o hmem)
  refine wpIn_region_any hm ?_
  have := AnyA.sound (Q' := lift c PQ) hnd (fun _ a' w' hw' ⟨L', f', h0, _, h1, h2⟩ => ⟨w0, L', f', h1, h0 w' hw', h2⟩) ops.length _ L a _ hw.drew (h a ha)
  simpa [arr] using this
theorem RA {id : Nat} (hm : c.P.follows .mixedOrders = true) (hB : (ops.all (fun o => !isDefer o.op)) = true) (h : XA c ops L ops.length [] PQ w0 L f) : H c (.region id ops.toArray true) PQ w0 L f := RAb L hm hB h
theorem RAd (k : Nat) {id : Nat} (hm : c.P.follows .mixedOrders = true) (hB : (ops.all (fun o => !isDefer o.op)) = true) (h : XA c ops (L.drop k) ops.length [] PQ w0 L f) : H c (.region id ops.toArray true) PQ w0 L f := RAb (L.drop k) hm hB h
theorem aZ (hr : (Region.ready .any ops.toArray (arr ops.length listed)).isEmpty = true) (hs : Sub w0 L Lb) (h : PQ .normal w0 L f) : XA c ops Lb 0 listed PQ w0 L f := fun _ ha => ⟨hs, List.isEmpty_iff.1 hr, L, f, fun _ h => h, rfl, ha, h⟩
theorem rdy1 (hr : (Region.ready .any ops.toArray (arr ops.length listed) == [i]) = true) (hs : Sub w0 L Lb) (h : LX c ops Lb fuel listed i PQ w0 L f) : XA c ops Lb (fuel + 1) listed PQ w0 L f := fun a ha => by
  have hr := eq_of_beq hr
  refine ⟨hs, fun h0 => (by rw [hr] at h0; cases h0), fun x hx => ?_⟩
  rw [hr] at hx
  obtain rfl := List.mem_singleton.1 hx
  exact h a ha
theorem rdy2 (hr : (Region.ready .any ops.toArray (arr ops.length listed) == [i, j]) = true) (hs : Sub w0 L Lb) (h1 : LX c ops Lb fuel listed i PQ w0 L f) (h2 : LX c ops Lb fuel listed j PQ w0 L f) : XA c ops Lb (fuel + 1) listed PQ w0 L f := fun a ha => by
  have hr := eq_of_beq hr
  refine ⟨hs, fun h0 => (by rw [hr] at h0; cases h0), fun x hx => ?_⟩
  rw [hr] at hx
  simp only [List.mem_cons, List.not_mem_nil, or_false] at hx
  rcases hx with rfl | rfl
  · exact h1 a ha
  · exact h2 a ha
theorem rdy3 (hr : (Region.ready .any ops.toArray (arr ops.length listed) == [i, j, k]) = true) (hs : Sub w0 L Lb) (h1 : LX c ops Lb fuel listed i PQ w0 L f) (h2 : LX c ops Lb fuel listed j PQ w0 L f) (h3 : LX c ops Lb fuel listed k PQ w0 L f) : XA c ops Lb (fuel + 1) listed PQ w0 L f := fun a ha => by
  have hr := eq_of_beq hr
  refine ⟨hs, fun h0 => (by rw [hr] at h0; cases h0), fun x hx => ?_⟩
  rw [hr] at hx
  simp only [List.mem_cons, List.not_mem_nil, or_false] at hx
  rcases hx with rfl | rfl | rfl
  · exact h1 a ha
  · exact h2 a ha
  · exact h3 a ha
theorem aL {o : Oper} (hi : ops[i]? = some o) (h : Eff c w0 L f o fun L' f' => XA c ops Lb fuel (i :: listed) PQ w0 L' f') : LX c ops Lb fuel listed i PQ w0 L f := fun a ha => by
  unfold OpA
  rw [show ops.toArray[i]? = some o by simpa using hi]
  intro w hw
  rw [if_pos (by simp [Region.wanted, h.guard]), ha.eval]
  have h2 := h.run w hw
  generalize (execOp (ev f) o).run c.P w = r at h2
  cases r with
  | halt x w' => exact False.elim h2
  | ok x w' =>
    cases x with
    | value v => obtain ⟨L', hm, hk, hn⟩ := h2; exact ⟨L', hm, hn _ (hk ▸ ha.putF rfl h.dst v)⟩
    | skip => obtain ⟨L', hm, hk, hn⟩ := h2; exact ⟨L', hm, hn _ (hk ▸ ha.putF rfl h.dst undef)⟩
    | enter k args =>
      obtain ⟨e, hc⟩ := h2
      refine ⟨e, hc.mono ?_⟩
      rintro e w'' ⟨v, L', rfl, hm, hk, hn⟩
      exact ⟨v, L', rfl, hm, hn _ (hk ▸ ha.putF rfl h.dst v)⟩
    | _ => exact False.elim h2
theorem aF {o : Oper} {d : Nat} {v : Value} {g : Bool} (hi : ops[i]? = some o) (hdst : o.dst = some d) (hok : okF ops listed i = true) (hg : Gd f o.guard (ops.map (·.dst)) g) (hd : Nat.blt d c.N = true)
    (hy : g = true → ∀ w, Mem w0 Lb w → UpY c v w ((execOp (ev f) o).run c.P w)) (next : XA c ops Lb fuel (i :: listed) PQ w0 L (upd f d (gv g v))) : XA c ops Lb (fuel + 1) listed PQ w0 L f := fun a ha => by
  simp only [okF, Bool.and_eq_true] at hok
  have hi' : ops.toArray[i]? = some o := by simpa using hi
  have hwt : Region.wanted o (yielded ops.toArray a.tmps) = g := by
    have := wanted_fr (o := o) (ops := ops) ha
    rw [this]; exact hg
  refine AnyA.first (v := gv g v) hi' (Region.noSelect_spec hok.1.1) fuel _ L a (Region.free_spec hi' hok.2) (by simpa using hok.1.2) ?_ ?_
  · cases g with
    | true => exact .inl ⟨hwt, fun w hw => by rw [gv_true, ha.eval]; exact hy rfl w hw⟩
    | false => exact .inr ⟨hwt, gv_false⟩
  · rw [hdst]
    exact next _ (ha.put hd _)
theorem aR (Lb' : List Item) (hsub : Sub w0 Lb' Lb) (h : XA c ops Lb' fuel listed PQ w0 L f) : XA c ops Lb fuel listed PQ w0 L f := by
  intro a ha
  have : ∀ (fuel : Nat) (listed : Array Bool) (L : List Item) (a : Act) (QA : List Item → Act → Prop), AnyA c ops w0 Lb' QA fuel listed L a → AnyA c ops w0 Lb QA fuel listed L a := by
    intro fuel
    induction fuel with
    | zero => exact fun _ _ _ _ h => ⟨fun w hw => hsub w (h.1 w hw), h.2⟩
    | succ fuel ih => exact fun _ _ _ _ h => ⟨fun w hw => hsub w (h.1 w hw), h.2.1, fun i hi => (h.2.2 i hi).mono fun L a h => ih _ _ _ _ h⟩
  exact this _ _ _ _ _ (h a ha)
theorem aRL (hsub : Sub w0 L Lb) (h : XA c ops L fuel listed PQ w0 L f) : XA c ops Lb fuel listed PQ w0 L f := aR L hsub h
end
section
variable {c : Cx} {PQ : PJ} {w0 : World} {L Lb : List Item} {f : Fr} {ops : List Oper} {listed : List Nat} {fuel : Nat} {d : Nat} {op : Op} {ty : TypeId} {pos : String} {af : Array Edge} {v : Value}
theorem upY_val {g : Bool} {gu : Option (Nat × Bool)} (hev : EvG g c w0 Lb f op ty v) : g = true → ∀ w, Mem w0 Lb w → UpY c v w ((execOp (ev f) ⟨some d, op, ty, pos, af, gu⟩).run c.P w) := fun hg w hw => by rw [hev hg _ _ _ _ w hw]; exact ⟨rfl, rfl⟩
theorem upY_call {g : Bool} {gu : Option (Nat × Bool)} {k : FuncId} {args : Array Value} (hen : EnterG g c w0 Lb f op ty k args) (hc : g = true → ∀ w, Mem w0 Lb w → Calls c.P k args w fun e w' => e = .returned v ∧ Bel w w') : g = true → ∀ w, Mem w0 Lb w → UpY c v w ((execOp (ev f) ⟨some d, op, ty, pos, af, gu⟩).run c.P w) := fun hg w hw => by rw [hen hg _ _ _ _ w hw]; exact ⟨rfl, hc hg w hw⟩
theorem aV (i : Nat) (hok : okF ops listed i = true) (hi : ops[i]? = some ⟨some d, op, ty, pos, af, none⟩) (hev : EvG true c w0 Lb f op ty v) (hd : Nat.blt d c.N = true) (next : XA c ops Lb fuel (i :: listed) PQ w0 L (upd f d v)) : XA c ops Lb (fuel + 1) listed PQ w0 L f := aF hi rfl hok Gd_none hd (upY_val hev) (by rw [gv_true]; exact next)
theorem aVT (i : Nat) {j e : Nat} {b : Bool} (hok : okF ops listed i = true) (hi : ops[i]? = some ⟨some d, op, ty, pos, af, some (j, true)⟩) (hev : EvG b c w0 Lb f op ty v) (hj : (ops.map (·.dst))[j]? = some (some e)) (hx : f e = .bool b) (hd : Nat.blt d c.N = true) (next : XA c ops Lb fuel (i :: listed) PQ w0 L (upd f d (gv b v))) : XA c ops Lb (fuel + 1) listed PQ w0 L f := aF hi rfl hok (Gd_true hj hx) hd (upY_val hev) next
theorem aVF (i : Nat) {j e : Nat} {b : Bool} (hok : okF ops listed i = true) (hi : ops[i]? = some ⟨some d, op, ty, pos, af, some (j, false)⟩) (hev : EvG (!b) c w0 Lb f op ty v) (hj : (ops.map (·.dst))[j]? = some (some e)) (hx : f e = .bool b) (hd : Nat.blt d c.N = true) (next : XA c ops Lb fuel (i :: listed) PQ w0 L (upd f d (gv (!b) v))) : XA c ops Lb (fuel + 1) listed PQ w0 L f := aF hi rfl hok (Gd_false hj hx) hd (upY_val hev) next
theorem aC (i : Nat) {k : FuncId} {args : Array Value} (hok : okF ops listed i = true) (hi : ops[i]? = some ⟨some d, op, ty, pos, af, none⟩) (hen : EnterG true c w0 Lb f op ty k args) (hc : true = true → ∀ w, Mem w0 Lb w → Calls c.P k args w fun e w' => e = .returned v ∧ Bel w w') (hd : Nat.blt d c.N = true) (next : XA c ops Lb fuel (i :: listed) PQ w0 L (upd f d v)) : XA c ops Lb (fuel + 1) listed PQ w0 L f := aF hi rfl hok Gd_none hd (upY_call hen hc) (by rw [gv_true]; exact next)
end

/-! the order of the items -/
def insAt : Nat → Item → List Item → List Item
  | 0, x, L => x :: L
  | k + 1, x, y :: L => y :: insAt k x L
  | _ + 1, x, [] => [x]
theorem insAt_perm : ∀ (k : Nat) (x : Item) (L : List Item), (insAt k x L).Perm (x :: L)
  | 0, _, _ => List.Perm.refl _
  | _ + 1, _, [] => List.Perm.refl _
  | k + 1, x, y :: L => ((insAt_perm k x L).cons y).trans (List.Perm.swap x y L)
theorem Mem.perm {w0 w : World} {L L' : List Item} (h : Mem w0 L w) (hp : L'.Perm L) : Mem w0 L' w := by
  obtain ⟨h1, h2, h3, h4⟩ := h
  refine ⟨h1, fun x hx => h2 x (hp.subset hx), fun x hx => h3 x (hp.subset hx), ?_⟩
  exact (hp.pairwise_iff (fun {x y} h b hb hg => h b hg hb)).2 h4
theorem marks_ins : ∀ (k : Nat) (x : Item) (L : List Item), marks [x] = [] → marks (insAt k x L) = marks L
  | 0, x, L, h => by rw [show insAt 0 x L = [x] ++ L from rfl, marks_append, h, List.nil_append]
  | _ + 1, _, [], h => h
  | k + 1, x, y :: L, h => by rw [show insAt (k + 1) x (y :: L) = [y] ++ insAt k x L from rfl, show y :: L = [y] ++ L from rfl, marks_append, marks_append, marks_ins k x L h]
theorem AnyA.weak {c : Cx} {ops : List Oper} {w0 : World} {Lb : List Item} {Q : List Item → Act → Prop} (hq : ∀ L1 L2 a, Sub w0 L1 L2 → marks L2 = marks L1 → Q L2 a → Q L1 a) : ∀ (fuel : Nat) (listed : Array Bool) (L1 L2 : List Item) (a : Act), Sub w0 L1 L2 → marks L2 = marks L1 → AnyA c ops w0 Lb Q fuel listed L2 a → AnyA c ops w0 Lb Q fuel listed L1 a := by
  intro fuel
  induction fuel with
  | zero => exact fun _ _ _ _ hs hk h => ⟨fun w hw => h.1 w (hs w hw), h.2.1, hq _ _ _ hs hk h.2.2⟩
  | succ fuel ih =>
    intro listed L1 L2 a hs hk h
    refine ⟨fun w hw => h.1 w (hs w hw), fun h0 => hq _ _ _ hs hk (h.2.1 h0), fun i hi => ?_⟩
    have h3 := h.2.2 i hi
    unfold OpA at h3 ⊢
    cases ho : ops.toArray[i]? with
    | none => rw [ho] at h3; exact ih _ _ _ _ hs hk h3
    | some o =>
      rw [ho] at h3
      intro w hw
      have h4 := h3 w (hs w hw)
      by_cases hwt : Region.wanted o (yielded ops.toArray a.tmps) = true
      · rw [if_pos hwt] at h4 ⊢; exact h4
      · rw [if_neg hwt] at h4 ⊢; exact ih _ _ _ _ hs hk h4
theorem QA.weak {c : Cx} {PQ : PJ} {w0 : World} (L1 L2 : List Item) (a : Act) (hs : Sub w0 L1 L2) (hk : marks L2 = marks L1) (h : QA c PQ w0 L2 a) : QA c PQ w0 L1 a := by
  obtain ⟨L', f', h1, h2, h3, h4⟩ := h
  exact ⟨L', f', fun w hw => h1 w (hs w hw), h2.trans hk, h3, h4⟩
theorem aI (k : Nat) {c : Cx} {PQ : PJ} {w0 : World} {L Lb : List Item} {x : Item} {f : Fr} {ops : List Oper} {listed : List Nat} {fuel : Nat} (h : XA c ops Lb fuel listed PQ w0 (insAt k x L) f) (hx : marks [x] = [] := by rfl) : XA c ops Lb fuel listed PQ w0 (x :: L) f := by
  intro a ha
  have hk : marks (insAt k x L) = marks (x :: L) := by rw [marks_ins k x L hx, show x :: L = [x] ++ L from rfl, marks_append, hx, List.nil_append]
  exact AnyA.weak QA.weak fuel _ (x :: L) (insAt k x L) a (fun w hw => hw.perm (insAt_perm k x L)) hk (h a (by rw [hk]; exact ha))

/-! ### cuts -/
structure CutAt {σ : Type} (S : List Nat) (f0 : Fr) (vals : σ → List (Nat × Value)) (Li : σ → List Item) (I : σ → Prop) (w0 w1 : World) (L : List Item) (f : Fr) : Prop where
  out : ∃ s, Agree S f f0 ∧ Has f (vals s) ∧ (∀ w, Mem w1 L w → Mem w0 (Li s) w) ∧ marks (Li s) = marks L ∧ I s
def cutJ {σ : Type} (S : List Nat) (f0 : Fr) (vals : σ → List (Nat × Value)) (Li : σ → List Item) (I : σ → Prop) (w0 : World) (PQ : PJ) : PJ := thenJ (CutAt S f0 vals Li I w0) PQ
theorem H_cut {c : Cx} {PQ : PJ} {w0 : World} {L : List Item} {f : Fr} {k : Code} {σ : Type} (S : List Nat) (vals : σ → List (Nat × Value)) (Li : σ → List Item) (I : σ → Prop) (h : H c k (cutJ S f vals Li I w0 PQ) w0 L f)
    (next : ∀ s g, I s → PQ .normal w0 (Li s) (updL (over f S g) (vals s))) : H c k PQ w0 L f := by
  intro a w ha hw
  refine Code.wpIn_mono (fun e a w h => ?_) (h a w ha hw)
  obtain ⟨w1, L1, f1, h1, h2, h3⟩ := h
  cases e with
  | normal =>
    obtain ⟨s, h4, h5, h6, h7, h8⟩ := h3.out
    refine ⟨w0, Li s, updL (over f S f1) (vals s), ?_, h6 w h2, next s f1 h8⟩
    rw [← frame_of h4 h5, h7]; exact h1
  | _ => exact ⟨w1, L1, f1, h1, h2, h3⟩
theorem cutJ_normal {σ : Type} {S : List Nat} {f f0 : Fr} {vals : σ → List (Nat × Value)} {Li : σ → List Item} {I : σ → Prop} {w0 w1 : World} {L : List Item} {PQ : PJ} (s : σ) (hag : Agree S f f0) (hv : Has f (vals s)) (hm : ∀ w, Mem w1 L w → Mem w0 (Li s) w) (hk : marks (Li s) = marks L) (hI : I s) : cutJ S f0 vals Li I w0 PQ .normal w1 L f := ⟨⟨s, hag, hv, hm, hk, hI⟩⟩
theorem cutJ_exit {σ : Type} {S : List Nat} {f f0 : Fr} {vals : σ → List (Nat × Value)} {Li : σ → List Item} {I : σ → Prop} {w0 w1 : World} {L : List Item} {PQ : PJ} {i : Nat} (h : PQ (.exit i) w1 L f) : cutJ S f0 vals Li I w0 PQ (.exit i) w1 L f := h
theorem cutJ_ret {σ : Type} {S : List Nat} {f f0 : Fr} {vals : σ → List (Nat × Value)} {Li : σ → List Item} {I : σ → Prop} {w0 w1 : World} {L : List Item} {PQ : PJ} (h : PQ .ret w1 L f) : cutJ S f0 vals Li I w0 PQ .ret w1 L f := h

end Go.Proofs.E
