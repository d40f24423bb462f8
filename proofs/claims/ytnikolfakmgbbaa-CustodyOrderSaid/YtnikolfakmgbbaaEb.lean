/-
  What a piece of code does, said of frames and items alone: the rules for the code's shapes.
-/
import Derived.Test.YtnikolfakmgbbaaEa
import Derived.Shelf.Abstract
import Derived.Sort.LoopGhostIn
import Derived.RangeFuncRecord
import Derived.RangeFuncIn
namespace Go.Proofs.E
open Go Go.RowKit

def FW (l : Option Nat) : Fence := { fn := fun _ => True, depth := none, alive := false, round := l }
theorem FW_room (l : Option Nat) (n : Nat) : (FW l).room n := fun _ h => by simp [FW] at h
theorem wpIn_depth {l : Option Nat} {n m : Nat} {P : Program} {c : Code} {Q : Exit → Act → World → Prop} {a : Act} {w : World} (h : c.wpIn (FW l) n P Q a w) : c.wpIn (FW l) m P Q a w :=
  fun b k cs hro hb _ => h b k cs hro hb (FW_room _ _)
theorem callsIn_FW {l : Option Nat} {n : Nat} {P : Program} {f : FuncId} {args : Array Value} {w : World} {R : Ending → World → Prop} (h : Calls P f args w R) : CallsIn (FW l) n P f args w R :=
  have h' : CallsIn Fence.wide n P f args w R := callsIn_wide.2 h
  h'
theorem calls_FW {n : Nat} {P : Program} {f : FuncId} {args : Array Value} {w : World} {R : Ending → World → Prop} (h : CallsIn (FW none) n P f args w R) : Calls P f args w R :=
  have h' : CallsIn Fence.wide n P f args w R := h
  callsIn_wide.1 h'

structure Cx where
  P : Program
  ro : Option Nat
  N : Nat

abbrev J := World → List Item → Fr → Prop
abbrev PJ := Exit → J

def lift (c : Cx) (PQ : PJ) : Exit → Act → World → Prop := fun e a w => ∃ w0 L f, IsFr c.N (marks L) a f ∧ Mem w0 L w ∧ PQ e w0 L f
def H (c : Cx) (k : Code) (PQ : PJ) : J := fun w0 L f => ∀ a w, IsFr c.N (marks L) a f → Mem w0 L w → k.wpIn (FW c.ro) 0 c.P (lift c PQ) a w

def thenJ (K : J) (PQ : PJ) : PJ
  | .normal => K
  | .exit i => PQ (.exit i)
  | .goto l => PQ (.goto l)
  | .ret => PQ .ret
  | .panic ch => PQ (.panic ch)
  | .outgrown => PQ .outgrown
def blockJ (id : Nat) (PQ : PJ) : PJ
  | .normal => PQ .normal
  | .exit i => bif Nat.beq i id then PQ .normal else PQ (.exit i)
  | .goto l => PQ (.goto l)
  | .ret => PQ .ret
  | .panic ch => PQ (.panic ch)
  | .outgrown => PQ .outgrown

section
variable {c : Cx} {PQ : PJ} {w0 : World} {L : List Item} {f : Fr}

theorem H_mono {k : Code} {PQ' : PJ} (h : H c k PQ w0 L f) (hq : ∀ e w0 L f, PQ e w0 L f → PQ' e w0 L f) : H c k PQ' w0 L f :=
  fun a w ha hw => wpIn_mono (h a w ha hw) fun e _ _ ⟨w', L', f', h1, h2, h3⟩ => ⟨w', L', f', h1, h2, hq e _ _ _ h3⟩
theorem H_mem {k : Code} {L' : List Item} (hm : ∀ w, Mem w0 L w → Mem w0 L' w) (hk : marks L' = marks L) (h : H c k PQ w0 L' f) : H c k PQ w0 L f := fun a w ha hw => h a w (hk ▸ ha) (hm w hw)
theorem H_pick {k : Code} {L' : List Item} (idx : List Nat) (hn : idx.Nodup) (he : idx.filterMap (L[·]?) = L') (hk : marks L' = marks L) (h : H c k PQ w0 L' f) : H c k PQ w0 L f :=
  H_mem (fun _ hw => he ▸ hw.pick idx hn) hk h
theorem H_frame {k : Code} {f' : Fr} (hf : ∀ i, f i = f' i) (h : H c k PQ w0 L f') : H c k PQ w0 L f := by
  have : f = f' := funext hf
  subst this; exact h

theorem H_seq {x y : Code} (h : H c x (thenJ (H c y PQ) PQ) w0 L f) : H c (.seq x y) PQ w0 L f := fun a w ha hw =>
  wpIn_seq (wpIn_mono (h a w ha hw) fun e a' w' ⟨u', L', f', h1, h2, h3⟩ => by
    cases e with
    | normal => exact h3 a' w' h1 h2
    | exit i => exact ⟨u', L', f', h1, h2, h3⟩
    | goto l => exact ⟨u', L', f', h1, h2, h3⟩
    | ret => exact ⟨u', L', f', h1, h2, h3⟩
    | panic ch => exact ⟨u', L', f', h1, h2, h3⟩
    | outgrown => exact ⟨u', L', f', h1, h2, h3⟩)
theorem H_block {id : Nat} {k : Code} (h : H c k (blockJ id PQ) w0 L f) : H c (.block id k) PQ w0 L f := fun a w ha hw =>
  wpIn_block (wpIn_mono (h a w ha hw) fun e a' w' ⟨u', L', f', h1, h2, h3⟩ => by
    cases e with
    | normal => exact ⟨u', L', f', h1, h2, h3⟩
    | exit i =>
      simp only [Exit.inBlock]
      by_cases hi : i = id
      · subst hi
        rw [if_pos rfl]
        simp only [blockJ, Nat.beq_refl, cond_true] at h3
        exact ⟨u', L', f', h1, h2, h3⟩
      · rw [if_neg hi]
        have hb : Nat.beq i id = false := by
          cases hb : Nat.beq i id with
          | false => rfl
          | true => exact absurd (Nat.eq_of_beq_eq_true hb) hi
        simp only [blockJ, hb, cond_false] at h3
        exact ⟨u', L', f', h1, h2, h3⟩
    | goto l => exact ⟨u', L', f', h1, h2, h3⟩
    | ret => exact ⟨u', L', f', h1, h2, h3⟩
    | panic ch => exact ⟨u', L', f', h1, h2, h3⟩
    | outgrown => exact ⟨u', L', f', h1, h2, h3⟩)
theorem H_cond {x : Operand} {k1 k2 : Code} {b : Bool} (hb : ev f x = .bool b) (h1 : b = true → H c k1 PQ w0 L f) (h2 : b = false → H c k2 PQ w0 L f) : H c (.cond x k1 k2) PQ w0 L f := fun a w ha hw =>
  wpIn_cond_split (t := b) (by rw [ha.eval]; exact hb) (fun e => h1 e a w ha hw) (fun e => h2 e a w ha hw)
theorem H_exit {id : Nat} (h : PQ (.exit id) w0 L f) : H c (.exit id) PQ w0 L f := fun _ _ ha hw => wpIn_exit ⟨w0, L, f, ha, hw, h⟩
theorem H_ret (h : PQ .ret w0 L f) : H c .ret PQ w0 L f := fun _ _ ha hw => wpIn_ret ⟨w0, L, f, ha, hw, h⟩
theorem H_skip (h : PQ .normal w0 L f) : H c .skip PQ w0 L f := fun _ _ ha hw => wpIn_skip ⟨w0, L, f, ha, hw, h⟩
theorem H_label {l : Nat} (h : PQ .normal w0 L f) : H c (.label l) PQ w0 L f := fun _ _ ha hw => wpIn_label ⟨w0, L, f, ha, hw, h⟩

theorem thenJ_normal {K : J} (h : K w0 L f) : thenJ K PQ .normal w0 L f := h
theorem thenJ_exit {K : J} {i : Nat} (h : PQ (.exit i) w0 L f) : thenJ K PQ (.exit i) w0 L f := h
theorem thenJ_ret {K : J} (h : PQ .ret w0 L f) : thenJ K PQ .ret w0 L f := h
theorem blockJ_normal {i : Nat} (h : PQ .normal w0 L f) : blockJ i PQ .normal w0 L f := h
theorem blockJ_hit {i : Nat} (h : PQ .normal w0 L f) : blockJ i PQ (.exit i) w0 L f := by
  simp only [blockJ, Nat.beq_refl, cond_true]; exact h
theorem blockJ_pass {i j : Nat} (hn : Nat.beq j i = false) (h : PQ (.exit j) w0 L f) : blockJ i PQ (.exit j) w0 L f := by
  simp only [blockJ, hn, cond_false]; exact h
theorem blockJ_ret {i : Nat} (h : PQ .ret w0 L f) : blockJ i PQ .ret w0 L f := h

/-! ### lists of operations, in their order -/
def HL (c : Cx) (ops rest : List Oper) (PQ : PJ) : J := fun w0 L f => ∀ a w, IsFr c.N (marks L) a f → Mem w0 L w → wpListIn (FW c.ro) 0 c.P ops.toArray (lift c PQ) rest a w
theorem H_region {id : Nat} {ops : List Oper} (h : HL c ops ops PQ w0 L f) : H c (.region id ops.toArray false) PQ w0 L f := fun a w ha hw => wpIn_region_lit (h a w ha hw)
theorem HL_nil {ops : List Oper} (h : PQ .normal w0 L f) : HL c ops [] PQ w0 L f := fun _ _ ha hw => ⟨w0, L, f, ha, hw, h⟩
theorem HL_mem {ops rest : List Oper} {L' : List Item} (hm : ∀ w, Mem w0 L w → Mem w0 L' w) (hk : marks L' = marks L) (h : HL c ops rest PQ w0 L' f) : HL c ops rest PQ w0 L f := fun a w ha hw => h a w (hk ▸ ha) (hm w hw)

/-- a guard's Bool -/
def Gd (f : Fr) (g : Option (Nat × Bool)) (dsts : List (Option Nat)) (b : Bool) : Prop := gd f g dsts = b
def gv (g : Bool) (v : Value) : Value := bif g then v else undef
theorem Gd_none {dsts : List (Option Nat)} : Gd f none dsts true := rfl
theorem Gd_true {j d : Nat} {dsts : List (Option Nat)} {x : Bool} (hj : dsts[j]? = some (some d)) (hx : f d = .bool x) : Gd f (some (j, true)) dsts x := by
  simp [Gd, gd, hj, hx, isB]
theorem Gd_false {j d : Nat} {dsts : List (Option Nat)} {x : Bool} (hj : dsts[j]? = some (some d)) (hx : f d = .bool x) : Gd f (some (j, false)) dsts (!x) := by
  simp [Gd, gd, hj, hx, isB]
theorem Gd_true2 {j d : Nat} {dsts : List (Option Nat)} {x g : Bool} (hj : dsts[j]? = some (some d)) (hx : f d = gv g (.bool x)) : Gd f (some (j, true)) dsts (g && x) := by
  cases g <;> simp [Gd, gd, hj, hx, isB, gv, undef]
theorem Gd_false2 {j d : Nat} {dsts : List (Option Nat)} {x g : Bool} (hj : dsts[j]? = some (some d)) (hx : f d = gv g (.bool x)) : Gd f (some (j, false)) dsts (g && !x) := by
  cases g <;> simp [Gd, gd, hj, hx, isB, gv, undef]

/-- under the guard the operation runs to a value and leaves the world alone -/
def EvG (g : Bool) (c : Cx) (w0 : World) (L : List Item) (f : Fr) (op : Op) (ty : TypeId) (v : Value) : Prop :=
  g = true → ∀ (dst : Option Nat) (pos : String) (af : Array Edge) (gu : Option (Nat × Bool)) (w : World), Mem w0 L w → (execOp (ev f) ⟨dst, op, ty, pos, af, gu⟩).run c.P w = .ok (.value v) w
/-- an operand's value under the guard -/
def OpV (g : Bool) (f : Fr) (x : Operand) (v : Value) : Prop := g = true → ev f x = v
theorem opv0 {g : Bool} {x : Operand} {v : Value} (h : ev f x = v) : OpV g f x v := fun _ => h
theorem opv1 {g : Bool} {x : Operand} {v : Value} (h : ev f x = gv g v) : OpV g f x v := fun e => by rw [h, e]; rfl
theorem opv2 {g y : Bool} {x : Operand} {v : Value} (h : ev f x = gv g v) : OpV (g && y) f x v := fun e => by
  have hg : g = true := by cases g <;> simp_all
  rw [h, hg]; rfl

def isDefer : Op → Bool
  | .defer _ => true
  | _ => false
theorem not_defer {op : Op} (h : isDefer op = false) : ∀ x, op ≠ .defer x := fun x e => by subst e; cases h
def isSel : Op → Bool
  | .select .. => true
  | _ => false

theorem HL_val {ops rest : List Oper} {d : Nat} {op : Op} {ty : TypeId} {pos : String} {af : Array Edge} {gu : Option (Nat × Bool)} {g : Bool} {v : Value}
    (hg : Gd f gu (ops.map (·.dst)) g) (hnd : isDefer op = false) (hev : EvG g c w0 L f op ty v) (hd : Nat.blt d c.N = true) (next : HL c ops rest PQ w0 L (upd f d (gv g v))) :
    HL c ops (⟨some d, op, ty, pos, af, gu⟩ :: rest) PQ w0 L f := by
  intro a w ha hw
  show if _ then _ else _
  rw [wanted_fr ha]
  show if gd f gu _ = true then _ else _
  rw [show gd f gu (ops.map (·.dst)) = g from hg]
  cases g with
  | false => exact ⟨fun _ _ => trivial, next _ _ (ha.put hd undef) hw⟩
  | true =>
    rw [if_pos rfl]
    refine ⟨fun _ _ => trivial, ?_⟩
    rw [Oper.semAt_eq _ _ _ (not_defer hnd), ha.eval, hev rfl _ _ _ _ w hw]
    exact next _ _ (ha.put hd v) hw

/-- an operation without a guard that turns the memory -/
theorem HL_eff {ops rest : List Oper} {d : Nat} {op : Op} {ty : TypeId} {pos : String} {af : Array Edge}
    (hnd : isDefer op = false) (hd : Nat.blt d c.N = true)
    (hev : ∀ w, Mem w0 L w → ∃ v w' L', (execOp (ev f) ⟨some d, op, ty, pos, af, none⟩).run c.P w = .ok (.value v) w' ∧ Mem w0 L' w' ∧ marks L' = marks L ∧ HL c ops rest PQ w0 L' (upd f d v)) :
    HL c ops (⟨some d, op, ty, pos, af, none⟩ :: rest) PQ w0 L f := by
  intro a w ha hw
  obtain ⟨v, w', L', hrun, hm, hk, hn⟩ := hev w hw
  show if _ then _ else _
  rw [if_pos (by rfl)]
  refine ⟨fun _ _ => trivial, ?_⟩
  rw [Oper.semAt_eq _ _ _ (not_defer hnd), ha.eval, hrun]
  exact hn _ _ (hk ▸ ha.put hd v) hm
/-- .. that yields nothing -/
theorem HL_do {ops rest : List Oper} {op : Op} {ty : TypeId} {pos : String} {af : Array Edge}
    (hnd : isDefer op = false)
    (hev : ∀ w, Mem w0 L w → ∃ w' L', (execOp (ev f) ⟨none, op, ty, pos, af, none⟩).run c.P w = .ok .skip w' ∧ Mem w0 L' w' ∧ marks L' = marks L ∧ HL c ops rest PQ w0 L' f) :
    HL c ops (⟨none, op, ty, pos, af, none⟩ :: rest) PQ w0 L f := by
  intro a w ha hw
  obtain ⟨w', L', hrun, hm, hk, hn⟩ := hev w hw
  show if _ then _ else _
  rw [if_pos (by rfl)]
  refine ⟨fun _ _ => trivial, ?_⟩
  rw [Oper.semAt_eq _ _ _ (not_defer hnd), ha.eval, hrun]
  exact hn _ _ (hk ▸ ha.put_none undef) hm

/-- a call of a function of the program: what it is handed -/
def EnterG (g : Bool) (c : Cx) (w0 : World) (L : List Item) (f : Fr) (op : Op) (ty : TypeId) (k : FuncId) (args : Array Value) : Prop :=
  g = true → ∀ (dst : Option Nat) (pos : String) (af : Array Edge) (gu : Option (Nat × Bool)) (w : World), Mem w0 L w → (execOp (ev f) ⟨dst, op, ty, pos, af, gu⟩).run c.P w = .ok (.enter k args) w
/-- a call whose result is known ahead: nothing that was there turns -/
theorem HL_call0 {ops rest : List Oper} {d : Nat} {op : Op} {ty : TypeId} {pos : String} {af : Array Edge} {gu : Option (Nat × Bool)} {g : Bool} {k : FuncId} {args : Array Value} {v : Value}
    (hg : Gd f gu (ops.map (·.dst)) g) (hnd : isDefer op = false) (hen : EnterG g c w0 L f op ty k args) (hd : Nat.blt d c.N = true)
    (hc : g = true → ∀ w, Mem w0 L w → Calls c.P k args w fun e w' => e = .returned v ∧ Bel w w')
    (next : HL c ops rest PQ w0 L (upd f d (gv g v))) : HL c ops (⟨some d, op, ty, pos, af, gu⟩ :: rest) PQ w0 L f := by
  intro a w ha hw
  show if _ then _ else _
  rw [wanted_fr ha]
  show if gd f gu _ = true then _ else _
  rw [show gd f gu (ops.map (·.dst)) = g from hg]
  cases g with
  | false => exact ⟨fun _ _ => trivial, next _ _ (ha.put hd undef) hw⟩
  | true =>
    rw [if_pos rfl]
    refine ⟨fun _ _ => trivial, ?_⟩
    rw [Oper.semAt_eq _ _ _ (not_defer hnd), ha.eval, hen rfl _ _ _ _ w hw]
    refine ⟨fun h => by simp [FW] at h, (callsIn_FW ((hc rfl w hw).mono ?_))⟩
    rintro e w' ⟨rfl, hb⟩
    exact next _ _ (ha.put hd v) (hw.call hb)
/-- a call that hands back items of its own -/
theorem HL_call {α : Type} {ops rest : List Oper} {d : Nat} {op : Op} {ty : TypeId} {pos : String} {af : Array Edge} {k : FuncId} {args : Array Value} {val : α → Value} {Lx : α → List Item}
    (hnd : isDefer op = false) (hen : EnterG true c w0 L f op ty k args) (hd : Nat.blt d c.N = true)
    (hc : ∀ w, Mem w0 L w → Calls c.P k args w fun e w' => ∃ x : α, e = .returned (val x) ∧ Mem w (Lx x) w')
    (hmk : ∀ x, marks (Lx x) = []) (next : ∀ x, HL c ops rest PQ w0 (Lx x ++ L) (upd f d (val x))) : HL c ops (⟨some d, op, ty, pos, af, none⟩ :: rest) PQ w0 L f := by
  intro a w ha hw
  show if _ then _ else _
  rw [if_pos (by rfl)]
  refine ⟨fun _ _ => trivial, ?_⟩
  rw [Oper.semAt_eq _ _ _ (not_defer hnd), ha.eval, hen rfl _ _ _ _ w hw]
  refine ⟨fun h => by simp [FW] at h, (callsIn_FW ((hc w hw).mono ?_))⟩
  rintro e w' ⟨x, rfl, hm⟩
  exact next x _ _ (by rw [marks_append, hmk x, List.nil_append]; exact ha.put hd _) (hw.callNew hm)
/-- a call that may turn the items, in general -/
theorem HL_callG {ops rest : List Oper} {dst : Option Nat} {op : Op} {ty : TypeId} {pos : String} {af : Array Edge} {k : FuncId} {args : Array Value}
    (hnd : isDefer op = false) (hen : EnterG true c w0 L f op ty k args) (hd : ∀ d, dst = some d → Nat.blt d c.N = true)
    (hc : ∀ w, Mem w0 L w → Calls c.P k args w fun e w' => ∃ v L', e = .returned v ∧ Mem w0 L' w' ∧ marks L' = marks L ∧ HL c ops rest PQ w0 L' (match dst with | some d => upd f d v | none => f)) :
    HL c ops (⟨dst, op, ty, pos, af, none⟩ :: rest) PQ w0 L f := by
  intro a w ha hw
  show if _ then _ else _
  rw [if_pos (by rfl)]
  refine ⟨fun _ _ => trivial, ?_⟩
  rw [Oper.semAt_eq _ _ _ (not_defer hnd), ha.eval, hen rfl _ _ _ _ w hw]
  refine ⟨fun h => by simp [FW] at h, (callsIn_FW ((hc w hw).mono ?_))⟩
  rintro e w' ⟨v, L', rfl, hm, hk, hn⟩
  cases dst with
  | none => exact hn _ _ (hk ▸ ha.put_none _) hm
  | some d => exact hn _ _ (hk ▸ ha.put (hd d rfl) _) hm

end

/-! ### regions that draw their order: operations that leave the memory alone, and calls that leave what was there alone -/
section
variable {c : Cx} {w0 : World} {L : List Item}

def QL (c : Cx) (ops rest : List Oper) (w0 : World) (L : List Item) (K : Fr → Prop) (f : Fr) : Prop :=
  ∀ a, IsFr c.N (marks L) a f → wpQuietIn (FW c.ro) 0 c.P ops.toArray (Mem w0 L) (fun a' => ∃ f', IsFr c.N (marks L) a' f' ∧ K f') rest a

theorem Oper.wpIn_of_quietR {F : Fence} {n : Nat} {P : Program} {C : World → Prop} {o : Oper} {a : Act} {K : Act → Prop} {K' : Act → World → Prop} {Q' : Exit → Act → World → Prop} {w : World} (hnd : ∀ x, o.op ≠ .defer x) (hw : C w) (h : ∀ a w', C w' → K a → K' a w')
    (ha : o.askedIn F P a C) (hh : o.quietIn F n P a C K) : o.wpIn F n P a w K' Q' := by
  obtain ⟨v, h1, h2⟩ := hh
  have h3 := h1 w hw
  unfold Oper.quietAtIn at h3
  unfold Oper.wpIn
  refine ⟨ha w hw, ?_⟩
  rw [Oper.semAt_eq _ _ _ hnd]
  generalize (execOp a.eval o).run P w = r at *
  cases r with
  | ok x w' =>
    cases x <;> simp only [Oper.quietUponIn] at h3 <;> simp only [Oper.uponIn]
    case value u =>
      obtain ⟨e1, e2⟩ := h3
      rw [e1, e2]
      exact h _ _ hw h2
    case skip =>
      obtain ⟨e1, e2⟩ := h3
      rw [e1, ← e2]
      exact h _ _ hw h2
    case enter f args =>
      obtain ⟨e1, hd, hc⟩ := h3
      rw [e1]
      exact ⟨hd, hc.mono fun e w'' ⟨he, hw''⟩ => by subst he; exact h _ _ hw'' h2⟩
  | halt x w' => simp only [Oper.quietUponIn] at h3

theorem wpOpIn_of_qOpInR {F : Fence} {n : Nat} {P : Program} {ops : Array Oper} {C : World → Prop} {i : Nat} {a : Act} {K : Act → Prop} {K' : Act → World → Prop} {Q' : Exit → Act → World → Prop} {w : World} (hnd : ∀ (j : Nat) o, ops[j]? = some o → ∀ x, o.op ≠ .defer x) (hC : C w) (h : ∀ a w', C w' → K a → K' a w')
    (hh : qOpIn F n P ops C i K a) : wpOpIn F n P ops Q' i K' a w := by
  unfold qOpIn at hh
  unfold wpOpIn
  split
  · rename_i ho; simp only [ho] at hh; exact h _ _ hC hh
  · rename_i o ho
    simp only [ho] at hh
    obtain ⟨ha, hh⟩ := hh
    split
    · rename_i hw; simp only [hw, if_true] at hh; exact Oper.wpIn_of_quietR (hnd i o ho) hC h ha hh
    · rename_i hw; simp only [hw] at hh; exact ⟨ha w hC, h _ _ hC hh⟩

theorem wpAnyIn_of_quietR {F : Fence} {n : Nat} {P : Program} {md : Region.Mode} {ops : Array Oper} {C : World → Prop} {Q : Act → Prop} {Q' : Exit → Act → World → Prop} (hnd : ∀ (j : Nat) o, ops[j]? = some o → ∀ x, o.op ≠ .defer x) (hQ : ∀ a w, C w → Q a → Q' .normal a w) : ∀ (fuel : Nat) (listed : Array Bool) (a : Act) (w : World), C w →
    wpAnyQIn F n P md ops C Q fuel listed a → wpAnyIn F n P md ops Q' fuel listed a w
  | 0, _, _, _, hw, h => ⟨h.1, hQ _ _ hw h.2⟩
  | fuel + 1, _, _, _, hw, h => ⟨fun h0 => hQ _ _ hw (h.1 h0), fun i hi => wpOpIn_of_qOpInR hnd hw (fun a' w' hw' => wpAnyIn_of_quietR hnd hQ fuel _ a' w' hw') (h.2 i hi)⟩

theorem Mem.drew {w0 w : World} {L : List Item} (h : Mem w0 L w) : Mem w0 L { w with drawn := w.drawn + 1 } :=
  h.call ⟨⟨rfl, rfl, rfl, Nat.le_refl _, fun _ _ => rfl⟩, Nat.le_add_right _ _⟩

theorem H_draw {PQ : PJ} {f : Fr} {id : Nat} {ops : List Oper} (hm : c.P.follows .mixedOrders = true) (hB : (Region.lexB .any ops.toArray && ops.all (fun o => !isDefer o.op)) = true) (h : QL c ops ops w0 L (fun f' => PQ .normal w0 L f') f) :
    H c (.region id ops.toArray true) PQ w0 L f := by
  intro a w ha hw
  rw [Bool.and_eq_true] at hB
  obtain ⟨hB, hD⟩ := hB
  have hnd : ∀ (j : Nat) (o : Oper), ops.toArray[j]? = some o → ∀ x, o.op ≠ .defer x := fun j o hj => not_defer (by
    have hmem : o ∈ ops := List.mem_of_getElem? (by simpa using hj)
    simpa using List.all_eq_true.1 hD o hmem)
  simp only [Region.lexB, Bool.and_eq_true] at hB
  refine wpIn_region_any hm (wpAnyIn_of_quietR (C := Mem w0 L) (Q := fun a' => ∃ f', IsFr c.N (marks L) a' f' ∧ PQ .normal w0 L f') hnd (fun a' w' hw' ⟨f', h1, h2⟩ => ⟨w0, L, f', h1, hw', h2⟩) _ _ _ _ hw.drew ?_)
  have := wpAnyQIn_lex (F := FW c.ro) (n := 0) (P := c.P) (C := Mem w0 L) (md := .any) (Q := fun a' => ∃ f', IsFr c.N (marks L) a' f' ∧ PQ .normal w0 L f') hB.1 ops 0 (Array.replicate ops.toArray.size false) a (by simp) (by simpa using hB.2) (h a ha)
  simpa using this

variable {K : Fr → Prop} {f : Fr}
theorem QL_nil {ops : List Oper} (h : K f) : QL c ops [] w0 L K f := fun _ ha => ⟨f, ha, h⟩
theorem QL_val {ops rest : List Oper} {d : Nat} {op : Op} {ty : TypeId} {pos : String} {af : Array Edge} {gu : Option (Nat × Bool)} {g : Bool} {v : Value}
    (hg : Gd f gu (ops.map (·.dst)) g) (hev : EvG g c w0 L f op ty v) (hd : Nat.blt d c.N = true) (next : QL c ops rest w0 L K (upd f d (gv g v))) :
    QL c ops (⟨some d, op, ty, pos, af, gu⟩ :: rest) w0 L K f := by
  intro a ha
  refine ⟨fun _ _ _ _ => trivial, ?_⟩
  rw [wanted_fr ha]
  show if gd f gu _ = true then _ else _
  rw [show gd f gu (ops.map (·.dst)) = g from hg]
  cases g with
  | false => exact next _ (ha.put hd undef)
  | true =>
    rw [if_pos rfl]
    refine ⟨v, fun w hw => ?_, next _ (ha.put hd v)⟩
    unfold Oper.quietAtIn
    rw [ha.eval, hev rfl _ _ _ _ w hw]
    exact ⟨rfl, rfl⟩
theorem QL_call0 {ops rest : List Oper} {d : Nat} {op : Op} {ty : TypeId} {pos : String} {af : Array Edge} {gu : Option (Nat × Bool)} {g : Bool} {k : FuncId} {args : Array Value} {v : Value}
    (hg : Gd f gu (ops.map (·.dst)) g) (hen : EnterG g c w0 L f op ty k args) (hd : Nat.blt d c.N = true)
    (hc : g = true → ∀ w, Mem w0 L w → Calls c.P k args w fun e w' => e = .returned v ∧ Bel w w')
    (next : QL c ops rest w0 L K (upd f d (gv g v))) : QL c ops (⟨some d, op, ty, pos, af, gu⟩ :: rest) w0 L K f := by
  intro a ha
  refine ⟨fun _ _ _ _ => trivial, ?_⟩
  rw [wanted_fr ha]
  show if gd f gu _ = true then _ else _
  rw [show gd f gu (ops.map (·.dst)) = g from hg]
  cases g with
  | false => exact next _ (ha.put hd undef)
  | true =>
    rw [if_pos rfl]
    refine ⟨v, fun w hw => ?_, next _ (ha.put hd v)⟩
    unfold Oper.quietAtIn
    rw [ha.eval, hen rfl _ _ _ _ w hw]
    refine ⟨rfl, fun h => by simp [FW] at h, callsIn_FW ((hc rfl w hw).mono ?_)⟩
    rintro e w' ⟨rfl, hb⟩
    exact ⟨rfl, hw.call hb⟩
end

/-! ### loops -/
def updL (f : Fr) : List (Nat × Value) → Fr
  | [] => f
  | (i, v) :: r => upd (updL f r) i v
def over (f0 : Fr) (S : List Nat) (g : Fr) : Fr := fun i => bif S.elem i then g i else f0 i
def Agree (S : List Nat) (f f0 : Fr) : Prop := ∀ i, S.elem i = false → f i = f0 i
theorem agree_self {S : List Nat} {f : Fr} : Agree S f f := fun _ _ => rfl
theorem agree_over {S : List Nat} {f0 g : Fr} : Agree S (over f0 S g) f0 := fun i hi => by unfold over; rw [hi]; rfl
theorem agree_over2 {S T : List Nat} {f f0 g : Fr} (hs : T.all (fun i => S.elem i) = true) (h : Agree S f f0) : Agree S (over f T g) f0 := fun i hi => by
  have ht : T.elem i = false := by
    cases he : T.elem i with
    | false => rfl
    | true =>
      have hm : i ∈ T := by simpa using he
      have := List.all_eq_true.1 hs i hm
      rw [hi] at this; cases this
  unfold over; rw [ht]; exact h i hi
theorem agree_upd {S : List Nat} {f f0 : Fr} {i : Nat} {v : Value} (hi : S.elem i = true) (h : Agree S f f0) : Agree S (upd f i v) f0 := fun j hj => by
  have hne : Nat.beq j i = false := by
    cases hb : Nat.beq j i with
    | false => rfl
    | true => rw [Nat.eq_of_beq_eq_true hb] at hj; rw [hi] at hj; cases hj
  simp only [upd, hne, cond_false]
  exact h j hj
theorem agree_updL {S : List Nat} {f f0 : Fr} : ∀ {vs : List (Nat × Value)}, vs.all (fun p => S.elem p.1) = true → Agree S f f0 → Agree S (updL f vs) f0
  | [], _, h => h
  | (i, v) :: r, hv, h => by
    simp only [List.all_cons, Bool.and_eq_true] at hv
    exact agree_upd hv.1 (agree_updL hv.2 h)

/-- the frame holds these values -/
def Has (f : Fr) : List (Nat × Value) → Prop
  | [] => True
  | (i, v) :: r => f i = v ∧ Has f r
theorem frame_of {S : List Nat} {f f0 : Fr} (ha : Agree S f f0) : ∀ {vs : List (Nat × Value)}, Has f vs → f = updL (over f0 S f) vs
  | [], _ => funext fun i => by
    show f i = over f0 S f i
    unfold over
    cases h : S.elem i with
    | true => rfl
    | false => exact ha i h
  | (i, v) :: r, hv => funext fun j => by
    have ih := congrFun (frame_of ha hv.2) j
    show f j = upd (updL (over f0 S f) r) i v j
    unfold upd
    cases hb : Nat.beq j i with
    | false => exact ih
    | true => rw [Nat.eq_of_beq_eq_true hb]; exact hv.1

/-- what the end of a round owes: 'S' the slots that the rounds write, 'vals' the slots' values, 'Wb', 'Li' the base and the items, 'I' what else holds, 'm' a measure -/
structure Round {σ : Type} (S : List Nat) (f0 : Fr) (vals : σ → List (Nat × Value)) (Wb : σ → World) (Li : σ → List Item) (I : σ → Prop) (m : σ → Nat) (s : σ) (w0 : World) (L : List Item) (f : Fr) : Prop where
  ex : ∃ s', Agree S f f0 ∧ Has f (vals s') ∧ (∀ w, Mem w0 L w → Mem (Wb s') (Li s') w) ∧ marks (Li s') = marks L ∧ I s' ∧ m s' < m s

def loopJ {σ : Type} (S : List Nat) (f0 : Fr) (vals : σ → List (Nat × Value)) (Wb : σ → World) (Li : σ → List Item) (I : σ → Prop) (m : σ → Nat) (s : σ) (PQ : PJ) : PJ := thenJ (Round S f0 vals Wb Li I m s) PQ

theorem H_loopW {c : Cx} {PQ : PJ} {w0 : World} {L : List Item} {f : Fr} {σ : Type} {k : Code} (S : List Nat) (vals : σ → List (Nat × Value)) (Wb : σ → World) (Li : σ → List Item) (I : σ → Prop) (m : σ → Nat) (s0 : σ)
    (hv0 : Has f (vals s0)) (hL0 : ∀ w, Mem w0 L w → Mem (Wb s0) (Li s0) w) (hk0 : marks (Li s0) = marks L) (hI0 : I s0)
    (round : ∀ s g, I s → H c k (loopJ S f vals Wb Li I m s PQ) (Wb s) (Li s) (updL (over f S g) (vals s))) : H c (.loop k) PQ w0 L f := by
  intro a w ha hw
  refine wpIn_loop_ghost (fun j a w => ∃ s g, IsFr c.N (marks (Li s)) a (updL (over f S g) (vals s)) ∧ Mem (Wb s) (Li s) w ∧ I s ∧ m s = j) (m s0) ?_ ?_
  · refine ⟨s0, f, ?_, hL0 w hw, hI0, rfl⟩
    rw [← frame_of agree_self hv0, hk0]; exact ha
  · rintro j a w ⟨s, g, h1, h2, h3, rfl⟩
    refine wpIn_mono (round s g h3 a w h1 h2) ?_
    rintro e a' w' ⟨u', L', f', k1, k2, k3⟩
    cases e with
    | normal =>
      obtain ⟨s', ag, hv, hm, hk, hI, hlt⟩ := Round.ex k3
      exact ⟨m s', hlt, s', f', by rw [← frame_of ag hv, hk]; exact k1, hm _ k2, hI, rfl⟩
    | exit i => exact ⟨u', L', f', k1, k2, k3⟩
    | goto l => exact ⟨u', L', f', k1, k2, k3⟩
    | ret => exact ⟨u', L', f', k1, k2, k3⟩
    | panic ch => exact ⟨u', L', f', k1, k2, k3⟩
    | outgrown => exact ⟨u', L', f', k1, k2, k3⟩
/-- the base stays -/
theorem H_loop {c : Cx} {PQ : PJ} {w0 : World} {L : List Item} {f : Fr} {σ : Type} {k : Code} (S : List Nat) (vals : σ → List (Nat × Value)) (Li : σ → List Item) (I : σ → Prop) (m : σ → Nat) (s0 : σ)
    (hv0 : Has f (vals s0)) (hL0 : ∀ w, Mem w0 L w → Mem w0 (Li s0) w) (hk0 : marks (Li s0) = marks L) (hI0 : I s0)
    (round : ∀ s g, I s → H c k (loopJ S f vals (fun _ => w0) Li I m s PQ) w0 (Li s) (updL (over f S g) (vals s))) : H c (.loop k) PQ w0 L f :=
  H_loopW S vals (fun _ => w0) Li I m s0 hv0 hL0 hk0 hI0 round

section
variable {PQ : PJ} {w0 : World} {L : List Item} {f f0 : Fr} {σ : Type} {S : List Nat} {vals : σ → List (Nat × Value)} {Wb : σ → World} {Li : σ → List Item} {I : σ → Prop} {m : σ → Nat} {s : σ}
theorem loopJ_normal (s' : σ) (hag : Agree S f f0) (hv : Has f (vals s')) (hm : ∀ w, Mem w0 L w → Mem (Wb s') (Li s') w) (hk : marks (Li s') = marks L) (hI : I s') (hlt : m s' < m s) : loopJ S f0 vals Wb Li I m s PQ .normal w0 L f := ⟨⟨s', hag, hv, hm, hk, hI, hlt⟩⟩
theorem loopJ_exit {i : Nat} (h : PQ (.exit i) w0 L f) : loopJ S f0 vals Wb Li I m s PQ (.exit i) w0 L f := h
theorem loopJ_ret (h : PQ .ret w0 L f) : loopJ S f0 vals Wb Li I m s PQ .ret w0 L f := h
end

/-! ### a function's call -/
def frOf (l : List Value) : Fr := fun i => l.getD i undef
def retJ (c : Cx) (fn : Func) (R : Ending → World → Prop) : PJ
  | .normal => fun w0 L f => ∀ w a, Mem w0 L w → IsFr c.N (marks L) a f → LeavesInM (FW none) 0 c.P fn a.tmps R (marks L) .returning w
  | .ret => fun w0 L f => ∀ w a, Mem w0 L w → IsFr c.N (marks L) a f → LeavesInM (FW none) 0 c.P fn a.tmps R (marks L) .returning w
  | _ => fun _ _ _ => False

theorem H_enter {P : Program} {k : FuncId} {fn : Func} {code : Code} {l : List Value} {w : World} {R : Ending → World → Prop} {N : Nat} (hf : P.funcs[k]? = some fn) (hb : fn.body = some code) (hN : fn.ntmps = N) (hl : Nat.ble l.length N = true)
    (h : H ⟨P, none, N⟩ code (retJ ⟨P, none, N⟩ fn R) w [] (frOf l)) : Calls P k l.toArray w R := by
  have hl' : l.length ≤ N := Nat.le_of_ble_eq_true hl
  refine calls_FW (n := 0) (callsIn_of_wp_marks hf hb trivial (wpIn_mono (h _ w ⟨?_, ?_, rfl⟩ (Mem.start w)) ?_) rfl)
  · simp [hN]; omega
  · intro i
    simp only [Array.getD_eq_getD_getElem?, frOf, List.getD_eq_getElem?_getD]
    rw [Array.getElem?_append]
    split
    · simp
    · rename_i hi
      have : l[i]? = none := List.getElem?_eq_none (by simpa using hi)
      rw [this]
      simp only [Array.getElem?_replicate]
      split <;> rfl
  · rintro e a w' ⟨u', L', f', k1, k2, k3⟩
    cases e with
    | normal => have := k3 w' a k2 k1; rw [← k1.defers] at this; exact this
    | ret => have := k3 w' a k2 k1; rw [← k1.defers] at this; exact this
    | exit i => exact k3.elim
    | goto l => exact k3.elim
    | panic ch => exact k3.elim
    | outgrown => exact k3.elim

/-- a block that holds the marks of a range over a function: open -/
def dblk (D : Nat) : Item where
  fp := fun x => x = D
  A := fun w => w.heap[D]? = some (.deferred (some []))
  st := fun _ _ h hA => (h D rfl).trans hA
/-- .. and its mark among what is left to be done -/
def dmark (D : Nat) : Item := { dblk D with due := [{ target := .collected D, args := #[] }] }

/-- what the results are -/
def ResIs (P : Program) (N : Nat) (fn : Func) (w0 : World) (L : List Item) (f : Fr) (v : Value) : Prop := ∀ w ds a, Mem w0 L w → IsFr N ds a f → (results fn a.tmps).run P w = .ok v w

theorem Mem.tail {w0 w : World} {it : Item} {L : List Item} (h : Mem w0 (it :: L) w) : Mem w0 L w :=
  ⟨h.1, fun x hx => h.2.1 x (List.mem_cons_of_mem _ hx), fun x hx => h.2.2.1 x (List.mem_cons_of_mem _ hx), (List.pairwise_cons.1 h.2.2.2).2⟩
theorem Mem.take0 {w0 w : World} {D : Nat} {o : Obj} {it : Item} {L : List Item} (h : Mem w0 (it :: L) w) (hfp : it.fp D) : Mem w0 L (w.putObj D o) := by
  have hD := h.2.2.1 it (List.mem_cons_self ..) D hfp
  have hp := (List.pairwise_cons.1 h.2.2.2).1
  have ht := h.tail
  refine ⟨⟨⟨ht.1.os, ht.1.tape, ht.1.output, by simpa using ht.1.size, fun k hk => (World.putObj_heap_other (by omega)).trans (ht.1.block k hk)⟩, ht.1.drawn⟩, fun x hx => x.st w _ (fun b hb => World.putObj_heap_other (fun e => ?_)) (ht.2.1 x hx), fun x hx b hb => by simpa using ht.2.2.1 x hx b hb, ht.2.2.2⟩
  subst e
  exact hp x hx b hfp hb

section
variable {c : Cx} {fn : Func} {R : Ending → World → Prop} {w0 : World} {L : List Item} {f : Fr} {v : Value}
theorem ret_of (hk : marks L = []) (hr : ResIs c.P c.N fn w0 L f v) (h : ∀ w, Mem w0 L w → R (.returned v) w) : retJ c fn R .ret w0 L f := fun w a hw ha => by
  rw [hk]; exact ⟨v, hr w _ a hw ha, h w hw⟩
theorem end_of (hk : marks L = []) (hr : ResIs c.P c.N fn w0 L f v) (h : ∀ w, Mem w0 L w → R (.returned v) w) : retJ c fn R .normal w0 L f := fun w a hw ha => by
  rw [hk]; exact ⟨v, hr w _ a hw ha, h w hw⟩
theorem ret_of_m {D : Nat} (hk : marks L = []) (hr : ResIs c.P c.N fn w0 L f v) (h : ∀ w, Mem w0 L w → R (.returned v) w) : retJ c fn R .ret w0 (dmark D :: L) f := fun w a hw ha => by
  rw [marks_cons, hk]
  have hA : w.heap[D]? = some (.deferred (some [])) := hw.2.1 (dmark D) (List.mem_cons_self ..)
  have hw' : Mem w0 L (w.putObj D (.deferred none)) := Mem.take0 hw (show (dmark D).fp D from rfl)
  exact ⟨by simp, .inl ⟨D, _, rfl, run_takeDeferred hA, v, hr _ _ a hw' ha, h _ hw'⟩⟩

theorem res0 (hr : fn.results = #[]) : ResIs c.P c.N fn w0 L f (.tuple #[]) := fun w ds a _ _ => by simp [results, hr]
theorem res1 {t : Nat} (hr : fn.results = #[.tmp t]) (hv : f t = v) : ResIs c.P c.N fn w0 L f v := fun w ds a _ ha => by
  have := ha.get t
  simp [results, hr, ← hv, ← this]
theorem res2 {t u : Nat} {x : Value} (hr : fn.results = #[.tmp t, .tmp u]) (hv : f t = v) (hx : f u = x) : ResIs c.P c.N fn w0 L f (.tuple #[v, x]) := fun w ds a _ ha => by
  have h1 := ha.get t
  have h2 := ha.get u
  simp [results, hr, ← hv, ← hx, ← h1, ← h2]
theorem res3 {t u y : Nat} {x z : Value} (hr : fn.results = #[.tmp t, .tmp u, .tmp y]) (hv : f t = v) (hx : f u = x) (hz : f y = z) : ResIs c.P c.N fn w0 L f (.tuple #[v, x, z]) := fun w ds a _ ha => by
  have h1 := ha.get t
  have h2 := ha.get u
  have h3 := ha.get y
  simp [results, hr, ← hv, ← hx, ← hz, ← h1, ← h2, ← h3]

theorem ret0 (hr : fn.results = #[]) (hk : marks L = []) (h : ∀ w, Mem w0 L w → R (.returned (.tuple #[])) w) : retJ c fn R .ret w0 L f := ret_of hk (res0 hr) h
theorem end0 (hr : fn.results = #[]) (hk : marks L = []) (h : ∀ w, Mem w0 L w → R (.returned (.tuple #[])) w) : retJ c fn R .normal w0 L f := end_of hk (res0 hr) h
theorem ret1 {t : Nat} (hr : fn.results = #[.tmp t]) (hv : f t = v) (hk : marks L = []) (h : ∀ w, Mem w0 L w → R (.returned v) w) : retJ c fn R .ret w0 L f := ret_of hk (res1 hr hv) h
theorem ret2 {t u : Nat} {x : Value} (hr : fn.results = #[.tmp t, .tmp u]) (hv : f t = v) (hx : f u = x) (hk : marks L = []) (h : ∀ w, Mem w0 L w → R (.returned (.tuple #[v, x])) w) : retJ c fn R .ret w0 L f := ret_of hk (res2 hr hv hx) h
theorem ret3 {t u y : Nat} {x z : Value} (hr : fn.results = #[.tmp t, .tmp u, .tmp y]) (hv : f t = v) (hx : f u = x) (hz : f y = z) (hk : marks L = []) (h : ∀ w, Mem w0 L w → R (.returned (.tuple #[v, x, z])) w) : retJ c fn R .ret w0 L f := ret_of hk (res3 hr hv hx hz) h
end

theorem gv_false {v : Value} : gv false v = undef := rfl
theorem gv_true {v : Value} : gv true v = v := rfl
theorem gv_of {g : Bool} {v : Value} (h : g = true) : gv g v = v := by rw [h]; rfl
attribute [irreducible] gv

end Go.Proofs.E
