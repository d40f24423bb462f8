/-
  The operations, one rule each.
-/
import Derived.Test.YtnikolfakmgbbaaEb
import Derived.IntWalk
import Derived.Laws.MakeOwn
import Derived.Laws.NewFold
namespace Go.Proofs.E
open Go Go.RowKit

/-! ### one name for both kinds of regions -/
def XL (dr : Bool) (c : Cx) (ops rest : List Oper) (PQ : PJ) : J :=
  match dr with
  | false => HL c ops rest PQ
  | true => fun w0 L f => QL c ops rest w0 L (fun f' => PQ .normal w0 L f') f

section
variable {dr : Bool} {c : Cx} {PQ : PJ} {w0 : World} {L : List Item} {f : Fr} {ops rest : List Oper} {d : Nat} {ty : TypeId} {pos : String} {af : Array Edge} {gu : Option (Nat × Bool)} {g : Bool} {v : Value}

theorem R0 {id : Nat} {ops : List Oper} (h : XL false c ops ops PQ w0 L f) : H c (.region id ops.toArray false) PQ w0 L f := H_region h
theorem R1 {id : Nat} {ops : List Oper} (hm : c.P.follows .mixedOrders = true) (hB : (Region.lexB .any ops.toArray && ops.all (fun o => !isDefer o.op)) = true) (h : XL true c ops ops PQ w0 L f) : H c (.region id ops.toArray true) PQ w0 L f := H_draw hm hB h
theorem XN (h : PQ .normal w0 L f) : XL dr c ops [] PQ w0 L f := by
  cases dr
  · exact HL_nil h
  · exact QL_nil h
theorem XV {op : Op} (hg : Gd f gu (ops.map (·.dst)) g) (hnd : isDefer op = false) (hev : EvG g c w0 L f op ty v) (hd : Nat.blt d c.N = true) (next : XL dr c ops rest PQ w0 L (upd f d (gv g v))) :
    XL dr c ops (⟨some d, op, ty, pos, af, gu⟩ :: rest) PQ w0 L f := by
  cases dr
  · exact HL_val hg hnd hev hd next
  · exact QL_val hg hev hd next
theorem XC {op : Op} {k : FuncId} {args : Array Value} (hg : Gd f gu (ops.map (·.dst)) g) (hnd : isDefer op = false) (hen : EnterG g c w0 L f op ty k args) (hd : Nat.blt d c.N = true)
    (hc : g = true → ∀ w, Mem w0 L w → Calls c.P k args w fun e w' => e = .returned v ∧ Bel w w') (next : XL dr c ops rest PQ w0 L (upd f d (gv g v))) :
    XL dr c ops (⟨some d, op, ty, pos, af, gu⟩ :: rest) PQ w0 L f := by
  cases dr
  · exact HL_call0 hg hnd hen hd hc next
  · exact QL_call0 hg hen hd hc next
/-! short names for the steps -/
theorem xV {op : Op} (hev : EvG true c w0 L f op ty v) (hnd : isDefer op = false) (hd : Nat.blt d c.N = true) (next : XL dr c ops rest PQ w0 L (upd f d v)) : XL dr c ops (⟨some d, op, ty, pos, af, none⟩ :: rest) PQ w0 L f := XV Gd_none hnd hev hd (by rw [gv_true]; exact next)
theorem xVT {op : Op} {j e : Nat} {b : Bool} (hev : EvG b c w0 L f op ty v) (hj : (ops.map (·.dst))[j]? = some (some e)) (hx : f e = .bool b) (hnd : isDefer op = false) (hd : Nat.blt d c.N = true) (next : XL dr c ops rest PQ w0 L (upd f d (gv b v))) : XL dr c ops (⟨some d, op, ty, pos, af, some (j, true)⟩ :: rest) PQ w0 L f := XV (Gd_true hj hx) hnd hev hd next
theorem xVF {op : Op} {j e : Nat} {b : Bool} (hev : EvG (!b) c w0 L f op ty v) (hj : (ops.map (·.dst))[j]? = some (some e)) (hx : f e = .bool b) (hnd : isDefer op = false) (hd : Nat.blt d c.N = true) (next : XL dr c ops rest PQ w0 L (upd f d (gv (!b) v))) : XL dr c ops (⟨some d, op, ty, pos, af, some (j, false)⟩ :: rest) PQ w0 L f := XV (Gd_false hj hx) hnd hev hd next
theorem xVT2 {op : Op} {j e : Nat} {b g : Bool} (hev : EvG (g && b) c w0 L f op ty v) (hj : (ops.map (·.dst))[j]? = some (some e)) (hx : f e = gv g (.bool b)) (hnd : isDefer op = false) (hd : Nat.blt d c.N = true) (next : XL dr c ops rest PQ w0 L (upd f d (gv (g && b) v))) : XL dr c ops (⟨some d, op, ty, pos, af, some (j, true)⟩ :: rest) PQ w0 L f := XV (Gd_true2 hj hx) hnd hev hd next
theorem xVF2 {op : Op} {j e : Nat} {b g : Bool} (hev : EvG (g && !b) c w0 L f op ty v) (hj : (ops.map (·.dst))[j]? = some (some e)) (hx : f e = gv g (.bool b)) (hnd : isDefer op = false) (hd : Nat.blt d c.N = true) (next : XL dr c ops rest PQ w0 L (upd f d (gv (g && !b) v))) : XL dr c ops (⟨some d, op, ty, pos, af, some (j, false)⟩ :: rest) PQ w0 L f := XV (Gd_false2 hj hx) hnd hev hd next
section
variable {op : Op} {k : FuncId} {args : Array Value}
theorem xC (hen : EnterG true c w0 L f op ty k args) (hc : true = true → ∀ w, Mem w0 L w → Calls c.P k args w fun e w' => e = .returned v ∧ Bel w w') (hnd : isDefer op = false) (hd : Nat.blt d c.N = true) (next : XL dr c ops rest PQ w0 L (upd f d v)) : XL dr c ops (⟨some d, op, ty, pos, af, none⟩ :: rest) PQ w0 L f := XC Gd_none hnd hen hd hc (by rw [gv_true]; exact next)
theorem xCT {j e : Nat} {b : Bool} (hen : EnterG b c w0 L f op ty k args) (hc : b = true → ∀ w, Mem w0 L w → Calls c.P k args w fun e w' => e = .returned v ∧ Bel w w') (hj : (ops.map (·.dst))[j]? = some (some e)) (hx : f e = .bool b) (hnd : isDefer op = false) (hd : Nat.blt d c.N = true) (next : XL dr c ops rest PQ w0 L (upd f d (gv b v))) : XL dr c ops (⟨some d, op, ty, pos, af, some (j, true)⟩ :: rest) PQ w0 L f := XC (Gd_true hj hx) hnd hen hd hc next
theorem xCF {j e : Nat} {b : Bool} (hen : EnterG (!b) c w0 L f op ty k args) (hc : (!b) = true → ∀ w, Mem w0 L w → Calls c.P k args w fun e w' => e = .returned v ∧ Bel w w') (hj : (ops.map (·.dst))[j]? = some (some e)) (hx : f e = .bool b) (hnd : isDefer op = false) (hd : Nat.blt d c.N = true) (next : XL dr c ops rest PQ w0 L (upd f d (gv (!b) v))) : XL dr c ops (⟨some d, op, ty, pos, af, some (j, false)⟩ :: rest) PQ w0 L f := XC (Gd_false hj hx) hnd hen hd hc next
theorem xCT2 {j e : Nat} {b g : Bool} (hen : EnterG (g && b) c w0 L f op ty k args) (hc : (g && b) = true → ∀ w, Mem w0 L w → Calls c.P k args w fun e w' => e = .returned v ∧ Bel w w') (hj : (ops.map (·.dst))[j]? = some (some e)) (hx : f e = gv g (.bool b)) (hnd : isDefer op = false) (hd : Nat.blt d c.N = true) (next : XL dr c ops rest PQ w0 L (upd f d (gv (g && b) v))) : XL dr c ops (⟨some d, op, ty, pos, af, some (j, true)⟩ :: rest) PQ w0 L f := XC (Gd_true2 hj hx) hnd hen hd hc next
theorem xCF2 {j e : Nat} {b g : Bool} (hen : EnterG (g && !b) c w0 L f op ty k args) (hc : (g && !b) = true → ∀ w, Mem w0 L w → Calls c.P k args w fun e w' => e = .returned v ∧ Bel w w') (hj : (ops.map (·.dst))[j]? = some (some e)) (hx : f e = gv g (.bool b)) (hnd : isDefer op = false) (hd : Nat.blt d c.N = true) (next : XL dr c ops rest PQ w0 L (upd f d (gv (g && !b) v))) : XL dr c ops (⟨some d, op, ty, pos, af, some (j, false)⟩ :: rest) PQ w0 L f := XC (Gd_false2 hj hx) hnd hen hd hc next
theorem xCX {α : Type} {val : α → Value} {Lx : α → List Item} (hen : EnterG true c w0 L f op ty k args) (hc : ∀ w, Mem w0 L w → Calls c.P k args w fun e w' => ∃ x : α, e = .returned (val x) ∧ Mem w (Lx x) w') (hd : Nat.blt d c.N = true) (hmk : ∀ x, marks (Lx x) = []) (next : ∀ x, XL false c ops rest PQ w0 (Lx x ++ L) (upd f d (val x))) (hnd : isDefer op = false := by rfl) :
    XL false c ops (⟨some d, op, ty, pos, af, none⟩ :: rest) PQ w0 L f := HL_call hnd hen hd hc hmk next
end
end

/-- the cells from an address on -/
def RowAt (w : World) (b o : Nat) (cs : List Value) : Prop := ∀ j u, cs[j]? = some u → w.cell? ⟨b, o + j, none⟩ = some u

/-! ### values -/
section
variable {c : Cx} {w0 : World} {L : List Item} {f : Fr} {ty : TypeId} {g : Bool} {v : Value} {x y : Operand}

theorem ev_const (v : Value) : ev f (.const v) = v := rfl
theorem ev_func (k : FuncId) : ev f (.func k) = .func (.func k) #[] #[] := rfl
theorem e_mv (hx : OpV g f x v) : EvG g c w0 L f (.move x) ty v := fun e _ _ _ _ w _ => by simp [execOp, hx e]
theorem e_as (hx : OpV g f x v) : EvG g c w0 L f (.assign x) ty v := fun e _ _ _ _ w _ => by simp [execOp, hx e]
theorem e_or {b z g2 : Bool} (hx : OpV g f x (.bool b)) (hy : ev f y = gv g2 (.bool z)) (hg : g = true → g2 = !b) : EvG g c w0 L f (.pick x (.const (.bool true)) y) ty (.bool (b || z)) := fun e _ _ _ _ w _ => by
  have h1 := hx e
  have h2 := hg e
  cases b
  · simp [execOp, h1, hy, h2, gv, asBool]
  · simp [execOp, h1, asBool, ev_const]
theorem e_and {b z g2 : Bool} (hx : OpV g f x (.bool b)) (hy : ev f y = gv g2 (.bool z)) (hg : g = true → g2 = b) : EvG g c w0 L f (.pick x y (.const (.bool false))) ty (.bool (b && z)) := fun e _ _ _ _ w _ => by
  have h1 := hx e
  have h2 := hg e
  cases b
  · simp [execOp, h1, asBool, ev_const]
  · simp [execOp, h1, hy, h2, gv, asBool]

section
variable {t t2 : TypeId} {m n : Int}
theorem e_lt {k : IntKind} (hx : OpV g f x (.int k m)) (hy : OpV g f y (.int k n)) : EvG g c w0 L f (.binOp .lss t x y t2) ty (.bool (decide (m < n))) := fun e _ _ _ _ w _ => by
  simp [execOp, hx e, hy e, eqGuard, binOp, Op.intCmp]
theorem e_le {k : IntKind} (hx : OpV g f x (.int k m)) (hy : OpV g f y (.int k n)) : EvG g c w0 L f (.binOp .leq t x y t2) ty (.bool (decide (m ≤ n))) := fun e _ _ _ _ w _ => by
  simp [execOp, hx e, hy e, eqGuard, binOp, Op.intCmp]
theorem e_gt {k : IntKind} (hx : OpV g f x (.int k m)) (hy : OpV g f y (.int k n)) : EvG g c w0 L f (.binOp .gtr t x y t2) ty (.bool (decide (n < m))) := fun e _ _ _ _ w _ => by
  simp [execOp, hx e, hy e, eqGuard, binOp, Op.intCmp]
theorem e_ge {k : IntKind} (hx : OpV g f x (.int k m)) (hy : OpV g f y (.int k n)) : EvG g c w0 L f (.binOp .geq t x y t2) ty (.bool (decide (n ≤ m))) := fun e _ _ _ _ w _ => by
  simp [execOp, hx e, hy e, eqGuard, binOp, Op.intCmp]
theorem e_eq {k : IntKind} (hx : OpV g f x (.int k m)) (hy : OpV g f y (.int k n)) : EvG g c w0 L f (.binOp .eql t x y t2) ty (.bool (decide (m = n))) := fun e _ _ _ _ w _ => by
  simp [execOp, hx e, hy e, eqGuard, binOp, Op.intCmp]
  rfl
theorem e_ne {k : IntKind} (hx : OpV g f x (.int k m)) (hy : OpV g f y (.int k n)) : EvG g c w0 L f (.binOp .neq t x y t2) ty (.bool (!decide (m = n))) := fun e _ _ _ _ w _ => by
  simp [execOp, hx e, hy e, eqGuard, binOp, Op.intCmp]
  rfl
theorem e_add (hx : OpV g f x (.int .i64 m)) (hy : OpV g f y (.int .i64 n)) {r : Int} (hr : g = true → m + n = r ∧ -9223372036854775808 ≤ r ∧ r ≤ 9223372036854775807) : EvG g c w0 L f (.binOp .add t x y t2) ty (.int .i64 r) := fun e _ _ _ _ w _ => by
  obtain ⟨rfl, h1, h2⟩ := hr e
  simp [execOp, hx e, hy e, eqGuard, binOp, Op.intArith, IntWalk.i64_in _ ⟨h1, h2⟩]
theorem e_sub (hx : OpV g f x (.int .i64 m)) (hy : OpV g f y (.int .i64 n)) {r : Int} (hr : g = true → m - n = r ∧ -9223372036854775808 ≤ r ∧ r ≤ 9223372036854775807) : EvG g c w0 L f (.binOp .sub t x y t2) ty (.int .i64 r) := fun e _ _ _ _ w _ => by
  obtain ⟨rfl, h1, h2⟩ := hr e
  simp [execOp, hx e, hy e, eqGuard, binOp, Op.intArith, IntWalk.i64_in _ ⟨h1, h2⟩]
theorem e_mul (hx : OpV g f x (.int .i64 m)) (hy : OpV g f y (.int .i64 n)) {r : Int} (hr : g = true → m * n = r ∧ -9223372036854775808 ≤ r ∧ r ≤ 9223372036854775807) : EvG g c w0 L f (.binOp .mul t x y t2) ty (.int .i64 r) := fun e _ _ _ _ w _ => by
  obtain ⟨rfl, h1, h2⟩ := hr e
  simp [execOp, hx e, hy e, eqGuard, binOp, Op.intArith, IntWalk.i64_in _ ⟨h1, h2⟩]
theorem e_quo (hx : OpV g f x (.int .i64 m)) (hy : OpV g f y (.int .i64 n)) (hr : g = true → 0 ≤ m ∧ m ≤ 9223372036854775807 ∧ 0 < n) : EvG g c w0 L f (.binOp .quo t x y t2) ty (.int .i64 (m / n)) := fun e _ _ _ _ w _ => by
  obtain ⟨h1, h2, h3⟩ := hr e
  have hz : ¬ n = 0 := by omega
  have hq : m.tdiv n = m / n := Int.tdiv_eq_ediv_of_nonneg h1
  have h4 : 0 ≤ m / n := Int.ediv_nonneg h1 (by omega)
  have h5 : m / n ≤ m := Int.ediv_le_self _ h1
  simp [execOp, hx e, hy e, eqGuard, binOp, Op.intDiv, hz, hq, IntWalk.i64_in _ (show -9223372036854775808 ≤ m / n ∧ m / n ≤ 9223372036854775807 by omega)]
theorem e_rem (hx : OpV g f x (.int .i64 m)) (hy : OpV g f y (.int .i64 n)) (hr : g = true → 0 ≤ m ∧ 0 < n) : EvG g c w0 L f (.binOp .rem t x y t2) ty (.int .i64 (m % n)) := fun e _ _ _ _ w _ => by
  obtain ⟨h1, h3⟩ := hr e
  have hz : ¬ n = 0 := by omega
  simp [execOp, hx e, hy e, eqGuard, binOp, Op.intDiv, hz, Int.tmod_eq_emod_of_nonneg h1]
end
theorem e_eqb {a b : Bool} {t t2 : TypeId} (ht : c.P.underlying t = some .bool) (hx : OpV g f x (.bool a)) (hy : OpV g f y (.bool b)) : EvG g c w0 L f (.binOp .eql t x y t2) ty (.bool (a == b)) := fun e _ _ _ _ w _ => by
  simp [execOp, hx e, hy e, eqGuard, binOp, run_equal_bool (w := w) t a b ht, Result.andThen]
theorem e_neb {a b : Bool} {t t2 : TypeId} (ht : c.P.underlying t = some .bool) (hx : OpV g f x (.bool a)) (hy : OpV g f y (.bool b)) : EvG g c w0 L f (.binOp .neq t x y t2) ty (.bool (!(a == b))) := fun e _ _ _ _ w _ => by
  simp [execOp, hx e, hy e, eqGuard, binOp, run_equal_bool (w := w) t a b ht, Result.andThen]
theorem e_not {t : TypeId} {b : Bool} (hx : OpV g f x (.bool b)) : EvG g c w0 L f (.unOp .not t x) ty (.bool (!b)) := fun e _ _ _ _ w _ => by simp [execOp, hx e, Op.unary]

/-! addresses and loads -/
theorem addr_add (b o k : Nat) : (⟨b, o, none⟩ : Addr).add k = ⟨b, o + k, none⟩ := by
  unfold Addr.add; split
  · rename_i h; subst h; rfl
  · rfl
theorem e_fld {t : TypeId} {i b o sz : Nat} {fs : Array Field} {fl : Field} (ht : c.P.underlying t = some (.struct fs)) (hf : fs[i]? = some fl) (hs : ∀ w, (sizeOf fl.type).run c.P w = .ok sz w) (hz : Nat.blt 0 sz = true) (hx : OpV g f x (.pointer (some ⟨b, o, none⟩))) :
    EvG g c w0 L f (.fieldAddr t x i) ty (.pointer (some ⟨b, o + fl.offset, none⟩)) := fun e _ _ _ _ w _ => by
  have hne : sz ≠ 0 := by have := (Nat.blt_eq ▸ hz : 0 < sz); omega
  simp [execOp, hx e, Instr.fieldAt, run_underlying ht, hf, Instr.sureAddr, fieldPlace, hs, hne, addr_add, Result.andThen]
theorem e_ld {t : TypeId} {p : Addr} (ht : ∀ w, (isAgg t).run c.P w = .ok false w) (hx : OpV g f x (.pointer (some p))) (hc : g = true → ∀ w, Mem w0 L w → w.cell? p = some v) : EvG g c w0 L f (.load t x) ty v := fun e _ _ _ _ w hw => by
  simp [execOp, hx e, Instr.loadAt, Instr.sureAddr, loadVar, ht, Result.andThen, load, Sem.run, hc e w hw]
theorem run_loadCellsFrom {P : Program} {w : World} {b o : Nat} : ∀ (n i : Nat) (acc : Array Value) (vs : List Value), vs.length = n → (∀ j u, vs[j]? = some u → w.cell? ⟨b, o + (i + j), none⟩ = some u) →
    (loadCellsFrom ⟨b, o, none⟩ i n acc).run P w = .ok (acc ++ vs.toArray) w
  | 0, i, acc, vs, hl, _ => by
    have : vs = [] := List.eq_nil_of_length_eq_zero hl
    subst this
    simp [loadCellsFrom]
  | n + 1, i, acc, vs, hl, hc => by
    cases vs with
    | nil => simp at hl
    | cons u vs =>
      have h0 := hc 0 u rfl
      simp only [Nat.add_zero] at h0
      have ih := run_loadCellsFrom (P := P) (w := w) (b := b) (o := o) n (i + 1) (acc.push u) vs (by simpa using hl) (fun j x hx => by
        have := hc (j + 1) x (by simpa using hx)
        rwa [show i + (j + 1) = i + 1 + j by omega] at this)
      simp [loadCellsFrom, load, addr_add, Sem.run, h0, Result.andThen, ih]
theorem e_lds {t : TypeId} {b o n : Nat} {vs : List Value} (ht : ∀ w, (isAgg t).run c.P w = .ok true w) (hs : ∀ w, (sizeOf t).run c.P w = .ok n w) (hx : OpV g f x (.pointer (some ⟨b, o, none⟩)))
    (hc : g = true → ∀ w, Mem w0 L w → ∀ j u, vs[j]? = some u → w.cell? ⟨b, o + j, none⟩ = some u) (hl : vs.length = n) : EvG g c w0 L f (.load t x) ty (.agg vs.toArray) := fun e _ _ _ _ w hw => by
  have := run_loadCellsFrom (P := c.P) (w := w) (b := b) (o := o) n 0 #[] vs hl (fun j u hu => by rw [Nat.zero_add]; exact hc e w hw j u hu)
  simp [execOp, hx e, Instr.loadAt, Instr.sureAddr, loadVar, ht, hs, Result.andThen, loadCells, this]
theorem e_idx {t el : TypeId} {b o n cp sz : Nat} {m : Int} (j : Nat) (ht : c.P.underlying t = some (.slice el)) (hs : ∀ w, (sizeOf el).run c.P w = .ok sz w) (hx : OpV g f x (.slice (some ⟨b, o, none⟩) n cp)) (hy : OpV g f y (.int .i64 m)) (hm : g = true → m = (j : Int) ∧ j < n) :
    EvG g c w0 L f (.indexAddr t x y) ty (.pointer (some ⟨b, o + j * sz, none⟩)) := fun e _ _ _ _ w _ => by
  obtain ⟨rfl, hj⟩ := hm e
  have h1 : (0 : Int) ≤ (j : Int) ∧ (j : Int) < (n : Int) := by omega
  simp [execOp, hx e, hy e, Instr.indexAt, asIntOf, run_underlying ht, hs, Result.andThen, addr_add, hj]
theorem e_len {t el : TypeId} {A : Option Addr} {n cp : Nat} (ht : c.P.underlying t = some (.slice el)) (hx : OpV g f x (.slice A n cp)) : EvG g c w0 L f (.call { callee := .builtin .len, args := #[x], argTypes := #[t] }) ty (.int .i64 n) := fun e _ _ _ _ w _ => by
  simp [execOp, resolve, invoke, builtin, hx e, Builtin.len_, run_underlying ht, Result.andThen, goInt]
theorem e_min {t1 t2 : TypeId} {m n : Int} (hx : OpV g f x (.int .i64 m)) (hy : OpV g f y (.int .i64 n)) : EvG g c w0 L f (.call { callee := .builtin .min, args := #[x, y], argTypes := #[t1, t2] }) ty (.int .i64 (if n < m then n else m)) := fun e _ _ _ _ w _ => by
  simp [execOp, resolve, invoke, builtin, hx e, hy e, Builtin.min_, Builtin.min2]
theorem e_max {t1 t2 : TypeId} {m n : Int} (hx : OpV g f x (.int .i64 m)) (hy : OpV g f y (.int .i64 n)) : EvG g c w0 L f (.call { callee := .builtin .max, args := #[x, y], argTypes := #[t1, t2] }) ty (.int .i64 (if m < n then n else m)) := fun e _ _ _ _ w _ => by
  simp [execOp, resolve, invoke, builtin, hx e, hy e, Builtin.max_, Builtin.max2]
theorem e_ext {i : Nat} {vs : Array Value} (hx : OpV g f x (.tuple vs)) (hi : vs[i]? = some v) : EvG g c w0 L f (.extract x i) ty v := fun e _ _ _ _ w _ => by simp [execOp, hx e, Instr.extract, hi]
theorem map_ev (ao : Array Operand) : ao.map (ev f) = (ao.toList.map (ev f)).toArray := by rw [← List.map_toArray]
theorem e_fn {k : FuncId} {ao : Array Operand} : EvG g c w0 L f (.makeFunc (.func k) #[] ao) ty (.func (.func k) #[] (ao.toList.map (ev f)).toArray) := fun _ _ _ _ _ w _ => by simp [execOp, Instr.makeFunc, map_ev]

/-! cells: of a box, of old memory -/
theorem bx (k : Nat) {b i : Nat} {t : TypeId} {cs : List Value} (hk : L[k]? = some (box b t cs)) (hi : cs[i]? = some v) : g = true → ∀ w, Mem w0 L w → w.cell? ⟨b, i, none⟩ = some v := fun _ _ hw => box_cell hw hk hi
theorem xc {p : Addr} (h : w0.cell? p = some v) (hb : p.block < w0.heap.size) : g = true → ∀ w, Mem w0 L w → w.cell? p = some v := fun _ _ hw => (hw.1.cell hb).trans h
theorem bxs (k : Nat) {b : Nat} {t : TypeId} {cs : List Value} (hk : L[k]? = some (box b t cs)) : g = true → ∀ w, Mem w0 L w → ∀ j u, cs[j]? = some u → w.cell? ⟨b, 0 + j, none⟩ = some u := fun _ _ hw j u hu => by rw [Nat.zero_add]; exact box_cell hw hk hu

theorem rc {b o j : Nat} {cs : List Value} (h : RowAt w0 b o cs) (hb : b < w0.heap.size) (hj : cs[j]? = some v) : g = true → ∀ w, Mem w0 L w → w.cell? ⟨b, o + j, none⟩ = some v := xc (h j v hj) hb
theorem rc0 {b o : Nat} {cs : List Value} (h : RowAt w0 b o cs) (hb : b < w0.heap.size) (hj : cs[0]? = some v) : g = true → ∀ w, Mem w0 L w → w.cell? ⟨b, o, none⟩ = some v := xc (h 0 v hj) hb
theorem rcs {b o : Nat} {cs : List Value} (h : RowAt w0 b o cs) (hb : b < w0.heap.size) : g = true → ∀ w, Mem w0 L w → ∀ j u, cs[j]? = some u → w.cell? ⟨b, o + j, none⟩ = some u := fun _ _ hw j u hu => (hw.1.cell (p := ⟨b, o + j, none⟩) hb).trans (h j u hu)
theorem q0 {x : Operand} (h : ev f x = v) : OpV g f x v := opv0 h
theorem q1 {x : Operand} (h : ev f x = gv g v) : OpV g f x v := opv1 h
theorem q2 {h' : Bool} {x : Operand} (h : ev f x = gv g v) : OpV (g && h') f x v := opv2 h

/-! calls -/
theorem ha1 {x1 : Operand} {v1 : Value} (h1 : OpV g f x1 v1) : g = true → (#[x1] : Array Operand).toList.map (ev f) = [v1] := fun e => by simp [h1 e]
theorem ha2 {x1 x2 : Operand} {v1 v2 : Value} (h1 : OpV g f x1 v1) (h2 : OpV g f x2 v2) : g = true → (#[x1, x2] : Array Operand).toList.map (ev f) = [v1, v2] := fun e => by simp [h1 e, h2 e]
theorem ha3 {x1 x2 x3 : Operand} {v1 v2 v3 : Value} (h1 : OpV g f x1 v1) (h2 : OpV g f x2 v2) (h3 : OpV g f x3 v3) : g = true → (#[x1, x2, x3] : Array Operand).toList.map (ev f) = [v1, v2, v3] := fun e => by simp [h1 e, h2 e, h3 e]
theorem ha4 {x1 x2 x3 x4 : Operand} {v1 v2 v3 v4 : Value} (h1 : OpV g f x1 v1) (h2 : OpV g f x2 v2) (h3 : OpV g f x3 v3) (h4 : OpV g f x4 v4) : g = true → (#[x1, x2, x3, x4] : Array Operand).toList.map (ev f) = [v1, v2, v3, v4] := fun e => by simp [h1 e, h2 e, h3 e, h4 e]
theorem ha0 : g = true → (#[] : Array Operand).toList.map (ev f) = [] := fun _ => rfl
theorem en {k : FuncId} {ao : Array Operand} {ts : Array TypeId} {al : List Value} (he : ∀ args w, (callFunc k args).run c.P w = .ok (.enter k args) w) (ha : g = true → ao.toList.map (ev f) = al) :
    EnterG g c w0 L f (.call { callee := .value (.func k), args := ao, argTypes := ts }) ty k al.toArray := fun e _ _ _ _ w _ => by
  have ha := ha e
  have ha : ao.map (ev f) = al.toArray := by rw [map_ev, ha]
  simp [execOp, resolve, ev_func, Deferred.ofValue, invoke, ha, he]
theorem enV {k : FuncId} {ao : Array Operand} {ts : Array TypeId} {al : List Value} {cap : List Value} {t : Nat} (he : ∀ args w, (callFunc k args).run c.P w = .ok (.enter k args) w) (ht : OpV g f (.tmp t) (.func (.func k) #[] cap.toArray)) (ha : g = true → ao.toList.map (ev f) ++ cap = al) :
    EnterG g c w0 L f (.call { callee := .value (.tmp t), args := ao, argTypes := ts }) ty k al.toArray := fun e _ _ _ _ w _ => by
  have ha : ao.map (ev f) ++ cap.toArray = al.toArray := by rw [map_ev, ← ha e]; simp
  simp [execOp, resolve, ht e, Deferred.ofValue, invoke, ha, he]
end

/-! ### operations that turn the memory -/
section
variable {c : Cx} {PQ : PJ} {w0 : World} {L : List Item} {f : Fr} {ops rest : List Oper} {d : Nat} {ty : TypeId} {pos : String} {af : Array Edge} {x y : Operand}

theorem X_box {t : TypeId} {v : Value} (hx : ev f x = v) (hd : Nat.blt d c.N = true) (next : ∀ b, XL false c ops rest PQ w0 (box b t v.cells.toList :: L) (upd f d (.pointer (some ⟨b, 0, none⟩)))) :
    XL false c ops (⟨some d, .box t x, ty, pos, af, none⟩ :: rest) PQ w0 L f :=
  HL_eff rfl hd fun w hw => ⟨.pointer (some ⟨w.heap.size, 0, none⟩), w.alloc (.cells v.cells t), box w.heap.size t v.cells.toList :: L, by simp [execOp, hx, Instr.box, newVar, newRow, Result.andThen], by simpa using hw.newBox t v.cells.toList, rfl, next _⟩
theorem X_alloc {t : TypeId} {v : Value} (hz : ∀ w, (zeroValue t).run c.P w = .ok v w) (hd : Nat.blt d c.N = true) (next : ∀ b, XL false c ops rest PQ w0 (box b t v.cells.toList :: L) (upd f d (.pointer (some ⟨b, 0, none⟩)))) :
    XL false c ops (⟨some d, .alloc t, ty, pos, af, none⟩ :: rest) PQ w0 L f :=
  HL_eff rfl hd fun w hw => ⟨.pointer (some ⟨w.heap.size, 0, none⟩), w.alloc (.cells v.cells t), box w.heap.size t v.cells.toList :: L, by simp [execOp, hz, Instr.alloc, newVar, newRow, Result.andThen], by simpa using hw.newBox t v.cells.toList, rfl, next _⟩

def setAt : List Value → Nat → List Value → List Value
  | cs, _, [] => cs
  | cs, i, v :: r => setAt (cs.set i v) (i + 1) r
def oneCell : Value → Bool
  | .agg _ => false
  | .tuple _ => false
  | _ => true
theorem run_storeCells {P : Program} {w0 : World} {b o k : Nat} {t : TypeId} : ∀ (vs : List Value) (i : Nat) (cs : List Value) (w : World) (L : List Item), Mem w0 L w → L[k]? = some (box b t cs) → vs.all oneCell = true → o + i + vs.length ≤ cs.length →
    ∃ w', (storeCells ⟨b, o, none⟩ vs i).run P w = .ok () w' ∧ Mem w0 (L.set k (box b t (setAt cs (o + i) vs))) w'
  | [], i, cs, w, L, hw, hk, _, _ => ⟨w, by simp [storeCells], by
    have hi : L.set k (box b t cs) = L := by
      obtain ⟨h1, h2⟩ := List.getElem?_eq_some_iff.1 hk
      rw [← h2]; exact List.set_getElem_self h1
    show Mem w0 (L.set k (box b t cs)) w
    rw [hi]; exact hw⟩
  | v :: r, i, cs, w, L, hw, hk, h1, hl => by
    simp only [List.all_cons, Bool.and_eq_true] at h1
    simp only [List.length_cons] at hl
    have hlt : o + i < cs.length := by omega
    have hc : w.cell? ⟨b, o + i, none⟩ = some cs[o + i] := box_cell hw hk (List.getElem?_eq_getElem hlt)
    have hf : w.frozen? ⟨b, o + i, none⟩ = false := box_free hw hk _
    have hw1 := box_set hw hk (o + i) v
    have hk1 : (L.set k (box b t (cs.set (o + i) v)))[k]? = some (box b t (cs.set (o + i) v)) := by
      obtain ⟨h1, _⟩ := List.getElem?_eq_some_iff.1 hk
      simp [h1]
    obtain ⟨w', hr, hm⟩ := run_storeCells (P := P) (o := o) r (i + 1) (cs.set (o + i) v) (w.setCell ⟨b, o + i, none⟩ v) _ hw1 hk1 h1.2 (by simp; omega)
    refine ⟨w', ?_, ?_⟩
    · have hst : (store ⟨b, o + i, none⟩ v).run P w = .ok () (w.setCell ⟨b, o + i, none⟩ v) := by
        have h2 := h1.1
        cases v <;> simp [oneCell] at h2 <;> simp [store, Sem.run, hc, hf]
      simp [storeCells, addr_add, hst, Result.andThen, hr]
    · rw [List.set_set] at hm
      exact hm
theorem X_store (k : Nat) {t tb : TypeId} {v : Value} {b o n : Nat} {cs : List Value} (hx : ev f x = .pointer (some ⟨b, o, none⟩)) (hy : ev f y = v) (hs : ∀ w, (sizeOf t).run c.P w = .ok n w) (hn : v.cells.size = n) (h1 : v.cells.toList.all oneCell = true)
    (hk : L[k]? = some (box b tb cs)) (hl : Nat.ble (o + v.cells.toList.length) cs.length = true) (next : XL false c ops rest PQ w0 (L.set k (box b tb (setAt cs o v.cells.toList))) f) :
    XL false c ops (⟨none, .store t x y, ty, pos, af, none⟩ :: rest) PQ w0 L f :=
  HL_do rfl fun w hw => by
    obtain ⟨w', hr, hm⟩ := run_storeCells (P := c.P) (o := o) v.cells.toList 0 cs w L hw hk h1 (Nat.le_of_ble_eq_true hl)
    exact ⟨w', _, by simp [execOp, hx, hy, Instr.storeAt, Instr.sureAddr, storeVar, hs, hn, hr, Result.andThen], hm, marks_set hk rfl, next⟩
end

end Go.Proofs.E
