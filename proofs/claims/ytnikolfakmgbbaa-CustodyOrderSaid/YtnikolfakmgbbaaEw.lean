/-
  Equality of structs, field by field; steps whose guard is known to hold.
-/
import Derived.Test.YtnikolfakmgbbaaEv
namespace Go.Proofs.E
open Go Go.RowKit

theorem run_part_one {P : Program} {t : TypeId} {cs : List Value} {k : Nat} {x : Value} (w : World) (ha : ∀ w, (isAgg t).run P w = .ok false w) (hx : cs[k]? = some x) : (part t cs.toArray k).run P w = .ok x w := by
  simp [part, ha, hx, Result.andThen]
theorem run_part_agg {P : Program} {t : TypeId} {cs : List Value} {k n : Nat} {vs : List Value} (w : World) (ha : ∀ w, (isAgg t).run P w = .ok true w) (hs : ∀ w, (sizeOf t).run P w = .ok n w) (hv : (cs.drop k).take n = vs) : (part t cs.toArray k).run P w = .ok (.agg vs.toArray) w := by
  subst hv
  simp [part, ha, hs, Result.andThen]
theorem eqF_nil {P : Program} {d : Nat} {xs ys : Array Value} (w : World) : (Op.eqFields (d + 1) xs ys []).run P w = .ok true w := by simp [Op.eqFields]
theorem eqF_cons {P : Program} {d : Nat} {xs ys : Array Value} {f : Field} {fs : List Field} {vx vy : Value} {b r : Bool} (w : World) (h1 : f.name ≠ "_") (hx : (part f.type xs f.offset).run P w = .ok vx w) (hy : (part f.type ys f.offset).run P w = .ok vy w) (he : (Op.equalIn (d + 1) f.type vx vy).run P w = .ok b w)
    (ih : (Op.eqFields (d + 1) xs ys fs).run P w = .ok r w) : (Op.eqFields (d + 1) xs ys (f :: fs)).run P w = .ok (b && r) w := by
  simp only [Op.eqFields, h1, ne_eq, not_false_eq_true, if_true, Sem.run_bind, hx, hy, Result.andThen_ok, he, Sem.run_ite]
  cases b with
  | false => rfl
  | true => rw [if_neg (by decide), ih]; rfl
theorem eqS_of {P : Program} {d : Nat} {t : TypeId} {fs : Array Field} {xs ys : Array Value} {r : Bool} (w : World) (ht : P.underlying t = some (.struct fs)) (hp : P.stoodInHeld t = false) (h : (Op.eqFields (d + 1) xs ys fs.toList).run P w = .ok r w) : (Op.equalIn (d + 2) t (.agg xs) (.agg ys)).run P w = .ok r w := by
  have e : P.fieldsOf t = fs := by unfold Program.fieldsOf; rw [ht]
  rw [run_equalIn_struct w (d + 1) t _ _ (by rw [e]; exact ht) hp, e]
  exact h

section
variable {c : Cx} {PQ : PJ} {w0 : World} {L : List Item} {f : Fr} {ops rest : List Oper} {d : Nat} {ty : TypeId} {pos : String} {af : Array Edge} {g : Bool} {v : Value} {dr : Bool}
theorem EvG.any {op : Op} (h : EvG true c w0 L f op ty v) : EvG g c w0 L f op ty v := fun _ => h rfl
/-- a guard that is known to hold -/
theorem xVk {op : Op} {gu : Option (Nat × Bool)} (hg : Gd f gu (ops.map (·.dst)) true) (hev : EvG true c w0 L f op ty v) (hnd : isDefer op = false) (hd : Nat.blt d c.N = true) (next : XL dr c ops rest PQ w0 L (upd f d v)) : XL dr c ops (⟨some d, op, ty, pos, af, gu⟩ :: rest) PQ w0 L f :=
  XV hg hnd hev hd (by rw [gv_true]; exact next)
theorem xCk {op : Op} {k : FuncId} {args : Array Value} {gu : Option (Nat × Bool)} (hg : Gd f gu (ops.map (·.dst)) true) (hen : EnterG true c w0 L f op ty k args) (hc : true = true → ∀ w, Mem w0 L w → Calls c.P k args w fun e w' => e = .returned v ∧ Bel w w') (hnd : isDefer op = false) (hd : Nat.blt d c.N = true) (next : XL dr c ops rest PQ w0 L (upd f d v)) : XL dr c ops (⟨some d, op, ty, pos, af, gu⟩ :: rest) PQ w0 L f :=
  XC hg hnd hen hd hc (by rw [gv_true]; exact next)
theorem gdT {j e : Nat} {dsts : List (Option Nat)} {b : Bool} (hb : b = true) (hj : dsts[j]? = some (some e)) (hx : f e = .bool b) : Gd f (some (j, true)) dsts true := hb ▸ Gd_true hj hx
theorem gdF {j e : Nat} {dsts : List (Option Nat)} {b : Bool} (hb : b = false) (hj : dsts[j]? = some (some e)) (hx : f e = .bool b) : Gd f (some (j, false)) dsts true := by
  have := Gd_false hj hx
  rw [hb] at this; exact this
theorem HL_effG {op : Op} {gu : Option (Nat × Bool)} (hg : Gd f gu (ops.map (·.dst)) true) (hnd : isDefer op = false) (hd : Nat.blt d c.N = true)
    (hev : ∀ w, Mem w0 L w → ∃ v w' L', (execOp (ev f) ⟨some d, op, ty, pos, af, gu⟩).run c.P w = .ok (.value v) w' ∧ Mem w0 L' w' ∧ marks L' = marks L ∧ HL c ops rest PQ w0 L' (upd f d v)) :
    HL c ops (⟨some d, op, ty, pos, af, gu⟩ :: rest) PQ w0 L f := by
  intro a w ha hw
  obtain ⟨v, w', L', hrun, hm, hk, hn⟩ := hev w hw
  show if _ then _ else _
  rw [wanted_fr ha]
  show if gd f gu _ = true then _ else _
  rw [show gd f gu (ops.map (·.dst)) = true from hg, if_pos rfl]
  refine ⟨fun _ _ => trivial, ?_⟩
  rw [Oper.semAt_eq _ _ _ (not_defer hnd), ha.eval, hrun]
  exact hn _ _ (hk ▸ ha.put hd v) hm
theorem X_slitG {t el : TypeId} {gu : Option (Nat × Bool)} {len size : Nat} {parts : List (Nat × Operand)} {vs : List (Nat × Value)} {z : Value} (hg : Gd f gu (ops.map (·.dst)) true) (zs : List Value) (ht : c.P.underlying t = some (.slice el)) (hs : ∀ w, (sizeOf el).run c.P w = .ok size w) (hz : ∀ w, (zeroValue el).run c.P w = .ok z w)
    (hlen : (Nat.ble (len * size) 16777216 && !Nat.beq (len * size) 0) = true) (hzr : (Array.range (len * size)).map (z.cells[· % z.cells.size]!) = zs.toArray) (hp : Parts f parts vs) (hok : bldOk (rowPl size len) zs.length vs = true) (hd : Nat.blt d c.N = true)
    (next : ∀ b, XL false c ops rest PQ w0 (box b el (bld (rowPl size len) zs vs) :: L) (upd f d (.slice (some ⟨b, 0, none⟩) len len))) : XL false c ops (⟨some d, .buildSlice t len parts.toArray, ty, pos, af, gu⟩ :: rest) PQ w0 L f :=
  HL_effG hg rfl hd fun w hw => ⟨.slice (some ⟨w.heap.size, 0, none⟩) len len, w.alloc (.cells (bld (rowPl size len) zs vs).toArray el), box w.heap.size el (bld (rowPl size len) zs vs) :: L, by
    rw [Bool.and_eq_true] at hlen
    have h2 : ¬ len * size > 2 ^ 24 := by have := Nat.le_of_ble_eq_true hlen.1; omega
    have h0 : ¬ len * size = 0 := by
      intro h
      rw [h] at hlen
      cases hlen.2
    have h3 := fill_bld (rowPl size len) (fun i => some (i * size, size)) (fun i q h => rowPl_at h) vs zs.toArray (by simpa using hok)
    simp [execOp, Instr.buildSlice, run_underlying ht, hs, hz, h2, h0, hp.map, hzr, h3, newRow, Result.andThen], hw.newBox el _, rfl, next _⟩
end

theorem e_cvt {c : Cx} {w0 : World} {L : List Item} {f : Fr} {ty src dst : TypeId} {g : Bool} {x : Operand} {k q : IntKind} {m : Int} (hs : c.P.underlying src = some (.int k)) (hd : c.P.underlying dst = some (.int .i64)) (hx : OpV g f x (.int q m)) (hm : g = true → -9223372036854775808 ≤ m ∧ m ≤ 9223372036854775807) : EvG g c w0 L f (.convert src dst x) ty (.int .i64 m) := fun e _ _ _ _ w _ => by
  simp [execOp, hx e, convert, run_underlying hs, run_underlying hd, Conv.intToInt, IntWalk.i64_in _ (hm e), Result.andThen]

end Go.Proofs.E
