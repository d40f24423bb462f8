/-
  More operations: division of whatever sign; nil checks; places in arrays.
-/
import Derived.Test.YtnikolfakmgbbaaEo
import Derived.Laws.StructEq
namespace Go.Proofs.E
open Go Go.RowKit

section
variable {c : Cx} {w0 : World} {L : List Item} {f : Fr} {ty t t2 : TypeId} {g : Bool} {x y : Operand} {m n : Int}
theorem e_quoT (hx : OpV g f x (.int .i64 m)) (hy : OpV g f y (.int .i64 n)) (hr : g = true → -9223372036854775808 ≤ m ∧ m ≤ 9223372036854775807 ∧ 0 < n) : EvG g c w0 L f (.binOp .quo t x y t2) ty (.int .i64 (m.tdiv n)) := fun e _ _ _ _ w _ => by
  obtain ⟨h1, h2, h3⟩ := hr e
  have hz : ¬ n = 0 := by omega
  have hb : -9223372036854775808 ≤ m.tdiv n ∧ m.tdiv n ≤ 9223372036854775807 := by
    rcases Int.le_total 0 m with h | h
    · have h4 : 0 ≤ m.tdiv n := Int.tdiv_nonneg h (by omega)
      have h5 : m.tdiv n ≤ m := Int.tdiv_le_self _ h
      omega
    · have h4 : (-m).tdiv n = -(m.tdiv n) := Int.neg_tdiv _ _
      have h5 : 0 ≤ (-m).tdiv n := Int.tdiv_nonneg (by omega) (by omega)
      have h6 : (-m).tdiv n ≤ -m := Int.tdiv_le_self _ (by omega)
      omega
  simp [execOp, hx e, hy e, eqGuard, binOp, Op.intDiv, hz, IntWalk.i64_in _ hb]
theorem e_remT (hx : OpV g f x (.int .i64 m)) (hy : OpV g f y (.int .i64 n)) (hr : g = true → 0 < n) : EvG g c w0 L f (.binOp .rem t x y t2) ty (.int .i64 (m.tmod n)) := fun e _ _ _ _ w _ => by
  have hz : ¬ n = 0 := by have := hr e; omega
  simp [execOp, hx e, hy e, eqGuard, binOp, Op.intDiv, hz]
theorem e_nilc {a : Addr} (hx : OpV g f x (.pointer (some a))) : EvG g c w0 L f (.nilCheck x) ty (.pointer (some a)) := fun e _ _ _ _ w _ => by
  simp [execOp, hx e]
theorem e_idxA {el : TypeId} {b o sz len : Nat} (j : Nat) (ht : c.P.underlying t = some (.array len el)) (hs : ∀ w, (sizeOf el).run c.P w = .ok sz w) (hx : OpV g f x (.pointer (some ⟨b, o, none⟩))) (hy : OpV g f y (.int .i64 m)) (hm : g = true → m = (j : Int) ∧ j < len) :
    EvG g c w0 L f (.indexAddr t x y) ty (.pointer (some ⟨b, o + j * sz, none⟩)) := fun e _ _ _ _ w _ => by
  obtain ⟨rfl, hj⟩ := hm e
  simp [execOp, hx e, hy e, Instr.indexAt, asIntOf, run_underlying ht, hs, Result.andThen, addr_add, hj, Instr.sureAddr]
theorem e_dead {op : Op} {v : Value} (h : g = false) : EvG g c w0 L f op ty v := fun e => absurd e (by rw [h]; decide)
end

/-! equality of structs of integers -/
def intCells (l : List Int) : List Value := l.map (.int .i64)
theorem run_part_int {P : Program} {t : TypeId} {l : List Int} {k : Nat} {x : Int} (w : World) (ha : ∀ w, (isAgg t).run P w = .ok false w) (hx : l[k]? = some x) : (part t (intCells l).toArray k).run P w = .ok (.int .i64 x) w := by
  simp [part, ha, intCells, hx, Result.andThen]
/-- the fields are integers, one behind the other -/
def intFields (P : Program) : Nat → List Field → Prop
  | _, [] => True
  | k, f :: fs => f.name ≠ "_" ∧ f.offset = k ∧ (∀ w, (isAgg f.type).run P w = .ok false w) ∧ (∃ q, P.underlying f.type = some (.int q)) ∧ intFields P (k + 1) fs
theorem run_eqFields_ints {P : Program} (d : Nat) (w : World) (xs ys : List Int) (hl : xs.length = ys.length) : ∀ (fs : List Field) (k : Nat), intFields P k fs → k + fs.length = xs.length →
    (Op.eqFields (d + 1) (intCells xs).toArray (intCells ys).toArray fs).run P w = .ok (xs.drop k == ys.drop k) w
  | [], k, _, hk => by
    simp only [List.length_nil, Nat.add_zero] at hk
    rw [List.drop_of_length_le (by omega), List.drop_of_length_le (by omega)]
    simp [Op.eqFields]
  | f :: fs, k, ⟨h1, h2, h3, ⟨q, h4⟩, h5⟩, hk => by
    simp only [List.length_cons] at hk
    have kx : k < xs.length := by omega
    have ky : k < ys.length := by omega
    have ih := run_eqFields_ints d w xs ys hl fs (k + 1) h5 (by omega)
    have e : (xs.drop k == ys.drop k) = ((xs[k] == ys[k]) && (xs.drop (k + 1) == ys.drop (k + 1))) := by
      rw [List.drop_eq_getElem_cons kx, List.drop_eq_getElem_cons ky]; rfl
    rw [e]
    simp only [Op.eqFields, h1, ne_eq, not_false_eq_true, if_true, h2, Sem.run_bind, run_part_int w h3 (List.getElem?_eq_getElem kx), run_part_int w h3 (List.getElem?_eq_getElem ky), Result.andThen_ok, run_equalIn_int w d f.type .i64 q _ _ h4, Sem.run_ite]
    cases hb : (xs[k] == ys[k]) with
    | false => rfl
    | true => rw [if_neg (by decide), ih]; rfl
theorem run_equal_ints {P : Program} {t : TypeId} {fs : Array Field} (w : World) (xs ys : List Int) (hl : xs.length = ys.length) (ht : P.underlying t = some (.struct fs)) (hp : P.stoodInHeld t = false) (hf : intFields P 0 fs.toList) (hn : fs.toList.length = xs.length) :
    (Op.equal t (.agg (intCells xs).toArray) (.agg (intCells ys).toArray)).run P w = .ok (xs == ys) w := by
  have h := run_eqFields_ints (P := P) 9998 w xs ys hl fs.toList 0 hf (by omega)
  have e : P.fieldsOf t = fs := by unfold Program.fieldsOf; rw [ht]
  show (Op.equalIn 10000 t _ _).run P w = _
  rw [show (10000 : Nat) = 9999 + 1 from rfl, run_equalIn_struct w 9999 t _ _ (by rw [e]; exact ht) hp, e]
  exact h
section
variable {c : Cx} {w0 : World} {L : List Item} {f : Fr} {ty t t2 : TypeId} {g : Bool} {x y : Operand}
theorem e_eqS {xs ys : Array Value} {b : Bool} (heq : ∀ w, (Op.equal t (.agg xs) (.agg ys)).run c.P w = .ok b w) (hgd : c.P.eqGuardType c.P.depth t = false) (hx : OpV g f x (.agg xs)) (hy : OpV g f y (.agg ys)) : EvG g c w0 L f (.binOp .eql t x y t2) ty (.bool b) := fun e _ _ _ _ w _ => by
  simp [execOp, hx e, hy e, eqGuard, binOp, heq, hgd, Result.andThen]
theorem e_neS {xs ys : Array Value} {b : Bool} (heq : ∀ w, (Op.equal t (.agg xs) (.agg ys)).run c.P w = .ok b w) (hgd : c.P.eqGuardType c.P.depth t = false) (hx : OpV g f x (.agg xs)) (hy : OpV g f y (.agg ys)) : EvG g c w0 L f (.binOp .neq t x y t2) ty (.bool (!b)) := fun e _ _ _ _ w _ => by
  simp [execOp, hx e, hy e, eqGuard, binOp, heq, hgd, Result.andThen]
end

end Go.Proofs.E
