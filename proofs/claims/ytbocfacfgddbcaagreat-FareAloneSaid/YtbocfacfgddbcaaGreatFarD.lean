import Derived.Test.YtbocfacfgddbcaaGreatFarEb
import Derived.Test.YtbocfacfgddbcaaGreatFarC
import Derived.Test.YtbocfacfgddbcaaGreatFarB
import Derived.KernelRfl
import Derived.Shelf.SlSortCmp.NoneTotal
import Derived.Ground.SlsfProg
import Derived.Test.YtbocfacfgddbcaaGreatFarA
import Derived.WideKeyRuns
import Derived.ChangeKeysEq
set_option linter.unusedVariables false
set_option linter.unusedSimpArgs false
/-
  The walks: copy of whole rows; comparing numbers; windows valid; a function value with what it bears.
-/
namespace Go.Proofs.Far
open Go Go.RowKit Go.Proofs.E Go.Proofs.Cus

section
variable {α : Type} {e t t2 : TypeId} {k : Nat} {enc : α → List Value} {c : Cx} {w0 : World} {L : List E.Item} {f : Fr} {K : List E.Item → Fr → Prop} {d : Nat} {ty : TypeId} {pos : String} {af : Array Edge} {x y : Operand} {g : Bool}
theorem setAt_all : ∀ (vs P C : List Value), vs.length = C.length → setAt (P ++ C) P.length vs = P ++ vs
  | [], P, C, h => by
    have : C = [] := List.eq_nil_of_length_eq_zero h.symm
    subst this; rfl
  | v :: vs, P, [], h => by cases h
  | v :: vs, P, u :: C, h => by
    unfold setAt
    have h1 : (P ++ u :: C).set P.length v = (P ++ [v]) ++ C := by simp
    have h2 : P.length + 1 = (P ++ [v]).length := by simp
    rw [h1, h2, setAt_all vs (P ++ [v]) C (by simpa using h)]
    simp
/-- copy(dst, src): dst is a whole row of the call's own, src is as long -/
theorem f_copy (j : Nat) {b n m cB : Nat} {B : Option Addr} {i : TypeInfo} {xs ys : List α} (ht : c.P.underlying t = some (.slice e)) (hi : c.P.info? e = some i) (hsize : i.size = k)
    (he : ∀ x, (enc x).length = k) (h1 : ∀ x, (enc x).all oneCell = true) (hx : ev f x = .slice (some ⟨b, 0, none⟩) n m) (hy : ev f y = .slice B n cB)
    (hk : L[j]? = some (rowT e k enc (some ⟨b, 0, none⟩) n xs)) (hm : n = m) (hxl : xs.length = n) (hr : ∀ w, Mem w0 L w → SlAt w k enc B n ys) (hd : Nat.blt d c.N = true)
    (next : K (L.set j (rowT e k enc (some ⟨b, 0, none⟩) n ys)) (upd f d (.int .i64 n))) :
    Eff c w0 L f ⟨some d, .call { callee := .builtin .copy, args := #[x, y], argTypes := #[t, t2] }, ty, pos, af, none⟩ K :=
  ⟨rfl, rfl, hd, fun w hw => by
    subst hm
    obtain ⟨cs, hc, hrow⟩ := rowT_open (hw.item hk)
    have hS := hr w hw
    have hyl : ys.length = n := hS.1
    have hvl : (ys.flatMap enc).length = cs.length := by rw [flat_len he, hyl, hrow.size]
    have hjL := List.getElem?_eq_some_iff.1 hk
    have hw1 : Mem w0 (L.set j (box b e cs)) w := hw.swap hk (fun z hz => by
      have : z = b := hz
      subst this; rfl) hc
    have hk1 : (L.set j (box b e cs))[j]? = some (box b e cs) := by simp [hjL.1]
    have ho : (ys.flatMap enc).all oneCell = true := by
      rw [List.all_eq_true]
      intro v hv
      obtain ⟨z, hz, hvz⟩ := List.mem_flatMap.1 hv
      exact List.all_eq_true.1 (h1 z) v hvz
    obtain ⟨w', hrun, hm', _, _⟩ := run_storeCells2 (P := c.P) (b := b) (t := e) (o := 0) (k := j) (ys.flatMap enc) 0 cs w _ hw1 hk1 ho (by omega)
    have hset : setAt cs (0 + 0) (ys.flatMap enc) = ys.flatMap enc := by
      have := setAt_all (ys.flatMap enc) [] cs hvl
      simpa using this
    rw [List.set_set, hset] at hm'
    have hk2 : (L.set j (box b e (ys.flatMap enc)))[j]? = some (box b e (ys.flatMap enc)) := by simp [hjL.1]
    have hm2 : Mem w0 (L.set j (rowT e k enc (some ⟨b, 0, none⟩) n ys)) w' := by
      have := hm'.swap hk2 (it' := rowT e k enc (some ⟨b, 0, none⟩) n ys) (fun z hz => by
        have : b = z := by simpa [rowT] using hz
        exact this.symm) (rowT_close he (hm'.item hk2) ⟨by omega, hrow.max, by rw [hvl, hrow.size], [], by simp⟩)
      rwa [List.set_set] at this
    have hload : (Builtin.firstCells i.size n (.slice B n cB)).run c.P w = .ok (ys.flatMap enc).toArray w := by
      cases B with
      | none =>
        have hn0 : n = 0 := by
          rcases Nat.eq_zero_or_pos n with h | h
          · exact h
          · obtain ⟨b', off, hb, _⟩ := hS.2.2 h; cases hb
        have : ys = [] := List.eq_nil_of_length_eq_zero (by omega)
        subst this
        rfl
      | some a =>
        have hcells : ∀ q v, (ys.flatMap enc)[q]? = some v → w.cell? (a.add q) = some v := by
          intro q v hq
          obtain ⟨i', z, r, hz, hv, hqr⟩ := flat_inv he ys q v hq
          have hn : 0 < n := by
            have := (List.getElem?_eq_some_iff.1 hz).1
            omega
          obtain ⟨b', off, hB, _, hcl⟩ := hS.2.2 hn
          cases hB
          rw [add_none rfl]
          have := hcl i' z hz r v hv
          rw [hqr]
          simpa [Nat.add_assoc] using this
        have hl := run_loadCells_list (P := c.P) w a (ys.flatMap enc) hcells
        rw [hvl, hrow.size, ← hsize] at hl
        exact hl
    have hex : (execOp (ev f) ⟨some d, .call { callee := .builtin .copy, args := #[x, y], argTypes := #[t, t2] }, ty, pos, af, none⟩).run c.P w = .ok (.value (.int .i64 n)) w' := by
      have hst : (storeCells ⟨b, 0, none⟩ (ys.flatMap enc) 0).run c.P w = .ok () w' := hrun
      simp [execOp, resolve, invoke, builtin, hx, hy, Builtin.copy_, run_underlying ht, Builtin.lenOf, sizeOf, typeInfo, hi, hload, hst, Result.andThen, goInt]
    rw [hex]
    exact ⟨_, hm2, marks_set hk rfl, next⟩⟩
theorem e_maxM {t1 t2 : TypeId} {m n : Int} (hx : OpV g f x (.int .i64 m)) (hy : OpV g f y (.int .i64 n)) : EvG g c w0 L f (.call { callee := .builtin .max, args := #[x, y], argTypes := #[t1, t2] }) ty (.int .i64 (max m n)) := by
  rw [show max m n = if m < n then n else m by omega]
  exact e_max hx hy
theorem e_minM {t1 t2 : TypeId} {m n : Int} (hx : OpV g f x (.int .i64 m)) (hy : OpV g f y (.int .i64 n)) : EvG g c w0 L f (.call { callee := .builtin .min, args := #[x, y], argTypes := #[t1, t2] }) ty (.int .i64 (min m n)) := fun e _ _ _ _ w _ => by
  have : (if n < m then n else m) = min m n := by omega
  simp [execOp, resolve, invoke, builtin, hx e, hy e, Builtin.min_, Builtin.min2, ← this]
/-- a method bound to its receiver -/
theorem e_fnB {k : FuncId} {fo : Operand} {v : Value} (hx : OpV g f fo v) : EvG g c w0 L f (.makeFunc (.func k) #[fo] #[]) ty (.func (.func k) #[v] #[]) := fun e _ _ _ _ w _ => by simp [execOp, Instr.makeFunc, hx e]
theorem enB {k : FuncId} {ao : Array Operand} {ts : Array TypeId} {al : List Value} {bd : List Value} {t : Nat} (he : ∀ args w, (callFunc k args).run c.P w = .ok (.enter k args) w) (ht : OpV g f (.tmp t) (.func (.func k) bd.toArray #[])) (ha : g = true → bd ++ ao.toList.map (ev f) = al) :
    EnterG g c w0 L f (.call { callee := .value (.tmp t), args := ao, argTypes := ts }) ty k al.toArray := fun e _ _ _ _ w _ => by
  have ha : bd.toArray ++ ao.map (ev f) = al.toArray := by rw [map_ev, ← ha e]; simp
  simp [execOp, resolve, ht e, Deferred.ofValue, invoke, ha, he]
end
def Wn.cells (x : Wn) : List Value := [.int .i64 x.lo, .int .i64 x.hi]
abbrev WnsAt (w : World) (A : Option Addr) (n : Nat) (xs : List Wn) : Prop := SlAt w 2 Wn.cells A n xs
abbrev wnRow (A : Option Addr) (c : Nat) (xs : List Wn) : E.Item := rowT 79 2 Wn.cells A c xs
def cmpI (a b : Int) : Int := if a < b then -1 else if b < a then 1 else 0
theorem cmpI_ltOf (a b : Int) : decide (cmpI a b < 0) = decide (a < b) := by
  unfold cmpI
  by_cases h : a < b
  · rw [if_pos h]; simp [h]
  · rw [if_neg h]
    by_cases h2 : b < a
    · rw [if_pos h2]; simp [h]
    · rw [if_neg h2]; simp [h]
def orI (l : List Int) : Int := (l.find? fun x => decide (x ≠ 0)).getD 0
theorem isNaN_w (n : Int) (w : World) : Calls Tryz.prog 89 #[.int .i64 n] w fun e w' => e = .returned (.bool false) ∧ Bel w w' := by
  refine H_enter Tryz.func89 rfl Tryz.ntmps89 rfl (H_seq (R0 (xv (asB rfl) (XN (thenJ_normal (H_seq (R0 (xv (mvI rfl) (xv (mvI rfl) ?_)))))))))
  refine xv (e_ne (q0 rfl) (q0 rfl)) (xv (asB rfl) (XN (thenJ_normal (H_ret ?_))))
  exact ret1 (v := .bool _) rfl rfl rfl fun w' hw => ⟨ret_bool (by simp), hw.1⟩
theorem compare_w (a b : Int) (w : World) : Calls Tryz.prog 46 #[.int .i64 a, .int .i64 b] w fun e w' => e = .returned (.int .i64 (cmpI a b)) ∧ Bel w w' := by
  refine H_enter Tryz.func46 rfl Tryz.ntmps46 rfl (H_seq (R0 (xv (asI rfl) (XN (thenJ_normal (H_seq (R0 (xv (mvI rfl) (xC (en Tryz.call89 (ha1 (q0 rfl))) (fun _ w _ => isNaN_w a w) rfl rfl ?_)))))))))
  refine xv (asB rfl) (XN (thenJ_normal (H_seq (R0 (xv (mvI rfl) (xC (en Tryz.call89 (ha1 (q0 rfl))) (fun _ w _ => isNaN_w b w) rfl rfl (xv (asB rfl) (XN (thenJ_normal ?_)))))))))
  refine H_seq (H_seq (R0 (xv (mvB rfl) (XN (thenJ_normal (H_cond rfl (fun h1 => ?_) (fun h1 => ?_)))))))
  · cases h1
  · refine H_skip (thenJ_normal (H_seq (H_seq (R0 (xv (mvB rfl) (XN (thenJ_normal (H_cond rfl (fun h2 => ?_) (fun h2 => ?_)))))))))
    · cases h2
    · refine H_skip (thenJ_normal (H_seq (H_seq (R0 (xv (mvI rfl) (xv (mvI rfl) (xv (e_lt (q0 rfl) (q0 rfl)) (XN (thenJ_normal ?_)))))))))
      refine H_cond rfl (fun h3 => ?_) (fun h3 => ?_)
      · refine H_seq (R0 (xv (asI rfl) (XN (thenJ_normal (H_ret (thenJ_ret ?_))))))
        exact ret1 (v := .int _ _) rfl rfl rfl fun w' hw => ⟨ret_int (by unfold cmpI; rw [if_pos (by simpa using h3)]), hw.1⟩
      · refine H_skip (thenJ_normal (H_seq (H_seq (R0 (xv (mvI rfl) (xv (mvI rfl) (xv (e_gt (q0 rfl) (q0 rfl)) (XN (thenJ_normal ?_)))))))))
        refine H_cond rfl (fun h4 => ?_) (fun h4 => ?_)
        · refine H_seq (R0 (xv (asI rfl) (XN (thenJ_normal (H_ret (thenJ_ret ?_))))))
          exact ret1 (v := .int _ _) rfl rfl rfl fun w' hw => ⟨ret_int (by unfold cmpI; rw [if_neg (by simpa using h3), if_pos (by simpa using h4)]), hw.1⟩
        · refine H_skip (thenJ_normal (H_seq (R0 (xv (asI rfl) (XN (thenJ_normal (H_ret ?_)))))))
          exact ret1 (v := .int _ _) rfl rfl rfl fun w' hw => ⟨ret_int (by unfold cmpI; rw [if_neg (by simpa using h3), if_neg (by simpa using h4)]), hw.1⟩
theorem or_w (A : Option Addr) (n c : Nat) (xs : List Int) (w : World) (hx : IntsAt w A n xs) : Calls Tryz.prog 45 #[.slice A n c] w fun e w' => e = .returned (.int .i64 (orI xs)) ∧ Bel w w' := by
  have hl := hx.1
  have hn := hx.2.1
  refine H_enter Tryz.func45 rfl Tryz.ntmps45 rfl (H_seq (R0 (xv (asI rfl) (XN (thenJ_normal (H_seq (R0 (xv (asI rfl) (XN ?_)))))))))
  refine thenJ_normal (H_seq (H_seq (R0 (xv (mvS rfl) (xv (e_len Tryz.underlying22 (q0 rfl)) (xv (mvI rfl) (XN (thenJ_normal (H_block ?_)))))))))
  refine H_loop [2, 5, 8, 9, 10, 11, 12, 13, 14, 15, 16] (fun k : Nat => [(8, .int .i64 k)]) (fun _ => _) (fun k => k ≤ n ∧ (xs.take k).find? (fun x => decide (x ≠ 0)) = none) (fun k => n - k) 0 ⟨rfl, trivial⟩ (fun _ h => h) rfl ⟨Nat.zero_le _, rfl⟩ ?_
  rintro k g ⟨hk, hno⟩
  refine H_seq (R0 (xv (e_lt (q0 rfl) (q0 rfl)) (XN (thenJ_normal (H_seq (H_cond rfl (fun hlt => ?_) (fun hlt => ?_)))))))
  · simp at hlt
    obtain ⟨b, off, x, rfl, hbl, hxk, hrx⟩ := hx.at_ hlt
    refine H_skip (thenJ_normal (H_seq (H_block (H_seq (R0 (xv (e_idx _ Tryz.underlying22 Tryz.sizeOf3 (q0 rfl) (q0 rfl) (fun _ => ⟨rfl, by omega⟩)) (xv (eL Tryz.isAgg3 (q0 rfl)) ?_)))))))
    refine xv (asI rfl) (XN (thenJ_normal (H_seq (R0 (xv (mvI rfl) (xv (mvI rfl) (xv (e_ne (q0 rfl) (q0 rfl)) (XN (thenJ_normal ?_)))))))))
    refine H_cond rfl (fun h0 => ?_) (fun h0 => ?_)
    · refine H_seq (R0 (xv (mvI rfl) (xv (asI rfl) (XN (thenJ_normal (H_ret (blockJ_ret (thenJ_ret (loopJ_ret ?_)))))))))
      refine blockJ_ret (thenJ_ret ?_)
      exact ret1 (v := .int _ _) rfl rfl rfl fun w' hw => ⟨ret_int (by
        unfold orI
        have h0' : x ≠ 0 := by simpa using h0
        rw [← List.take_append_drop k xs, List.find?_append, hno]
        obtain ⟨q1, q2⟩ := List.getElem?_eq_some_iff.1 hxk
        rw [List.drop_eq_getElem_cons q1, q2]
        simp [h0']), hw.1⟩
    · refine H_skip (blockJ_normal (thenJ_normal (R0 (xv (e_add (q0 rfl) (q0 rfl) (fun _ => ⟨rfl, by omega, by omega⟩)) (xv (mvI rfl) (XN ?_))))))
      exact loopJ_normal (k + 1) agr ⟨rfl, trivial⟩ (fun _ h => h) rfl ⟨by omega, by rw [snocT _ _ _ hxk, List.find?_append, hno]; simp at h0; simp [h0]⟩ (by show n - (k + 1) < n - k; omega)
  · obtain rfl : k = n := by simp at hlt; omega
    refine H_exit (thenJ_exit (loopJ_exit (blockJ_hit (thenJ_normal (H_seq (R0 (xv (mvI rfl) (xv (asI rfl) (XN ?_)))))))))
    refine thenJ_normal (H_ret ?_)
    exact ret1 (v := .int _ _) rfl rfl rfl fun w' hw => ⟨ret_int (by unfold orI; rw [List.take_of_length_le (by omega)] at hno; rw [hno]; rfl), hw.1⟩

/-! windows -/
theorem wvalid_w (x : Wn) (w : World) : Calls Tryz.prog 170 #[.agg x.cells.toArray] w fun e w' => e = .returned (.bool (wnOk x)) ∧ Bel w w' := by
  refine H_enter Tryz.func170 rfl Tryz.ntmps170 rfl (H_seq (R0 (X_box (v := .agg _) rfl rfl fun b1 => (xv (asB rfl) (XN (thenJ_normal (H_seq (R0 (xv (e_fld Tryz.underlying79 rfl Tryz.sizeOf3 rfl (q0 rfl)) ?_)))))))))
  refine xv (eL Tryz.isAgg3 (q0 rfl)) ?_
  refine xv (e_le (q0 rfl) (q0 rfl)) (xv (mvB rfl) (xt (e_fld Tryz.underlying79 rfl Tryz.sizeOf3 rfl (q0 rfl)) rfl rfl (xt (eL Tryz.isAgg3 (q1 rfl)) rfl rfl ?_)))
  refine xt (e_fld Tryz.underlying79 rfl Tryz.sizeOf3 rfl (q0 rfl)) rfl rfl (xt (eL Tryz.isAgg3 (q1 rfl)) rfl rfl ?_)
  refine xt (e_le (q1 rfl) (q1 rfl)) rfl rfl (xv (e_and (q0 rfl) rfl (fun h => by first | rfl | (rw [h]; rfl))) ?_)
  refine xv (mvB rfl) (xt (e_fld Tryz.underlying79 rfl Tryz.sizeOf3 rfl (q0 rfl)) rfl rfl (xt (eL Tryz.isAgg3 (q1 rfl)) rfl rfl ?_))
  refine xt (e_le (q1 rfl) (q0 rfl)) rfl rfl (xv (e_and (q0 rfl) rfl (fun h => by first | rfl | (rw [h]; rfl))) ?_)
  refine xv (asB rfl) (XN (thenJ_normal (H_ret ?_)))
  exact ret1 (v := .bool _) rfl rfl rfl fun w' hw => ⟨ret_bool (by unfold wnOk; cases decide (0 ≤ x.lo) <;> cases decide (x.lo ≤ x.hi) <;> simp), hw.1⟩
theorem wbad_w (x : Wn) (w : World) : Calls Tryz.prog 169 #[.agg x.cells.toArray] w fun e w' => e = .returned (.bool (!wnOk x)) ∧ Bel w w' := by
  refine H_enter Tryz.func169 rfl Tryz.ntmps169 rfl (H_seq (R0 (X_box (v := .agg _) rfl rfl fun b1 => (xv (asB rfl) (XN (thenJ_normal (H_seq (R0 (xv (eS Tryz.isAgg79 Tryz.sizeOf79 (q0 rfl)) ?_)))))))))
  refine xC (en Tryz.call170 (ha1 (q0 rfl))) (fun _ w _ => wvalid_w x w) rfl rfl (xv (e_not (q0 rfl)) (xv (asB rfl) (XN (thenJ_normal (H_ret ?_)))))
  exact ret1 (v := .bool _) rfl rfl rfl fun w' hw => ⟨rfl, hw.1⟩
theorem wcmp_w (x y : Wn) (w : World) : Calls Tryz.prog 172 #[.agg x.cells.toArray, .agg y.cells.toArray] w fun e w' => e = .returned (.int .i64 (cmpI x.lo y.lo)) ∧ Bel w w' := by
  refine H_enter Tryz.func172 rfl Tryz.ntmps172 rfl (H_seq (R0 (X_box (v := .agg _) rfl rfl fun b2 => (X_box (v := .agg _) rfl rfl fun b3 => (xv (asI rfl) (XN (thenJ_normal (H_seq (R0 ?_)))))))))
  refine xv (e_fld Tryz.underlying79 rfl Tryz.sizeOf3 rfl (q0 rfl)) (xv (eL Tryz.isAgg3 (q0 rfl)) ?_)
  refine xv (e_fld Tryz.underlying79 rfl Tryz.sizeOf3 rfl (q0 rfl)) (xv (eL Tryz.isAgg3 (q0 rfl)) ?_)
  refine xC (en Tryz.call46 (ha2 (q0 rfl) (q0 rfl))) (fun _ w _ => compare_w x.lo y.lo w) rfl rfl (xv (asI rfl) (XN (thenJ_normal (H_ret ?_))))
  exact ret1 (v := .int _ _) rfl rfl rfl fun w' hw => ⟨rfl, hw.1⟩
theorem windex_w (A : Option Addr) (n c : Nat) (xs : List Wn) (w : World) (hx : WnsAt w A n xs) : Calls Tryz.prog 191 #[.slice A n c, .func (.func 169) #[] #[]] w fun e w' => (∃ i : Int, e = .returned (.int .i64 i) ∧ (decide (0 ≤ i) = xs.any fun x => !wnOk x)) ∧ Bel w w' := by
  have hl := hx.1
  have hn := hx.2.1
  refine H_enter Tryz.func191 rfl Tryz.ntmps191 rfl (H_seq (R0 (xv (asI rfl) (XN (thenJ_normal (H_seq (H_seq (R0 (xv (mvS rfl) ?_)))))))))
  refine xv (e_len Tryz.underlying119 (q0 rfl)) (xv (mvI rfl) (XN (thenJ_normal (H_block (H_loop [4, 5, 8, 9, 10, 11, 12, 13, 14, 15, 16, 17, 18] (fun k : Nat => [(8, .int .i64 k)]) (fun _ => []) (fun k => k ≤ n ∧ ((xs.take k).any fun x => !wnOk x) = false) (fun k => n - k) 0 ⟨rfl, trivial⟩ (fun w hw => hw) rfl ⟨Nat.zero_le _, rfl⟩ ?_)))))
  rintro k g ⟨hk, hall⟩
  refine H_seq (R0 (xv (e_lt (q0 rfl) (q0 rfl)) (XN (thenJ_normal (H_seq (H_cond rfl (fun hlt => ?_) (fun hlt => ?_)))))))
  · have hlt' : k < n := by simpa using hlt
    obtain ⟨b, off, x, rfl, hbl, hxk, hrx⟩ := hx.at_ hlt'
    refine H_skip (thenJ_normal (H_seq (H_block (H_seq (R0 (xv (mvI rfl) (xv (asI rfl) (XN (thenJ_normal ?_)))))))))
    refine H_seq (R0 (xv (e_mv (q0 rfl)) (xv (mvS rfl) (xv (mvI rfl) (xv (e_idx _ Tryz.underlying119 Tryz.sizeOf79 (q0 rfl) (q0 rfl) (fun _ => ⟨rfl, by omega⟩)) (xv (eS Tryz.isAgg79 Tryz.sizeOf79 (q0 rfl)) ?_))))))
    refine xC (enV (cap := []) (al := [.agg x.cells.toArray]) Tryz.call169 (q0 rfl) (fun hg => by rw [ha1 (q0 (v := .agg _) rfl) hg]; rfl)) (fun _ w _ => wbad_w x w) rfl rfl (XN (thenJ_normal (H_cond rfl (fun hb => ?_) (fun hb => ?_))))
    · have hb' : (!wnOk x) = true := hb
      refine H_seq (R0 (xv (mvI rfl) (xv (asI rfl) (XN (thenJ_normal (H_ret (blockJ_ret (thenJ_ret (loopJ_ret ?_)))))))))
      refine blockJ_ret (thenJ_ret ?_)
      exact ret1 (v := .int _ _) rfl rfl rfl fun w' hw => ⟨⟨k, rfl, by rw [List.any_eq_true.2 ⟨x, List.mem_of_getElem? hxk, hb'⟩]; simp⟩, hw.1⟩
    · have hb' : (!wnOk x) = false := hb
      refine H_skip (blockJ_normal (thenJ_normal (R0 (xv (e_add (q0 rfl) (q0 rfl) (fun _ => ⟨rfl, by omega, by omega⟩)) (xv (mvI rfl) (XN ?_))))))
      exact loopJ_normal (k + 1) agr ⟨rfl, trivial⟩ (fun w hw => hw) rfl ⟨by omega, by rw [snocT _ _ _ hxk, List.any_append, hall]; simp [hb']⟩ (by show n - (k + 1) < n - k; omega)
  · have hend : k = n := by simp at hlt; omega
    rw [hend, List.take_of_length_le (by omega)] at hall
    refine H_exit (thenJ_exit (loopJ_exit (blockJ_hit (thenJ_normal (H_seq (R0 (xv (asI rfl) (XN (thenJ_normal ?_)))))))))
    refine H_ret ?_
    exact ret1 (v := .int _ _) rfl rfl rfl fun w' hw => ⟨⟨-1, rfl, by rw [hall]; rfl⟩, hw.1⟩

end Go.Proofs.Far

/-
  The walks: sorting where the order does not part all; clock.Union.
-/
namespace Go.Proofs.Far
open Go Go.RowKit Go.Proofs.E Go.Proofs.Cus

section
open Go.Shelf Go.Lib Go.Sort
theorem swo_by {α : Type} (f : α → Int) (cf : α → α → Int) (h : ∀ x y, ltOf cf x y = decide (f x < f y)) : SWO (ltOf cf) where
  irrefl x := by rw [h]; simp
  trans x y z h1 h2 := by rw [h] at *; simp at *; omega
  ntrans x y z h1 h2 := by rw [h] at *; simp at *; omega
theorem sortNT {α : Type} [Inhabited α] {ρ : Ren} (Lay : SlLaysF0.n6 Tryz.prog ρ) (k : Nat) (aE : ∀ w, (isAgg (ρ.t 24)).run Tryz.prog w = .ok true w) (zE : ∀ w, (Go.sizeOf (ρ.t 24)).run Tryz.prog w = .ok k w) (enc : α → List Value) (hk : ∀ x, (enc x).length = k) (h1 : ∀ x, ∀ v ∈ enc x, v.oneCell' = true)
    (cf : α → α → Int) (g : Nat) (hO : SWO (ltOf cf)) (eg : ∀ args w, (callFunc g args).run Tryz.prog w = .ok (.enter g args) w)
    (hcl : ∀ (x y : α) (w : World), Calls Tryz.prog g #[.agg (enc x).toArray, .agg (enc y).toArray] w fun e w' => e = .returned (.int .i64 (cf x y)) ∧ Bel w w')
    {w0 w : World} {L : List E.Item} (hw : Mem w0 L w) {e : TypeId} {j c : Nat} {A : Option Addr} {xs : List α} (hkj : L[j]? = some (rowT e k enc A c xs)) (hn : xs.length ≤ 1000000) :
    Calls Tryz.prog (ρ.f 6) #[.slice A xs.length c, .func (.func g) #[] #[]] w fun r w' => ∃ ys : { ys : List α // ys.Perm xs ∧ ys.Pairwise fun x y => ltOf cf y x = false }, r = .returned (.tuple #[]) ∧ Mem w0 (L.set j (rowT e k enc A c ys.1)) w' := by
  rcases Nat.eq_zero_or_pos xs.length with h0 | h0
  · have : xs = [] := List.eq_nil_of_length_eq_zero h0
    subst this
    refine (AnyF.slices_SortFunc_none Lay A c (.func (.func g) #[] #[]) w).mono ?_
    rintro r w' ⟨rfl, rfl⟩
    refine ⟨⟨[], List.Perm.refl _, List.Pairwise.nil⟩, rfl, ?_⟩
    have hL : L.set j (rowT e k enc A c ([] : List α)) = L := by
      obtain ⟨q1, q2⟩ := List.getElem?_eq_some_iff.1 hkj
      rw [← q2]; exact List.set_getElem_self q1
    show Mem w0 (L.set j (rowT e k enc A c ([] : List α))) _
    rw [hL]; exact hw
  · obtain ⟨b, rfl⟩ := rowT_at hw hkj h0
    have hb : b < w.heap.size := (hw.itemLt hkj rfl).2
    have hcon := AnyQ.slices_SortFunc Lay k aE zE enc hk h1 cf hO g #[] b 0 c xs.toArray w eg
      (fun m os dk _ x y => by rw [Array.append_empty]; exact (hcl x y _).mono fun e w' ⟨he, hb⟩ => ⟨he, hb.grew⟩) (holdsK_row hk hw hkj) hb (by simp; omega)
    rw [List.size_toArray] at hcon
    refine hcon.mono ?_
    rintro r w' ⟨rfl, d', n, os, hp, hs, rfl⟩
    have hsz : d'.size = xs.length := by have := hp.1; simpa using this
    have hperm : d'.toList.Perm xs := by
      have h3 := hp.2.2
      rw [show d'.extract 0 xs.length = d' by rw [← hsz]; exact Array.extract_size] at h3
      have h4 : xs.toArray.extract 0 xs.length = xs.toArray := by simp
      rw [h4] at h3
      exact h3
    refine ⟨⟨d'.toList, hperm, ?_⟩, rfl, ?_⟩
    · rw [List.pairwise_iff_getElem]
      intro i j' hi hj hij
      have hj2 : j' < xs.length := by simpa [hsz] using hj
      have := hs i j' (Nat.zero_le _) hij hj2
      rw [getElem!_pos d' i (by omega), getElem!_pos d' j' (by omega)] at this
      simpa using this
    · have := sorted_mem (n := n) (os := os) (ys := d'.toList) hk hw hkj (by simpa using hsz)
      simpa using this
end
def sortWn_ren : Go.Shelf.Ren := ⟨fun | 6 => 171 | 15 => 88 | 14 => 192 | 28 => 135 | 29 => 136 | 20 => 205 | 21 => 206 | 22 => 207 | 23 => 208 | 24 => 209 | 25 => 210 | 26 => 211 | 27 => 212 | 46 => 217 | 47 => 175 | 48 => 176 | 49 => 218 | 50 => 219 | 57 => 221 | n => n, fun | 22 => 119 | 24 => 79 | 25 => 206 | 3 => 3 | 39 => 138 | 0 => 0 | 53 => 174 | 55 => 176 | 4 => 4 | 46 => 167 | 45 => 166 | 50 => 171 | 5 => 5 | 9 => 9 | 66 => 208 | 70 => 212 | 76 => 221 | 77 => 142 | n => n, fun | n => n⟩
theorem sortWn : Go.Proofs.SlLaysF0.n6 Tryz.prog sortWn_ren := {
  mixed := by kernel_rfl,
  f6 := ⟨Tryz.f171.name, by decide, Tryz.func171.trans (congrArg some (by kernel_rfl))⟩,
  f14 := ⟨Tryz.f192.name, by decide, Tryz.func192.trans (congrArg some (by kernel_rfl))⟩,
  f15 := Tryz.func88.trans (congrArg some (by kernel_rfl)),
  f20 := ⟨Tryz.f205.name, by decide, Tryz.func205.trans (congrArg some (by kernel_rfl))⟩,
  f21 := ⟨Tryz.f206.name, by decide, Tryz.func206.trans (congrArg some (by kernel_rfl))⟩,
  f22 := ⟨Tryz.f207.name, by decide, Tryz.func207.trans (congrArg some (by kernel_rfl))⟩,
  f23 := ⟨Tryz.f208.name, by decide, Tryz.func208.trans (congrArg some (by kernel_rfl))⟩,
  f24 := ⟨Tryz.f209.name, by decide, Tryz.func209.trans (congrArg some (by kernel_rfl))⟩,
  f25 := ⟨Tryz.f210.name, by decide, Tryz.func210.trans (congrArg some (by kernel_rfl))⟩,
  f26 := ⟨Tryz.f211.name, by decide, Tryz.func211.trans (congrArg some (by kernel_rfl))⟩,
  f27 := ⟨Tryz.f212.name, by decide, Tryz.func212.trans (congrArg some (by kernel_rfl))⟩,
  f28 := Tryz.func135.trans (congrArg some (by kernel_rfl)),
  f29 := Tryz.func136.trans (congrArg some (by kernel_rfl)),
  f46 := ⟨Tryz.f217.name, by decide, Tryz.func217.trans (congrArg some (by kernel_rfl))⟩,
  f47 := Tryz.func175.trans (congrArg some (by kernel_rfl)),
  f48 := Tryz.func176.trans (congrArg some (by kernel_rfl)),
  f49 := ⟨Tryz.f218.name, by decide, Tryz.func218.trans (congrArg some (by kernel_rfl))⟩,
  f50 := ⟨Tryz.f219.name, by decide, Tryz.func219.trans (congrArg some (by kernel_rfl))⟩,
  f57 := ⟨Tryz.f221.name, by decide, Tryz.func221.trans (congrArg some (by kernel_rfl))⟩,
  t0 := Tryz.underlying0,
  a0 := Tryz.isAgg0,
  z0 := Tryz.sizeOf0,
  v0 := Tryz.zeroValue0,
  t3 := Tryz.underlying3,
  a3 := Tryz.isAgg3,
  z3 := Tryz.sizeOf3,
  v3 := Tryz.zeroValue3,
  t4 := Tryz.underlying4,
  a4 := Tryz.isAgg4,
  z4 := Tryz.sizeOf4,
  v4 := Tryz.zeroValue4,
  t5 := Tryz.underlying5,
  a5 := Tryz.isAgg5,
  z5 := Tryz.sizeOf5,
  v5 := Tryz.zeroValue5,
  t9 := Tryz.underlying9,
  a9 := Tryz.isAgg9,
  z9 := Tryz.sizeOf9,
  v9 := Tryz.zeroValue9,
  t22 := Tryz.underlying119,
  a22 := Tryz.isAgg119,
  z22 := Tryz.sizeOf119,
  v22 := Tryz.zeroValue119,
  t25 := Tryz.underlying206,
  a25 := Tryz.isAgg206,
  z25 := Tryz.sizeOf206,
  v25 := Tryz.zeroValue206,
  t39 := Tryz.underlying138,
  a39 := Tryz.isAgg138,
  z39 := Tryz.sizeOf138,
  v39 := Tryz.zeroValue138,
  t45 := Tryz.underlying166,
  a45 := Tryz.isAgg166,
  z45 := Tryz.sizeOf166,
  v45 := Tryz.zeroValue166,
  t46 := Tryz.underlying167,
  a46 := Tryz.isAgg167,
  z46 := Tryz.sizeOf167,
  v46 := Tryz.zeroValue167,
  t50 := Tryz.underlying171,
  a50 := Tryz.isAgg171,
  z50 := Tryz.sizeOf171,
  v50 := Tryz.zeroValue171,
  t53 := Tryz.underlying174,
  a53 := Tryz.isAgg174,
  z53 := Tryz.sizeOf174,
  v53 := Tryz.zeroValue174,
  t55 := Tryz.underlying176,
  a55 := Tryz.isAgg176,
  z55 := Tryz.sizeOf176,
  v55 := Tryz.zeroValue176,
  t66 := Tryz.underlying208,
  a66 := Tryz.isAgg208,
  z66 := Tryz.sizeOf208,
  v66 := Tryz.zeroValue208,
  t70 := Tryz.underlying212,
  a70 := Tryz.isAgg212,
  z70 := Tryz.sizeOf212,
  v70 := Tryz.zeroValue212,
  t76 := Tryz.underlying221,
  a76 := Tryz.isAgg221,
  z76 := Tryz.sizeOf221,
  v76 := Tryz.zeroValue221,
  t77 := Tryz.underlying142,
  a77 := Tryz.isAgg142,
  z77 := Tryz.sizeOf142,
  v77 := Tryz.zeroValue142 }
section
open Go.Shelf Go.Lib Go.Sort
theorem wsort_w {w0 w : World} {L : List E.Item} (hw : Mem w0 L w) {j c : Nat} {A : Option Addr} {xs : List Wn} (hkj : L[j]? = some (wnRow A c xs)) (hn : xs.length ≤ 1000000) :
    Calls Tryz.prog 171 #[.slice A xs.length c, .func (.func 172) #[] #[]] w fun r w' => ∃ ys : { ys : List Wn // ys.Perm xs ∧ ys.Pairwise fun x y => ltOf (fun x y : Wn => cmpI x.lo y.lo) y x = false }, r = .returned (.tuple #[]) ∧ Mem w0 (L.set j (wnRow A c ys.1)) w' :=
  sortNT sortWn 2 Tryz.isAgg79 Tryz.sizeOf79 Wn.cells (fun _ => rfl) (fun x v hv => by simp [Wn.cells] at hv; rcases hv with rfl | rfl <;> rfl) _ 172 (swo_by (·.lo) _ (fun x y => by unfold ltOf; exact cmpI_ltOf _ _)) Tryz.call172 wcmp_w hw hkj hn
theorem wsortN_w {w0 w : World} {L : List E.Item} (hw : Mem w0 L w) {j c n : Nat} {A : Option Addr} {xs : List Wn} (hl : xs.length = n) (hkj : L[j]? = some (wnRow A c xs)) (hn : n ≤ 1000000) :
    Calls Tryz.prog 171 #[.slice A n c, .func (.func 172) #[] #[]] w fun r w' => ∃ ys : { ys : List Wn // ys.Perm xs ∧ ys.Pairwise fun x y => ltOf (fun x y : Wn => cmpI x.lo y.lo) y x = false }, r = .returned (.tuple #[]) ∧ Mem w0 (L.set j (wnRow A c ys.1)) w' := by
  subst hl
  exact wsort_w hw hkj hn
theorem sorted_lo {ys : List Wn} (h : ys.Pairwise fun x y => ltOf (fun x y : Wn => cmpI x.lo y.lo) y x = false) : ys.Pairwise fun x y => x.lo ≤ y.lo := h.imp fun {a b} hab => by
  unfold ltOf at hab
  rw [cmpI_ltOf] at hab
  simpa using hab
end
theorem wcontains_w (A : Option Addr) (n c : Nat) (xs : List Wn) (w : World) (hx : WnsAt w A n xs) : Calls Tryz.prog 168 #[.slice A n c, .func (.func 169) #[] #[]] w fun e w' => e = .returned (.bool (xs.any fun x => !wnOk x)) ∧ Bel w w' := by
  refine H_enter Tryz.func168 rfl Tryz.ntmps168 rfl (H_seq (R0 (xv (asB rfl) (XN (thenJ_normal (H_seq (R0 (xv (mvS rfl) (xv (e_mv (q0 rfl)) ?_)))))))))
  refine xCX (en Tryz.call191 (ha2 (q0 rfl) (q0 rfl))) (fun w hw => (windex_w A n c xs w (hx.mem hw)).mono fun r w' h => (match h with | ⟨⟨i, h1, h2⟩, hb⟩ => (⟨(⟨i, h2⟩ : { i : Int // decide (0 ≤ i) = xs.any fun x => !wnOk x }), h1, mem_nil.2 hb⟩ : ∃ z : { i : Int // decide (0 ≤ i) = xs.any fun x => !wnOk x }, r = .returned (.int .i64 z.1) ∧ Mem w [] w'))) rfl (fun _ => rfl) fun z => (xv (e_ge (q0 rfl) (q0 rfl)) (xv (asB rfl) (XN (thenJ_normal (H_ret ?_)))))
  exact ret1 (v := .bool _) rfl rfl rfl fun w' hw => ⟨ret_bool (show decide (0 ≤ z.1) = _ from z.2), hw.1⟩

end Go.Proofs.Far

/-
  The walks: clock.Union of valid windows.
-/
namespace Go.Proofs.Far
open Go Go.RowKit Go.Proofs.E Go.Proofs.Cus

theorem WOk.any {l : List Wn} (h : WOk l) : (l.any fun x => !wnOk x) = false := by
  rw [List.any_eq_false]
  intro x hx
  have := h x hx
  have : wnOk x = true := by unfold wnOk; simp; omega
  rw [this]; decide
theorem WOk.perm {l m : List Wn} (h : WOk l) (hp : m.Perm l) : WOk m := fun x hx => h x (hp.mem_iff.1 hx)
theorem merge_last {out : List Wn} {z x : Wn} (h : out[out.length - 1]? = some z) (hx : ¬ x.lo = x.hi) (hz : x.lo ≤ z.hi) : mergeF out x = out.set (out.length - 1) { z with hi := max z.hi x.hi } := by
  unfold mergeF
  rw [if_neg hx]
  rcases List.eq_nil_or_concat out with rfl | ⟨l, q, rfl⟩
  · cases h
  · rw [List.concat_eq_append] at h ⊢
    have hq : q = z := by simpa using h
    subst hq
    rw [List.getLast?_append, List.getLast?_singleton]
    simp only [Option.some_or]
    rw [if_pos hz, List.dropLast_concat]
    simp
theorem merge_apart {out : List Wn} {z x : Wn} (h : out[out.length - 1]? = some z) (hx : ¬ x.lo = x.hi) (hz : ¬ x.lo ≤ z.hi) : mergeF out x = out ++ [x] := by
  unfold mergeF
  rw [if_neg hx]
  rcases List.eq_nil_or_concat out with rfl | ⟨l, q, rfl⟩
  · cases h
  · rw [List.concat_eq_append] at h ⊢
    have hq : q = z := by simpa using h
    subst hq
    rw [List.getLast?_append, List.getLast?_singleton]
    simp only [Option.some_or]
    rw [if_neg hz]
theorem merge_first {x : Wn} (hx : ¬ x.lo = x.hi) : mergeF [] x = [x] := by
  unfold mergeF; rw [if_neg hx]; rfl
theorem merge_none {out : List Wn} {x : Wn} (hx : x.lo = x.hi) : mergeF out x = out := by
  unfold mergeF; rw [if_pos hx]
def fm (l : List Wn) (k : Nat) : List Wn := (l.take k).foldl mergeF []
theorem fm_succ {l : List Wn} {k : Nat} {x : Wn} (h : l[k]? = some x) : fm l (k + 1) = mergeF (fm l k) x := by
  unfold fm
  rw [snocT _ _ _ h, List.foldl_append]; rfl
theorem fm_len (l : List Wn) (k : Nat) : (fm l k).length ≤ k := by
  have := fold_len (l.take k) []
  unfold fm
  rw [List.length_take] at this
  simp only [List.length_nil, Nat.zero_add] at this
  omega
attribute [local irreducible] mergeF
set_option maxHeartbeats 1000000 in
set_option maxRecDepth 20000 in
theorem union_w (A : Option Addr) (n c : Nat) (xs : List Wn) (w : World) (hx : WnsAt w A n xs) (hn : n ≤ 10000) (hv : WOk xs) : Calls Tryz.prog 120 #[.slice A n c] w fun e w' => ∃ z : Option Addr × Nat, e = .returned (.tuple #[.slice z.1 (unionP xs).length z.2, .int .i64 0]) ∧ Mem w [wnRow z.1 z.2 (unionP xs)] w' := by
  have hl := hx.1
  refine H_enter Tryz.func120 rfl Tryz.ntmps120 rfl (H_seq (R0 (xv (asS rfl) (xv (asI rfl) (XN (thenJ_normal (H_seq (R0 (xv (mvS rfl) ?_)))))))))
  refine xv (e_len Tryz.underlying119 (q0 rfl)) (X_eff (f_make (i := Tryz.t79) (k := 2) (n := n) (m := n) Wn.cells (⟨0, 0⟩ : Wn) Tryz.underlying119 (by kernel_rfl) rfl rfl rfl rfl rfl ⟨⟨Nat.le_refl _, by omega⟩, by decide⟩ rfl fun b11 => (xv (asS rfl) (XN (thenJ_normal (H_seq (R0 (xv (mvS rfl) (xv (mvS rfl) (X_eff (f_copy (k := 2) (i := Tryz.t79) (enc := Wn.cells) 0 Tryz.underlying119 (by kernel_rfl) rfl (fun _ => rfl) (fun _ => rfl) rfl rfl rfl rfl (by simp) (fun w hw => hx.mem hw) rfl ?_)))))))))))
  refine XN (thenJ_normal (H_seq (H_seq (R0 (xv (mvS rfl) (xC (en Tryz.call168 (ha2 (q0 rfl) (q0 rfl))) (fun _ w hw => wcontains_w (some ⟨b11, 0, none⟩) n n xs w (hl ▸ slAt_row hw (j := 0) rfl (fun _ => rfl) (by omega))) rfl rfl (XN (thenJ_normal (H_cond rfl (fun h1 => ?_) (fun h1 => ?_))))))))))
  · exfalso; rw [hv.any] at h1; cases h1
  · refine H_skip (thenJ_normal (H_seq (R0 (xv (mvS rfl) (X_eff (f_callM (en Tryz.call171 (ha2 (q0 rfl) (q0 rfl))) (fun w hw => wsortN_w hw (j := 0) hl rfl (by omega)) rfl (fun _ => rfl) fun s => ?_))))))
    obtain ⟨ys, hys, hso⟩ := s
    have hyn : normP ys = unionP xs := norm_any hv.le hys (sorted_lo hso)
    have hyv : WOk ys := hv.perm hys
    have hyl : ys.length = n := by rw [hys.length_eq, hl]
    have hfull : fm ys n = unionP xs := by rw [← hyn]; unfold fm normP; rw [List.take_of_length_le (by omega)]
    refine XN (thenJ_normal (H_seq (H_mem (L' := [wnRow none 0 [], wnRow (some ⟨b11, 0, none⟩) n ys]) (fun w hw => hw.nilRow 79 2 Wn.cells rfl) rfl (R0 (xv (asS rfl) (XN (thenJ_normal (H_seq (H_seq ?_)))))))))
    refine R0 (xv (mvS rfl) (xv (e_len Tryz.underlying119 (q0 rfl)) (xv (mvI rfl) (XN (thenJ_normal (H_block (H_loop [5, 7, 8, 21, 22, 23, 24, 25, 26, 27, 28, 29, 30, 31, 32, 33, 34, 35, 36, 37, 38, 39, 40, 41, 42, 43, 44, 45, 46, 47, 48, 49, 50, 51, 52, 53, 54, 55, 56, 57, 58, 59, 60, 61, 62, 63] (fun q : Nat × Option Addr × Nat => [(21, .int .i64 q.1), (5, .slice q.2.1 (fm ys q.1).length q.2.2)]) (fun q => [wnRow q.2.1 q.2.2 (fm ys q.1), wnRow (some ⟨b11, 0, none⟩) n ys]) (fun q => q.1 ≤ n) (fun q => n - q.1) (0, none, 0) ⟨rfl, rfl, trivial⟩ (fun w hw => hw) rfl (Nat.zero_le _) ?_)))))))
    rintro ⟨k, oA, oc⟩ g hk
    simp only at hk
    refine H_seq (R0 (xv (e_lt (q0 rfl) (q0 rfl)) (XN (thenJ_normal (H_seq (H_cond rfl (fun hlt => ?_) (fun hlt => ?_)))))))
    · have hlt' : k < n := by simpa using hlt
      obtain ⟨x, hxk⟩ : ∃ x, ys[k]? = some x := ⟨_, List.getElem?_eq_getElem (by omega)⟩
      have hfs := fm_succ hxk
      have hfl := fm_len ys k
      have hxv := hyv x (List.mem_of_getElem? hxk)
      refine H_skip (thenJ_normal (H_seq (H_block (H_seq (R0 (xv (e_idx k Tryz.underlying119 Tryz.sizeOf79 (q0 rfl) (q0 rfl) (fun _ => ⟨rfl, by omega⟩)) (xv (e_lds (vs := x.cells) Tryz.isAgg79 Tryz.sizeOf79 (q0 rfl) (rrs 1 rfl hxk) rfl) (X_alloc Tryz.zeroValue79 rfl fun b7 => (X_st (v := .agg _) rfl rfl Tryz.sizeOf79 ?_)))))))))
      refine XN (thenJ_normal (H_seq (R0 (xv (mvS rfl) (xv (e_len Tryz.underlying119 (q0 rfl)) (xv (e_sub (r := ((fm ys k).length : Int) - 1) (q0 rfl) (q0 rfl) (fun _ => ⟨rfl, by omega, by omega⟩)) (xv (asI rfl) (XN (thenJ_normal ?_)))))))))
      refine H_block (H_seq (R0 (xv (e_fld Tryz.underlying79 rfl Tryz.sizeOf3 rfl (q0 rfl)) (xv (eL Tryz.isAgg3 (q0 rfl)) ?_))))
      refine xv (e_fld Tryz.underlying79 rfl Tryz.sizeOf3 rfl (q0 rfl)) (xv (eL Tryz.isAgg3 (q0 rfl)) ?_)
      refine xv (e_eq (q0 rfl) (q0 rfl)) (xv (asB rfl) (XN (thenJ_normal (H_cond rfl (fun h2 => ?_) (fun h2 => ?_)))))
      · have h2' : x.lo = x.hi := by simpa using h2
        refine H_skip (blockJ_normal (blockJ_normal (thenJ_normal (R0 (xv (e_add (q0 rfl) (q0 rfl) (fun _ => ⟨rfl, by omega, by omega⟩)) (xv (mvI rfl) (XN (loopJ_normal (k + 1, oA, oc) agr ⟨rfl, by rw [hfs, merge_none h2']; rfl, trivial⟩ (fun w hw => by rw [hfs, merge_none h2']; exact hw.tail) rfl (by show k + 1 ≤ n; omega) (by show n - (k + 1) < n - k; omega)))))))))
      · have h2' : ¬ x.lo = x.hi := by simpa using h2
        rcases Nat.eq_zero_or_pos (fm ys k).length with h0 | h0
        · have h00 : fm ys k = [] := List.eq_nil_of_length_eq_zero h0
          rw [h00]
          rw [h00, merge_first h2'] at hfs
          refine H_seq (R1 rfl (by decide +kernel) (xv (mvI rfl) (xv (e_ge (q0 rfl) (q0 rfl)) (xv (mvB rfl) (xt (e_dead (v := .pointer none) (by decide)) rfl rfl (xt (e_dead (v := .int .i64 0) (by decide)) rfl rfl (xt (e_dead (v := .slice none 0 0) (by decide)) rfl rfl (xt (e_dead (v := .int .i64 0) (by decide)) rfl rfl (xt (e_dead (v := .pointer none) (by decide)) rfl rfl ?_)))))))))
          refine xt (e_dead (v := .pointer none) (by decide)) rfl rfl (xt (e_dead (v := .int .i64 0) (by decide)) rfl rfl (xt (e_dead (v := .bool false) (by decide)) rfl rfl (xv (e_and (q0 rfl) rfl (fun h => by first | rfl | (rw [h]; rfl))) ?_)))
          refine xv (asB rfl) (XN (thenJ_normal (H_cond rfl (fun h3 => ?_) (fun h3 => ?_))))
          · exfalso; simp at h3
          · refine R0 (xv (mvS rfl) (xv (eS Tryz.isAgg79 Tryz.sizeOf79 (q0 rfl)) ?_))
            refine X_push (k := 2) (i := Tryz.t79) 1 (x) Tryz.underlying119 (by kernel_rfl) rfl rfl rfl rfl Tryz.sizeOf79 Tryz.zeroValue79 rfl rfl rfl rfl rfl rfl ⟨by simp, by decide⟩ rfl rfl fun B0 A1 c1 => (xv (asS rfl) (XN (blockJ_normal (blockJ_normal (thenJ_normal (R0 (xv (e_add (q0 rfl) (q0 rfl) (fun _ => ⟨rfl, by omega, by omega⟩)) (xv (mvI rfl) (XN ?_)))))))))
            refine loopJ_normal (k + 1, A1, c1) agr ⟨rfl, by rw [hfs]; rfl, trivial⟩ (fun w hw => by rw [hfs]; exact hw.tail) rfl (by show k + 1 ≤ n; omega) (by show n - (k + 1) < n - k; omega)
        · obtain ⟨z, hz⟩ : ∃ z, (fm ys k)[(fm ys k).length - 1]? = some z := ⟨_, List.getElem?_eq_getElem (by omega)⟩
          refine H_know (fun w hw => rowT_at (j := 1) hw rfl h0) fun ⟨q, hq⟩ => ?_
          subst hq
          refine H_seq (R1 rfl (by decide +kernel) (xv (mvI rfl) (xv (e_ge (q0 rfl) (q0 rfl)) (xv (mvB rfl) (xt (e_fld Tryz.underlying79 rfl Tryz.sizeOf3 rfl (q0 rfl)) rfl rfl (xt (eL Tryz.isAgg3 (q1 rfl)) rfl rfl ?_))))))
          refine xt (mvS rfl) rfl rfl (xt (mvI rfl) rfl rfl (xt (e_idx ((fm ys k).length - 1) Tryz.underlying119 Tryz.sizeOf79 (q1 rfl) (q1 rfl) (fun _ => ⟨by first | omega | (simp only; omega), by first | omega | (simp only; omega)⟩)) rfl rfl ?_))
          refine xt (e_fld Tryz.underlying79 rfl Tryz.sizeOf3 rfl (q1 rfl)) rfl rfl (xt (e_ld (v := .int .i64 z.hi) Tryz.isAgg3 (q1 rfl) (rr (r := 1) 1 rfl hz rfl)) rfl rfl (xt (e_le (q1 rfl) (q1 rfl)) rfl rfl (xv (e_and (q0 rfl) rfl (fun h => by first | rfl | (rw [h]; rfl))) ?_)))
          refine xv (asB rfl) (XN (thenJ_normal (H_cond rfl (fun h3 => ?_) (fun h3 => ?_))))
          · have h3' : x.lo ≤ z.hi := by simp at h3; omega
            refine E.RT rfl rfl (by decide +kernel) (xv (mvS rfl) (xv (mvI rfl) (xv (mvS rfl) (xv (mvI rfl) (xv (e_idx ((fm ys k).length - 1) Tryz.underlying119 Tryz.sizeOf79 (q0 rfl) (q0 rfl) (fun _ => ⟨by first | omega | (simp only; omega), by first | omega | (simp only; omega)⟩)) ?_)))))
            refine xv (e_fld Tryz.underlying79 rfl Tryz.sizeOf3 rfl (q0 rfl)) (xv (e_ld (v := .int .i64 z.hi) Tryz.isAgg3 (q0 rfl) (rr (r := 1) 1 rfl hz rfl)) (xv (e_fld Tryz.underlying79 rfl Tryz.sizeOf3 rfl (q0 rfl)) (xv (eL Tryz.isAgg3 (q0 rfl)) ?_)))
            refine xv (e_maxM (q0 rfl) (q0 rfl)) (xv (e_idx ((fm ys k).length - 1) Tryz.underlying119 Tryz.sizeOf79 (q0 rfl) (q0 rfl) (fun _ => ⟨by first | omega | (simp only; omega), by first | omega | (simp only; omega)⟩)) ?_)
            refine xv (e_fld Tryz.underlying79 rfl Tryz.sizeOf3 rfl (q0 rfl)) (XN (thenJ_normal (X_eff (f_storeR 1 (i := (fm ys k).length - 1) (off := 1) { z with hi := max z.hi x.hi } rfl rfl Tryz.sizeOf3 rfl rfl rfl hz rfl rfl (XN (blockJ_normal (blockJ_normal (thenJ_normal (R0 (xv (e_add (q0 rfl) (q0 rfl) (fun _ => ⟨rfl, by omega, by omega⟩)) ?_))))))))))
            refine xv (mvI rfl) (XN (loopJ_normal (k + 1, _, oc) agr ⟨rfl, by rw [hfs, merge_last hz h2' h3', List.length_set]; rfl, trivial⟩ (fun w hw => by rw [hfs, merge_last hz h2' h3']; exact hw.tail) rfl (by show k + 1 ≤ n; omega) (by show n - (k + 1) < n - k; omega)))
          · have h3' : ¬ x.lo ≤ z.hi := by simp at h3; omega
            refine R0 (xv (mvS rfl) (xv (eS Tryz.isAgg79 Tryz.sizeOf79 (q0 rfl)) ?_))
            refine X_push (k := 2) (i := Tryz.t79) 1 (x) Tryz.underlying119 (by kernel_rfl) rfl rfl rfl rfl Tryz.sizeOf79 Tryz.zeroValue79 rfl rfl rfl rfl rfl rfl ⟨by simp only; omega, by decide⟩ rfl rfl fun B0 A1 c1 => (xv (asS rfl) (XN (blockJ_normal (blockJ_normal (thenJ_normal (R0 (xv (e_add (q0 rfl) (q0 rfl) (fun _ => ⟨rfl, by omega, by omega⟩)) (xv (mvI rfl) (XN ?_)))))))))
            refine loopJ_normal (k + 1, A1, c1) agr ⟨rfl, by rw [hfs, merge_apart hz h2' h3']; rfl, trivial⟩ (fun w hw => by rw [hfs, merge_apart hz h2' h3']; exact hw.tail) rfl (by show k + 1 ≤ n; omega) (by show n - (k + 1) < n - k; omega)
    · have hend : k = n := by simp at hlt; omega
      subst hend
      rw [hfull]
      refine H_exit (thenJ_exit (loopJ_exit (blockJ_hit (thenJ_normal (H_seq (R0 (xv (mvS rfl) (xv (asS rfl) (xv (asI rfl) ?_)))))))))
      refine XN (thenJ_normal (H_ret ?_))
      exact ret2 (v := .slice _ _ _) (x := .int _ _) rfl rfl rfl rfl fun w' hw => ⟨(oA, oc), rfl, hw.pick [0] (by decide)⟩

end Go.Proofs.Far

/-
  The walks: clock.both, clock.Common of one window with others.
-/
namespace Go.Proofs.Far
open Go Go.RowKit Go.Proofs.E Go.Proofs.Cus

/-- the block where a list lies -/
def bY (A : Option Addr) : Nat := (A.map (·.block)).getD 0
theorem yAt0 {w0 w : World} {L : List E.Item} {i c : Nat} {A : Option Addr} {ys : List Wn} (hw : Mem w0 L w) (hk : L[i]? = some (wnRow A c ys)) : (0 < ys.length → A = some ⟨bY A, 0 + 0 * 2, none⟩) ∧ ys.length ≤ c := by
  refine ⟨fun h => ?_, (rowT_cap hw hk).1⟩
  obtain ⟨b, rfl⟩ := rowT_at hw hk h
  rfl
theorem yCell {w0 w : World} {L : List E.Item} {i c j r : Nat} {A : Option Addr} {ys : List Wn} {y : Wn} {v : Value} (hw : Mem w0 L w) (hk : L[i]? = some (wnRow A c ys)) (hy : ys[j]? = some y) (hv : y.cells[r]? = some v) : w.cell? ⟨bY A, 0 + j * 2 + r, none⟩ = some v := by
  obtain ⟨b, rfl⟩ := rowT_at hw hk (by have := (List.getElem?_eq_some_iff.1 hy).1; omega)
  have := row_cell (k := 2) (fun _ => rfl) hw hk hy hv
  rw [Nat.zero_add]
  exact this
theorem cut_at {b j c m : Nat} (h : j + 1 < m) (hc : m ≤ c) : cutAddr (some ⟨b, 0 + j * 2, none⟩) (c - j) 1 2 = some ⟨b, 0 + (j + 1) * 2, none⟩ := by
  unfold cutAddr
  have : ¬ c - j - 1 = 0 := by omega
  have h2 : ¬ c - j = 1 := by omega
  simp [this, h2, Addr.add, Nat.add_mul]
set_option maxRecDepth 20000 in
theorem both_w (A : Option Addr) (n c : Nat) (xs : List Wn) (B : Option Addr) (m d : Nat) (ys : List Wn) (w : World) (hx : WnsAt w A n xs) (hy : WnsAt w B m ys) (hn : n ≤ 10000) (hm : m ≤ 10000) (hxv : WOk xs) (hyv : WOk ys) : Calls Tryz.prog 167 #[.slice A n c, .slice B m d] w fun e w' => ∃ z : (Option Addr × Nat) × (Option Addr × Nat), e = .returned (.tuple #[.slice z.1.1 (unionP xs).length z.1.2, .slice z.2.1 (unionP ys).length z.2.2, .int .i64 0]) ∧ Mem w [wnRow z.2.1 z.2.2 (unionP ys), wnRow z.1.1 z.1.2 (unionP xs)] w' := by
  refine H_enter Tryz.func167 rfl Tryz.ntmps167 rfl (H_seq (R0 (xv (asS rfl) (xv (asS rfl) (xv (asI rfl) (XN (thenJ_normal (H_seq (R0 ?_)))))))))
  refine xv (mvS rfl) (xCX (en Tryz.call120 (ha1 (q0 rfl))) (fun w hw => union_w A n c xs w (hx.mem hw) hn hxv) rfl (fun _ => rfl) fun z1 => (xv (e_mv (q0 rfl)) (xv (e_ext (q0 rfl) rfl) (xv (e_ext (q0 rfl) rfl) (xv (asS rfl) (xv (asI rfl) (XN (thenJ_normal (H_seq ?_)))))))))
  refine H_seq (R0 (xv (mvI rfl) (xv (e_ne (q0 rfl) (q0 rfl)) (XN (thenJ_normal (H_cond rfl (fun h1 => ?_) (fun h1 => ?_)))))))
  · exfalso; simp at h1
  · refine H_skip (thenJ_normal (H_seq (R0 (xv (mvS rfl) (xCX (en Tryz.call120 (ha1 (q0 rfl))) (fun w hw => union_w B m d ys w (hy.mem hw) hm hyv) rfl (fun _ => rfl) fun z2 => (xv (e_mv (q0 rfl)) (xv (e_ext (q0 rfl) rfl) (xv (e_ext (q0 rfl) rfl) (xv (asS rfl) ?_)))))))))
    refine xv (asI rfl) (XN (thenJ_normal (H_seq (H_seq (R0 (xv (mvI rfl) (xv (e_ne (q0 rfl) (q0 rfl)) (XN (thenJ_normal ?_)))))))))
    refine H_cond rfl (fun h2 => ?_) (fun h2 => ?_)
    · exfalso; simp at h2
    · refine H_skip (thenJ_normal (H_seq (R0 (xv (mvS rfl) (xv (mvS rfl) (xv (asS rfl) (xv (asS rfl) (xv (asI rfl) (XN ?_)))))))))
      refine thenJ_normal (H_ret ?_)
      exact ret3 (v := .slice _ _ _) (x := .slice _ _ _) (z := .int _ _) rfl rfl rfl rfl rfl fun w' hw => ⟨(z1, z2), rfl, hw⟩
/-- what the two have in common, up to places in both -/
def cT (x : Wn) (Y : List Wn) (i j : Nat) : List Wn := if i = 0 then (Y.take j).flatMap (cut1 x) else Y.flatMap (cut1 x)
theorem cT_step {x y : Wn} {Y : List Wn} {j : Nat} (hy : Y[j]? = some y) : cT x Y 0 (j + 1) = cT x Y 0 j ++ cut1 x y := by
  unfold cT
  rw [if_pos rfl, if_pos rfl, snocT _ _ _ hy, List.flatMap_append]; simp
theorem cT_done {x y : Wn} {Y : List Wn} {j : Nat} (hY : Nf Y) (hy : Y[j]? = some y) (h : x.hi < y.hi) : cT x Y 1 j = cT x Y 0 j ++ cut1 x y := by
  rw [← cT_step hy]
  unfold cT
  rw [if_neg (by decide), if_pos rfl]
  conv => lhs; rw [← List.take_append_drop (j + 1) Y]
  rw [List.flatMap_append]
  have : (Y.drop (j + 1)).flatMap (cut1 x) = [] := by
    rw [List.flatMap_eq_nil_iff]
    intro q hq
    have hd := (hY.drop j)
    rw [drop_at hy] at hd
    have h1 := (List.pairwise_cons.1 hd.apart).1 q hq
    unfold cut1
    rw [if_neg (by omega)]
  rw [this, List.append_nil]
theorem cT_len (x : Wn) (Y : List Wn) (i j : Nat) : (cT x Y i j).length ≤ Y.length := by
  have key : ∀ l : List Wn, (l.flatMap (cut1 x)).length ≤ l.length := by
    intro l
    induction l with
    | nil => simp
    | cons a l ih =>
      rw [List.flatMap_cons, List.length_append, List.length_cons]
      have : (cut1 x a).length ≤ 1 := by unfold cut1; split <;> simp
      omega
  unfold cT
  split
  · have := key (Y.take j); rw [List.length_take] at this; omega
  · exact key Y
theorem common_one {x : Wn} (Y : List Wn) (h : ¬ x.lo = x.hi) : commonP x Y = Y.flatMap (cut1 x) := by
  unfold commonP one; rw [if_neg h]; simp
theorem common_none {x : Wn} (Y : List Wn) (h : x.lo = x.hi) : commonP x Y = [] := by
  unfold commonP one; rw [if_pos h]; rfl
attribute [local irreducible] cT
set_option maxHeartbeats 1000000 in
set_option maxRecDepth 20000 in
theorem common_w (A : Option Addr) (c : Nat) (x : Wn) (B : Option Addr) (m d : Nat) (ys : List Wn) (w : World) (hx : WnsAt w A 1 [x]) (hy : WnsAt w B m ys) (hm : m ≤ 10000) (hxv : 0 ≤ x.lo ∧ x.lo ≤ x.hi ∧ x.hi ≤ 4294944000) (hyv : WOk ys) : Calls Tryz.prog 118 #[.slice A 1 c, .slice B m d] w fun e w' => ∃ z : Option Addr × Nat, e = .returned (.tuple #[.slice z.1 (commonP x (unionP ys)).length z.2, .int .i64 0]) ∧ Mem w [wnRow z.1 z.2 (commonP x (unionP ys))] w' := by
  have hul := union_len ys
  have hyl := hy.1
  have hYn := (union_nf hyv.le).1
  refine H_enter Tryz.func118 rfl Tryz.ntmps118 rfl (H_seq (R0 (xv (asS rfl) (xv (asI rfl) (XN (thenJ_normal (H_seq (R0 (xv (mvS rfl) ?_)))))))))
  refine xv (mvS rfl) (xCX (en Tryz.call167 (ha2 (q0 rfl) (q0 rfl))) (fun w hw => both_w A 1 c [x] B m d ys w (hx.mem hw) (hy.mem hw) (by decide) hm (WOk.one hxv) hyv) rfl (fun _ => rfl) fun z => ?_)
  rw [union_one]
  obtain ⟨⟨xA, xc⟩, ⟨yA, yc⟩⟩ := z
  generalize hY : unionP ys = Y at *
  refine xv (e_mv (q0 rfl)) (xv (e_ext (q0 rfl) rfl) (xv (e_ext (q0 rfl) rfl) (xv (e_ext (q0 rfl) rfl) (xv (asS rfl) (xv (asS rfl) (xv (asI rfl) (XN (thenJ_normal (H_seq ?_)))))))))
  refine H_seq (R0 (xv (mvI rfl) (xv (e_ne (q0 rfl) (q0 rfl)) (XN (thenJ_normal (H_cond rfl (fun h1 => ?_) (fun h1 => ?_)))))))
  · exfalso; simp at h1
  · refine H_skip (thenJ_normal (H_seq (H_know (fun w hw => yAt0 hw (i := 0) rfl) fun ⟨hyA, hyc⟩ => (H_know (fun w hw => yAt0 hw (i := 1) rfl) fun ⟨hxA, hxc⟩ => (H_mem (L' := [wnRow none 0 [], wnRow yA yc Y, wnRow xA xc (one x)]) (fun w hw => hw.nilRow 79 2 Wn.cells rfl) rfl (R0 (xv (asS rfl) (XN (thenJ_normal ?_)))))))))
    refine H_seq (H_block (H_loop [6, 7, 9, 10, 21, 22, 23, 24, 25, 26, 27, 28, 29, 30, 31, 32, 33, 34, 35, 36, 37, 38, 39, 40, 41, 42, 43, 44, 45, 46, 47, 48, 49, 50, 51, 52, 53, 54, 55, 56, 57, 58, 59, 60, 61, 62, 63, 64, 65, 66, 67, 68, 69] (fun q : Nat × Nat × Option Addr × Option Addr × Option Addr × Nat => [(6, .slice q.2.2.1 ((one x).length - q.1) (xc - q.1)), (7, .slice q.2.2.2.1 (Y.length - q.2.1) (yc - q.2.1)), (9, .slice q.2.2.2.2.1 (cT x Y q.1 q.2.1).length q.2.2.2.2.2)]) (fun q => [wnRow q.2.2.2.2.1 q.2.2.2.2.2 (cT x Y q.1 q.2.1), wnRow yA yc Y, wnRow xA xc (one x)]) (fun q => (q.1 ≤ (one x).length ∧ q.2.1 ≤ Y.length) ∧ (q.1 < (one x).length → q.2.2.1 = some ⟨bY xA, 0 + q.1 * 2, none⟩) ∧ (q.2.1 < Y.length → q.2.2.2.1 = some ⟨bY yA, 0 + q.2.1 * 2, none⟩) ∧ (x.lo = x.hi → q.2.1 = 0)) (fun q => ((one x).length - q.1) + (Y.length - q.2.1)) (0, 0, xA, yA, none, 0) ⟨rfl, rfl, by unfold cT; rfl, trivial⟩ (fun w hw => by unfold cT; exact hw) rfl ⟨⟨Nat.zero_le _, Nat.zero_le _⟩, hxA, hyA, fun _ => rfl⟩ ?_))
    rintro ⟨i, j, aX, aY, oA, oc⟩ g ⟨⟨hi, hj⟩, hax, hay, hjz⟩
    simp only at hi hj hax hay hjz
    have hcl := cT_len x Y i j
    refine H_seq (H_seq (R0 (xv (mvS rfl) (xv (e_len Tryz.underlying119 (q0 rfl)) (xv (e_gt (q0 rfl) (q0 rfl)) (xv (mvB rfl) (xt (mvS rfl) rfl rfl (xt (e_len Tryz.underlying119 (q1 rfl)) rfl rfl (xt (e_gt (q1 rfl) (q0 rfl)) rfl rfl ?_)))))))))
    refine xv (e_and (q0 rfl) rfl (fun h => by first | rfl | (rw [h]; rfl))) ?_
    refine XN (thenJ_normal (H_cond rfl (fun hlt => ?_) (fun hlt => ?_)))
    · have hlt' : i < (one x).length ∧ j < Y.length := by
        have h : (decide ((0 : Int) < (((one x).length - i : Nat) : Int)) && decide ((0 : Int) < ((Y.length - j : Nat) : Int))) = true := hlt
        simp at h; omega
      have hone : (one x).length = 1 ∧ one x = [x] ∧ x.lo ≠ x.hi := by
        unfold one at hlt' ⊢
        split at hlt' <;> rename_i he
        · simp at hlt'
        · rw [if_neg he]; exact ⟨rfl, rfl, he⟩
      have hi0 : i = 0 := by omega
      subst hi0
      obtain ⟨y, hyj⟩ : ∃ y, Y[j]? = some y := ⟨_, List.getElem?_eq_getElem hlt'.2⟩
      have hax' := hax hlt'.1
      have hay' := hay hlt'.2
      subst hax' hay'
      have hxj : (one x)[0]? = some x := by rw [hone.2.1]; rfl
      have hst := cT_step (x := x) hyj
      have hdn := cT_done (x := x) hYn hyj
      refine H_skip (thenJ_normal (H_block (H_seq (RA rfl (by decide +kernel) (aV 0 (by decide +kernel) rfl (mvS rfl) rfl (aV 1 (by decide +kernel) rfl (e_idx 0 Tryz.underlying119 Tryz.sizeOf79 (q0 rfl) (q0 rfl) (fun _ => ⟨rfl, by show 0 < (one x).length - 0; omega⟩)) rfl (aV 2 (by decide +kernel) rfl (e_fld Tryz.underlying79 rfl Tryz.sizeOf3 rfl (q0 rfl)) rfl (aV 3 (by decide +kernel) rfl (e_ld (v := .int .i64 x.lo) Tryz.isAgg3 (q0 rfl) (fun _ w hw => yCell (r := 0) hw (i := 2) rfl hxj rfl)) rfl (aV 4 (by decide +kernel) rfl (mvS rfl) rfl ?_)))))))))
      refine aV 5 (by decide +kernel) rfl (e_idx 0 Tryz.underlying119 Tryz.sizeOf79 (q0 rfl) (q0 rfl) (fun _ => ⟨rfl, by show 0 < Y.length - j; omega⟩)) rfl (aV 6 (by decide +kernel) rfl (e_fld Tryz.underlying79 rfl Tryz.sizeOf3 rfl (q0 rfl)) rfl (aV 7 (by decide +kernel) rfl (e_ld (v := .int .i64 y.lo) Tryz.isAgg3 (q0 rfl) (fun _ w hw => yCell (r := 0) hw (i := 1) rfl hyj rfl)) rfl (aV 8 (by decide +kernel) rfl (e_maxM (q0 rfl) (q0 rfl)) rfl (aV 9 (by decide +kernel) rfl (mvS rfl) rfl (aV 10 (by decide +kernel) rfl (e_idx 0 Tryz.underlying119 Tryz.sizeOf79 (q0 rfl) (q0 rfl) (fun _ => ⟨rfl, by show 0 < (one x).length - 0; omega⟩)) rfl (aV 11 (by decide +kernel) rfl (e_fld Tryz.underlying79 rfl Tryz.sizeOf3 rfl (q0 rfl)) rfl (aV 12 (by decide +kernel) rfl (e_ld (v := .int .i64 x.hi) Tryz.isAgg3 (q0 rfl) (fun _ w hw => yCell (r := 1) hw (i := 2) rfl hxj rfl)) rfl (aV 13 (by decide +kernel) rfl (mvS rfl) rfl (aV 14 (by decide +kernel) rfl (e_idx 0 Tryz.underlying119 Tryz.sizeOf79 (q0 rfl) (q0 rfl) (fun _ => ⟨rfl, by show 0 < Y.length - j; omega⟩)) rfl ?_)))))))))
      refine aV 15 (by decide +kernel) rfl (e_fld Tryz.underlying79 rfl Tryz.sizeOf3 rfl (q0 rfl)) rfl (aV 16 (by decide +kernel) rfl (e_ld (v := .int .i64 y.hi) Tryz.isAgg3 (q0 rfl) (fun _ w hw => yCell (r := 1) hw (i := 1) rfl hyj rfl)) rfl (aV 17 (by decide +kernel) rfl (e_minM (q0 rfl) (q0 rfl)) rfl (aV 18 (by decide +kernel) rfl (e_build Tryz.underlying79 fl79 Tryz.zeroValue79 (pt (v := .int _ _) rfl (pt (v := .int _ _) rfl E.p0)) rfl) rfl (rdy1 (i := 19) (by decide +kernel) (sub_drop 0) (aL rfl (f_alloc Tryz.zeroValue79 rfl fun b10 => (rdy1 (i := 20) (by decide +kernel) (sub_drop 1) (aL rfl (f_st (v := .agg _) rfl rfl Tryz.sizeOf79 ?_)))))))))
      refine aZ (by decide +kernel) (sub_drop 1) (thenJ_normal (H_seq (H_seq (R0 (xv (e_fld Tryz.underlying79 rfl Tryz.sizeOf3 rfl (q0 rfl)) (xv (eL Tryz.isAgg3 (q0 rfl)) ?_))))))
      refine xv (e_fld Tryz.underlying79 rfl Tryz.sizeOf3 rfl (q0 rfl)) (xv (eL Tryz.isAgg3 (q0 rfl)) ?_)
      refine xv (e_lt (q0 rfl) (q0 rfl)) (XN (thenJ_normal (H_cond rfl (fun h3 => ?_) (fun h3 => ?_))))
      · have h3' : cut1 x y = [⟨max x.lo y.lo, min x.hi y.hi⟩] := by
          have : max x.lo y.lo < min x.hi y.hi := of_decide_eq_true h3
          unfold cut1; rw [if_pos this]
        rw [h3'] at hst hdn
        refine R0 (xv (mvS rfl) (xv (eS Tryz.isAgg79 Tryz.sizeOf79 (q0 rfl)) ?_))
        refine X_push (k := 2) (i := Tryz.t79) 1 (⟨max x.lo y.lo, min x.hi y.hi⟩) Tryz.underlying119 (by kernel_rfl) rfl rfl rfl rfl Tryz.sizeOf79 Tryz.zeroValue79 rfl rfl rfl rfl rfl rfl ⟨by simp only; omega, by decide⟩ rfl rfl fun B0 A1 c1 => (xv (asS rfl) (XN (thenJ_normal (H_seq (R1 rfl (by decide +kernel) (xv (mvS rfl) (xv (e_idx 0 Tryz.underlying119 Tryz.sizeOf79 (q0 rfl) (q0 rfl) (fun _ => ⟨rfl, by show 0 < (one x).length - 0; omega⟩)) (xv (e_fld Tryz.underlying79 rfl Tryz.sizeOf3 rfl (q0 rfl)) (xv (e_ld (v := .int .i64 x.hi) Tryz.isAgg3 (q0 rfl) (fun _ w hw => yCell (r := 1) hw (i := 3) rfl hxj rfl)) ?_)))))))))
        refine xv (mvS rfl) (xv (e_idx 0 Tryz.underlying119 Tryz.sizeOf79 (q0 rfl) (q0 rfl) (fun _ => ⟨rfl, by show 0 < Y.length - j; omega⟩)) (xv (e_fld Tryz.underlying79 rfl Tryz.sizeOf3 rfl (q0 rfl)) (xv (e_ld (v := .int .i64 y.hi) Tryz.isAgg3 (q0 rfl) (fun _ w hw => yCell (r := 1) hw (i := 2) rfl hyj rfl)) (xv (e_lt (q0 rfl) (q0 rfl)) (XN (thenJ_normal (H_cond rfl (fun h4 => ?_) (fun h4 => ?_))))))))
        · have h4' : x.hi < y.hi := of_decide_eq_true h4
          have hdn' := hdn h4'
          refine R0 (xv (mvS rfl) (xv (e_slLoG 1 Tryz.underlying119 Tryz.sizeOf79 (q0 rfl) (q0 rfl) (fun _ => ⟨rfl, by show 1 ≤ (one x).length - 0; omega⟩)) (xv (asS rfl) (XN (blockJ_normal (loopJ_normal (1, j, cutAddr (some ⟨bY xA, 0 + 0 * 2, none⟩) (xc - 0) 1 2, some ⟨bY yA, 0 + j * 2, none⟩, A1, c1) agr ⟨rfl, rfl, by rw [hdn']; rfl, trivial⟩ (fun w hw => by rw [hdn']; exact hw.tail) rfl ⟨⟨by simp only; omega, by simp only; omega⟩, fun h => by simp only at h; omega, fun _ => rfl, fun h => absurd h hone.2.2⟩ (by simp only; omega)))))))
        · refine R0 (xv (mvS rfl) (xv (e_slLoG 1 Tryz.underlying119 Tryz.sizeOf79 (q0 rfl) (q0 rfl) (fun _ => ⟨rfl, by show 1 ≤ Y.length - j; omega⟩)) (xv (asS rfl) (XN (blockJ_normal (loopJ_normal (0, j + 1, some ⟨bY xA, 0 + 0 * 2, none⟩, cutAddr (some ⟨bY yA, 0 + j * 2, none⟩) (yc - j) 1 2, A1, c1) agr ⟨rfl, rfl, by rw [hst]; rfl, trivial⟩ (fun w hw => by rw [hst]; exact hw.tail) rfl ⟨⟨by simp only; omega, by simp only; omega⟩, fun _ => rfl, fun h => cut_at h hyc, fun h => absurd h hone.2.2⟩ (by simp only; omega)))))))
      · have h3' : cut1 x y = [] := by
          have : ¬ max x.lo y.lo < min x.hi y.hi := of_decide_eq_false h3
          unfold cut1; rw [if_neg this]
        rw [h3', List.append_nil] at hst hdn
        refine H_skip (thenJ_normal (H_seq (R1 rfl (by decide +kernel) (xv (mvS rfl) (xv (e_idx 0 Tryz.underlying119 Tryz.sizeOf79 (q0 rfl) (q0 rfl) (fun _ => ⟨rfl, by show 0 < (one x).length - 0; omega⟩)) (xv (e_fld Tryz.underlying79 rfl Tryz.sizeOf3 rfl (q0 rfl)) (xv (e_ld (v := .int .i64 x.hi) Tryz.isAgg3 (q0 rfl) (fun _ w hw => yCell (r := 1) hw (i := 3) rfl hxj rfl)) (xv (mvS rfl) (xv (e_idx 0 Tryz.underlying119 Tryz.sizeOf79 (q0 rfl) (q0 rfl) (fun _ => ⟨rfl, by show 0 < Y.length - j; omega⟩)) ?_)))))))))
        refine xv (e_fld Tryz.underlying79 rfl Tryz.sizeOf3 rfl (q0 rfl)) (xv (e_ld (v := .int .i64 y.hi) Tryz.isAgg3 (q0 rfl) (fun _ w hw => yCell (r := 1) hw (i := 2) rfl hyj rfl)) (xv (e_lt (q0 rfl) (q0 rfl)) (XN (thenJ_normal (H_cond rfl (fun h4 => ?_) (fun h4 => ?_))))))
        · have h4' : x.hi < y.hi := of_decide_eq_true h4
          have hdn' := hdn h4'
          refine R0 (xv (mvS rfl) (xv (e_slLoG 1 Tryz.underlying119 Tryz.sizeOf79 (q0 rfl) (q0 rfl) (fun _ => ⟨rfl, by show 1 ≤ (one x).length - 0; omega⟩)) (xv (asS rfl) (XN (blockJ_normal (loopJ_normal (1, j, cutAddr (some ⟨bY xA, 0 + 0 * 2, none⟩) (xc - 0) 1 2, some ⟨bY yA, 0 + j * 2, none⟩, oA, oc) agr ⟨rfl, rfl, by rw [hdn']; rfl, trivial⟩ (fun w hw => by rw [hdn']; exact hw.tail) rfl ⟨⟨by simp only; omega, by simp only; omega⟩, fun h => by simp only at h; omega, fun _ => rfl, fun h => absurd h hone.2.2⟩ (by simp only; omega)))))))
        · refine R0 (xv (mvS rfl) (xv (e_slLoG 1 Tryz.underlying119 Tryz.sizeOf79 (q0 rfl) (q0 rfl) (fun _ => ⟨rfl, by show 1 ≤ Y.length - j; omega⟩)) (xv (asS rfl) (XN (blockJ_normal (loopJ_normal (0, j + 1, some ⟨bY xA, 0 + 0 * 2, none⟩, cutAddr (some ⟨bY yA, 0 + j * 2, none⟩) (yc - j) 1 2, oA, oc) agr ⟨rfl, rfl, by rw [hst]; rfl, trivial⟩ (fun w hw => by rw [hst]; exact hw.tail) rfl ⟨⟨by simp only; omega, by simp only; omega⟩, fun _ => rfl, fun h => cut_at h hyc, fun h => absurd h hone.2.2⟩ (by simp only; omega)))))))
    · have hlt' : ¬ (i < (one x).length ∧ j < Y.length) := by
        have h : (decide ((0 : Int) < (((one x).length - i : Nat) : Int)) && decide ((0 : Int) < ((Y.length - j : Nat) : Int))) = false := hlt
        simp at h; omega
      have hend : cT x Y i j = commonP x Y := by
        by_cases he : x.lo = x.hi
        · have h0 : (one x).length = 0 := by unfold one; rw [if_pos he]; rfl
          have hi0 : i = 0 := by omega
          rw [common_none Y he, hi0, hjz he]
          unfold cT; rfl
        · have h0 : (one x).length = 1 := by unfold one; rw [if_neg he]; rfl
          rw [common_one Y he]
          unfold cT
          split
          · rw [List.take_of_length_le (by omega)]
          · rfl
      rw [hend]
      refine H_exit (thenJ_exit (loopJ_exit (blockJ_hit (thenJ_normal (H_seq (R0 (xv (mvS rfl) (xv (asS rfl) (xv (asI rfl) ?_)))))))))
      refine XN (thenJ_normal (H_ret ?_))
      exact ret2 (v := .slice _ _ _) (x := .int _ _) rfl rfl rfl rfl fun w' hw => ⟨(oA, oc), rfl, hw.pick [0] (by decide)⟩

end Go.Proofs.Far

/-
  The walks: clock.Minus of one window without others, clock.Length.
-/
namespace Go.Proofs.Far
open Go Go.RowKit Go.Proofs.E Go.Proofs.Cus

/-- what is done of a window behind the first j others, i more of which count -/
def mS (x : Wn) (Y : List Wn) (j i : Nat) : List Wn × Int := ((Y.drop j).take i).foldl (mstep x) ([], x.lo)
theorem mS_zero (x : Wn) (Y : List Wn) (j : Nat) : mS x Y j 0 = ([], x.lo) := rfl
theorem get_drop {Y : List Wn} {j i : Nat} {y : Wn} (h : Y[j + i]? = some y) : (Y.drop j)[i]? = some y := by rw [List.getElem?_drop]; exact h
theorem mS_succ {x : Wn} {Y : List Wn} {j i : Nat} {y : Wn} (h : Y[j + i]? = some y) : mS x Y j (i + 1) = mstep x (mS x Y j i) y := by
  unfold mS
  rw [snocT _ _ _ (get_drop h), List.foldl_append]; rfl
theorem mS_skip {x : Wn} {Y : List Wn} {j : Nat} {y : Wn} (hY : Nf Y) (hj : Y[j]? = some y) (h : y.hi ≤ x.lo) (i : Nat) : mS x Y j (i + 1) = mS x Y (j + 1) i := by
  unfold mS
  rw [drop_at hj, List.take_succ_cons, List.foldl_cons, mstep_early (hY.pos y (List.mem_of_getElem? hj)) h]
theorem mS_all (x : Wn) (Y : List Wn) {j i : Nat} (h : Y.length ≤ j + i) : mS x Y j i = (Y.drop j).foldl (mstep x) ([], x.lo) := by
  unfold mS
  rw [List.take_of_length_le (by rw [List.length_drop]; omega)]
theorem mS_stop {x : Wn} {Y : List Wn} {j i : Nat} {y : Wn} (hY : Nf Y) (h : Y[j + i]? = some y) (hh : x.hi ≤ y.lo) : mS x Y j i = (Y.drop j).foldl (mstep x) ([], x.lo) := by
  unfold mS
  conv => rhs; rw [← List.take_append_drop i (Y.drop j)]
  rw [List.foldl_append]
  refine (mstep_late _ fun q hq => ?_).symm
  rw [List.drop_drop] at hq
  have hd := hY.drop (j + i)
  rw [drop_at h] at hd hq
  rcases List.mem_cons.1 hq with rfl | hq
  · exact hh
  · have := hd.ascend q hq; omega
theorem mS_len (x : Wn) (Y : List Wn) (j i : Nat) : (mS x Y j i).1.length ≤ Y.length := by
  unfold mS
  have := mfold_len (w := x) ((Y.drop j).take i) ([], x.lo)
  rw [List.length_take, List.length_drop] at this
  simp only [List.length_nil, Nat.zero_add] at this
  omega
theorem mS_WOk {x : Wn} (hx : 0 ≤ x.lo ∧ x.lo ≤ x.hi ∧ x.hi ≤ 4294944000) {Y : List Wn} (hY : WOk Y) (j i : Nat) : 0 ≤ (mS x Y j i).2 ∧ (mS x Y j i).2 ≤ 4294944000 :=
  (mfold_WOk hx _ ([], x.lo) (fun q hq => hY q (List.mem_of_mem_drop (List.mem_of_mem_take hq))) ⟨WOk.nil, by simp only; omega, by simp only; omega⟩).2
theorem minus_one {x : Wn} (Y : List Wn) (h : ¬ x.lo = x.hi) : minusP x Y = minus1 x Y := by
  unfold minusP one; rw [if_neg h]; simp
theorem minus_none {x : Wn} (Y : List Wn) (h : x.lo = x.hi) : minusP x Y = [] := by
  unfold minusP one; rw [if_pos h]; rfl
theorem minus1_eq {x : Wn} {Y : List Wn} {j i : Nat} (hE : ∀ q, mS x Y 0 (j + q) = mS x Y j q) (h : mS x Y j i = (Y.drop j).foldl (mstep x) ([], x.lo)) : minus1 x Y = mend x (mS x Y j i) := by
  unfold minus1
  congr 1
  rw [h, ← mS_all x Y (j := j) (i := Y.length) (by omega), ← hE, mS_all x Y (by omega)]; rfl
theorem getD_at {Y : List Wn} {j : Nat} (h : j < Y.length) : Y[j]? = some (Y.getD j default) := by rw [List.getD_eq_getElem?_getD, List.getElem?_eq_getElem h]; rfl
theorem yCell2 {w0 w : World} {L : List E.Item} {k c j i r : Nat} {A : Option Addr} {ys : List Wn} {y : Wn} {v : Value} (hw : Mem w0 L w) (hk : L[k]? = some (wnRow A c ys)) (hy : ys[j + i]? = some y) (hv : y.cells[r]? = some v) : w.cell? ⟨bY A, 0 + j * 2 + i * 2 + r, none⟩ = some v := by
  have := yCell (r := r) hw hk hy hv
  rw [show 0 + j * 2 + i * 2 + r = 0 + (j + i) * 2 + r by omega]
  exact this
attribute [local irreducible] mS mstep
set_option maxHeartbeats 2000000 in
set_option maxRecDepth 20000 in
theorem minus_w (A : Option Addr) (c : Nat) (x : Wn) (B : Option Addr) (m d : Nat) (ys : List Wn) (w : World) (hx : WnsAt w A 1 [x]) (hy : WnsAt w B m ys) (hm : m ≤ 10000) (hxv : 0 ≤ x.lo ∧ x.lo ≤ x.hi ∧ x.hi ≤ 4294944000) (hyv : WOk ys) : Calls Tryz.prog 116 #[.slice A 1 c, .slice B m d] w fun e w' => ∃ z : Option Addr × Nat, e = .returned (.tuple #[.slice z.1 (minusP x (unionP ys)).length z.2, .int .i64 0]) ∧ Mem w [wnRow z.1 z.2 (minusP x (unionP ys))] w' := by
  have hul := union_len ys
  have hyl := hy.1
  have hYn := (union_nf hyv.le).1
  have hYv := union_WOk hyv
  refine H_enter Tryz.func116 rfl Tryz.ntmps116 rfl (H_seq (R0 (xv (asS rfl) (xv (asI rfl) (XN (thenJ_normal (H_seq (R0 (xv (mvS rfl) ?_)))))))))
  refine xv (mvS rfl) (xCX (en Tryz.call167 (ha2 (q0 rfl) (q0 rfl))) (fun w hw => both_w A 1 c [x] B m d ys w (hx.mem hw) (hy.mem hw) (by decide) hm (WOk.one hxv) hyv) rfl (fun _ => rfl) fun z => ?_)
  rw [union_one]
  obtain ⟨⟨xA, xc⟩, ⟨yA, yc⟩⟩ := z
  generalize hY : unionP ys = Y at *
  refine xv (e_mv (q0 rfl)) (xv (e_ext (q0 rfl) rfl) (xv (e_ext (q0 rfl) rfl) (xv (e_ext (q0 rfl) rfl) (xv (asS rfl) (xv (asS rfl) (xv (asI rfl) (XN (thenJ_normal (H_seq ?_)))))))))
  refine H_seq (R0 (xv (mvI rfl) (xv (e_ne (q0 rfl) (q0 rfl)) (XN (thenJ_normal (H_cond rfl (fun h1 => ?_) (fun h1 => ?_)))))))
  · exfalso; simp at h1
  · refine H_skip (thenJ_normal (H_seq (H_know (fun w hw => yAt0 hw (i := 0) rfl) fun ⟨hyA, hyc⟩ => (H_know (fun w hw => yAt0 hw (i := 1) rfl) fun ⟨hxA, hxc⟩ => (H_mem (L' := [wnRow none 0 [], wnRow yA yc Y, wnRow xA xc (one x)]) (fun w hw => hw.nilRow 79 2 Wn.cells rfl) rfl (R0 (xv (asS rfl) (XN (thenJ_normal ?_)))))))))
    refine H_seq (H_seq (R0 (xv (mvS rfl) (xv (e_len Tryz.underlying119 (q0 rfl)) (xv (mvI rfl) (XN (thenJ_normal (H_block (H_loop [7, 9, 11, 12, 14, 27, 28, 29, 30, 31, 32, 33, 34, 35, 36, 37, 38, 39, 40, 41, 42, 43, 44, 45, 46, 47, 48, 49, 50, 51, 52, 53, 54, 55, 56, 57, 58, 59, 60, 61, 62, 63, 64, 65, 66, 67, 68, 69, 70, 71, 72, 73, 74, 75, 76, 77, 78, 79, 80, 81, 82, 83, 84, 85] (fun q : Nat × Value × Option Addr × Nat => [(27, .int .i64 q.1), (7, q.2.1), (9, .slice q.2.2.1 (if q.1 = 0 then ([] : List Wn) else minusP x Y).length q.2.2.2)]) (fun q => [wnRow q.2.2.1 q.2.2.2 (if q.1 = 0 then [] else minusP x Y), wnRow yA yc Y, wnRow xA xc (one x)]) (fun q => q.1 ≤ (one x).length ∧ (q.1 = 0 → q.2.1 = .slice yA Y.length yc)) (fun q => (one x).length - q.1) (0, .slice yA Y.length yc, none, 0) ⟨rfl, rfl, rfl, trivial⟩ (fun w hw => hw) rfl ⟨Nat.zero_le _, fun _ => rfl⟩ ?_)))))))))
    rintro ⟨k, yV, oA, oc⟩ g ⟨hk, hyV⟩
    simp only at hk hyV
    refine H_seq (R0 (xv (e_lt (q0 rfl) (q0 rfl)) (XN (thenJ_normal (H_seq (H_cond rfl (fun hlt => ?_) (fun hlt => ?_)))))))
    · have hlt' : k < (one x).length := by
        have h : (k : Int) < ((one x).length : Int) := of_decide_eq_true hlt
        omega
      have hone : (one x).length = 1 ∧ one x = [x] ∧ ¬ x.lo = x.hi := by
        unfold one at hlt' ⊢
        split at hlt' <;> rename_i he
        · simp at hlt'
        · rw [if_neg he]; exact ⟨rfl, rfl, he⟩
      have hk0 : k = 0 := by omega
      subst hk0
      have hyV' := hyV rfl
      subst hyV'
      have hxA' := hxA (by omega)
      have hxj : (one x)[0]? = some x := by rw [hone.2.1]; rfl
      obtain ⟨xb, hxb⟩ : ∃ xb, xA = some ⟨xb, 0, none⟩ := ⟨_, hxA'⟩
      subst hxb
      clear hxA hxA'
      rw [if_pos (rfl : (0 : Nat) = 0)]
      refine H_skip (thenJ_normal (H_seq (H_block (H_seq (R0 (xv (e_idx 0 Tryz.underlying119 Tryz.sizeOf79 (q0 rfl) (q0 rfl) (fun _ => ⟨rfl, hlt'⟩)) (xv (e_lds (vs := x.cells) Tryz.isAgg79 Tryz.sizeOf79 (q0 rfl) (rrs 2 rfl hxj) rfl) (X_alloc Tryz.zeroValue79 rfl fun b11 => (X_st (v := .agg _) rfl rfl Tryz.sizeOf79 ?_)))))))))
      refine XN (thenJ_normal (H_seq (H_block (H_loop [7, 31, 32, 33, 34, 35, 36, 37, 38, 39, 40, 41, 42, 43, 44] (fun q : Nat × Option Addr => [(7, .slice q.2 (Y.length - q.1) (yc - q.1))]) (fun q => [box b11 79 x.cells, wnRow oA oc [], wnRow yA yc Y, wnRow (some ⟨xb, 0, none⟩) xc (one x)]) (fun q => q.1 ≤ Y.length ∧ (q.1 < Y.length → q.2 = some ⟨bY yA, 0 + q.1 * 2, none⟩) ∧ (∀ i, mS x Y 0 (q.1 + i) = mS x Y q.1 i)) (fun q => Y.length - q.1) (0, yA) ⟨rfl, trivial⟩ (fun w hw => hw) rfl ⟨Nat.zero_le _, hyA, fun i => by simp only [Nat.zero_add]⟩ ?_))))
      rintro ⟨j, aY⟩ g2 ⟨hj, hay, hE⟩
      simp only at hj hay hE
      refine H_seq (H_seq (R1 rfl (by decide +kernel) (xv (mvS rfl) (xv (e_len Tryz.underlying119 (q0 rfl)) (xv (e_gt (q0 rfl) (q0 rfl)) (xv (mvB rfl) (xt (mvS rfl) rfl rfl (xt (e_idx (b := bY yA) (o := 0 + j * 2) (n := Y.length - j) (cp := yc - j) 0 Tryz.underlying119 Tryz.sizeOf79 (fun hg => by rw [← hay (by simp at hg; omega)]; exact q1 rfl hg) (q0 rfl) (fun hg => ⟨rfl, by simp at hg; omega⟩)) rfl rfl (xt (e_fld Tryz.underlying79 rfl Tryz.sizeOf3 rfl (q1 rfl)) rfl rfl ?_)))))))))
      refine xt (e_ld (v := .int .i64 (Y.getD j default).hi) Tryz.isAgg3 (q1 rfl) (fun hg w hw => yCell (r := 1) hw (i := 2) rfl (y := Y.getD j default) (getD_at (by simp at hg; omega)) rfl)) rfl rfl (xt (e_fld Tryz.underlying79 rfl Tryz.sizeOf3 rfl (q0 rfl)) rfl rfl (xt (eL Tryz.isAgg3 (q1 rfl)) rfl rfl ?_))
      refine xt (e_le (q1 rfl) (q1 rfl)) rfl rfl (xv (e_and (q0 rfl) rfl (fun h => by first | rfl | (rw [h]; rfl))) ?_)
      refine XN (thenJ_normal (H_cond rfl (fun h2 => ?_) (fun h2 => ?_)))
      · have h2' : j < Y.length ∧ (Y.getD j default).hi ≤ x.lo := by
          have h : (decide ((0 : Int) < ((Y.length - j : Nat) : Int)) && decide ((Y.getD j default).hi ≤ x.lo)) = true := h2
          simp only [Bool.and_eq_true, decide_eq_true_eq] at h
          exact ⟨by omega, h.2⟩
        obtain ⟨y, hyj⟩ : ∃ y, Y[j]? = some y := ⟨_, List.getElem?_eq_getElem h2'.1⟩
        have hyd : Y.getD j default = y := by rw [List.getD_eq_getElem?_getD, hyj]; rfl
        rw [hyd] at h2'
        have hay' := hay h2'.1
        subst hay'
        refine H_skip (thenJ_normal (H_block (R0 (xv (mvS rfl) (xv (e_slLoG 1 Tryz.underlying119 Tryz.sizeOf79 (q0 rfl) (q0 rfl) (fun _ => ⟨rfl, by show 1 ≤ Y.length - j; omega⟩)) (xv (asS rfl) (XN (blockJ_normal ?_))))))))
        exact loopJ_normal (j + 1, cutAddr (some ⟨bY yA, 0 + j * 2, none⟩) (yc - j) 1 2) agr ⟨rfl, trivial⟩ (fun w hw => hw) rfl ⟨by simp only; omega, fun h => cut_at h hyc, fun i => by
          simp only
          rw [← mS_skip hYn hyj h2'.2, ← hE]
          congr 1; omega⟩ (by simp only; omega)
      · refine H_exit (thenJ_exit (loopJ_exit (blockJ_hit (thenJ_normal (H_seq (R0 (xv (e_fld Tryz.underlying79 rfl Tryz.sizeOf3 rfl (q0 rfl)) (xv (eL Tryz.isAgg3 (q0 rfl)) ?_))))))))
        refine xv (asI rfl) (XN (thenJ_normal (H_seq (H_seq (R0 (xv (mvS rfl) (xv (e_len Tryz.underlying119 (q0 rfl)) (xv (mvI rfl) (XN ?_)))))))))
        refine thenJ_normal (H_cut [9, 12, 14, 49, 50, 51, 52, 53, 54, 55, 56, 57, 58, 59, 60, 61, 62, 63, 64, 65, 66, 67, 68, 69, 70, 71, 72, 73] (fun q : Nat × Option Addr × Nat => [(9, .slice q.2.1 (mS x Y j q.1).1.length q.2.2), (12, .int .i64 (mS x Y j q.1).2)]) (fun q => [wnRow q.2.1 q.2.2 (mS x Y j q.1).1, box b11 79 x.cells, wnRow yA yc Y, wnRow (some ⟨xb, 0, none⟩) xc (one x)]) (fun q => mS x Y j q.1 = (Y.drop j).foldl (mstep x) ([], x.lo)) ?_ ?_)
        · refine H_block (H_loop [9, 12, 14, 49, 50, 51, 52, 53, 54, 55, 56, 57, 58, 59, 60, 61, 62, 63, 64, 65, 66, 67, 68, 69, 70, 71, 72, 73] (fun q : Nat × Option Addr × Nat => [(49, .int .i64 q.1), (9, .slice q.2.1 (mS x Y j q.1).1.length q.2.2), (12, .int .i64 (mS x Y j q.1).2)]) (fun q => [wnRow q.2.1 q.2.2 (mS x Y j q.1).1, box b11 79 x.cells, wnRow yA yc Y, wnRow (some ⟨xb, 0, none⟩) xc (one x)]) (fun q => q.1 ≤ Y.length - j) (fun q => (Y.length - j) - q.1) (0, oA, oc) ⟨rfl, by rw [mS_zero]; rfl, by rw [mS_zero]; rfl, trivial⟩ (fun w hw => by rw [mS_zero]; exact hw.mv1) rfl (Nat.zero_le _) ?_)
          rintro ⟨i, pA, pc⟩ g3 hi
          simp only at hi
          refine H_seq (R0 (xv (e_lt (q0 rfl) (q0 rfl)) (XN (thenJ_normal (H_seq (H_cond rfl (fun h3 => ?_) (fun h3 => ?_)))))))
          · have h3' : i < Y.length - j := by
              have h : (i : Int) < ((Y.length - j : Nat) : Int) := of_decide_eq_true h3
              omega
            obtain ⟨y, hyj⟩ : ∃ y, Y[j + i]? = some y := ⟨_, List.getElem?_eq_getElem (by omega)⟩
            have hay' := hay (by omega)
            subst hay'
            have hms := mS_succ (x := x) hyj
            have hml := mS_len x Y j i
            have hmw := mS_WOk hxv hYv j i
            have hyw := hYv y (List.mem_of_getElem? hyj)
            refine H_skip (thenJ_normal (H_seq (H_block (H_seq (R0 (xv (e_idx i Tryz.underlying119 Tryz.sizeOf79 (q0 rfl) (q0 rfl) (fun _ => ⟨rfl, h3'⟩)) (xv (e_lds (vs := y.cells) Tryz.isAgg79 Tryz.sizeOf79 (q0 rfl) (fun _ w hw q u hu => yCell2 (r := q) hw (k := 2) rfl hyj hu) rfl) (X_alloc Tryz.zeroValue79 rfl fun b14 => (X_st (v := .agg _) rfl rfl Tryz.sizeOf79 ?_)))))))))
            refine XN (thenJ_normal (H_seq (H_seq (R0 (xv (e_fld Tryz.underlying79 rfl Tryz.sizeOf3 rfl (q0 rfl)) (xv (eL Tryz.isAgg3 (q0 rfl)) ?_))))))
            refine xv (e_fld Tryz.underlying79 rfl Tryz.sizeOf3 rfl (q0 rfl)) (xv (eL Tryz.isAgg3 (q0 rfl)) ?_)
            refine xv (e_ge (q0 rfl) (q0 rfl)) (XN (thenJ_normal (H_cond rfl (fun h4 => ?_) (fun h4 => ?_))))
            · have h4' : x.hi ≤ y.lo := of_decide_eq_true h4
              refine H_exit (thenJ_exit (blockJ_pass rfl (thenJ_exit (loopJ_exit (blockJ_hit ?_)))))
              exact cutJ_normal (i, pA, pc) agr ⟨rfl, rfl, trivial⟩ (fun w hw => hw.tail) rfl (mS_stop hYn hyj h4')
            · have h4' : ¬ x.hi ≤ y.lo := of_decide_eq_false h4
              unfold mstep at hms
              rw [if_neg h4'] at hms
              refine H_skip (thenJ_normal (H_seq (H_seq (R0 (xv (mvI rfl) (xv (e_fld Tryz.underlying79 rfl Tryz.sizeOf3 rfl (q0 rfl)) (xv (eL Tryz.isAgg3 (q0 rfl)) ?_)))))))
              refine xv (e_lt (q0 rfl) (q0 rfl)) (XN (thenJ_normal (H_cond rfl (fun h5 => ?_) (fun h5 => ?_))))
              · have h5' : (mS x Y j i).2 < y.lo := of_decide_eq_true h5
                rw [if_pos h5'] at hms
                refine R0 (xv (mvS rfl) (xv (mvI rfl) (xv (e_fld Tryz.underlying79 rfl Tryz.sizeOf3 rfl (q0 rfl)) (xv (eL Tryz.isAgg3 (q0 rfl)) ?_))))
                refine xv (e_build Tryz.underlying79 fl79 Tryz.zeroValue79 (pt (v := .int _ _) rfl (pt (v := .int _ _) rfl E.p0)) rfl) (X_push (k := 2) (i := Tryz.t79) 1 (⟨(mS x Y j i).2, y.lo⟩) Tryz.underlying119 (by kernel_rfl) rfl rfl rfl rfl Tryz.sizeOf79 Tryz.zeroValue79 rfl rfl rfl rfl rfl rfl ⟨by simp only; omega, by decide⟩ rfl rfl fun B0 A1 c1 => (xv (asS rfl) (XN (thenJ_normal (R0 (xv (mvI rfl) (xv (e_fld Tryz.underlying79 rfl Tryz.sizeOf3 rfl (q0 rfl)) (xv (eL Tryz.isAgg3 (q0 rfl)) ?_))))))))
                refine xv (e_maxM (q0 rfl) (q0 rfl)) (xv (asI rfl) (XN (blockJ_normal (thenJ_normal (R0 (xv (e_add (q0 rfl) (q0 rfl) (fun _ => ⟨rfl, by omega, by omega⟩)) (xv (mvI rfl) (XN (loopJ_normal (i + 1, A1, c1) agr ⟨rfl, by rw [hms]; rfl, by rw [hms]; rfl, trivial⟩ (fun w hw => by rw [hms]; exact hw.tail) rfl (by simp only; omega) (by simp only; omega))))))))))
              · have h5' : ¬ (mS x Y j i).2 < y.lo := of_decide_eq_false h5
                rw [if_neg h5'] at hms
                refine H_skip (thenJ_normal (R0 (xv (mvI rfl) (xv (e_fld Tryz.underlying79 rfl Tryz.sizeOf3 rfl (q0 rfl)) (xv (eL Tryz.isAgg3 (q0 rfl)) ?_)))))
                refine xv (e_maxM (q0 rfl) (q0 rfl)) (xv (asI rfl) (XN (blockJ_normal (thenJ_normal (R0 (xv (e_add (q0 rfl) (q0 rfl) (fun _ => ⟨rfl, by omega, by omega⟩)) (xv (mvI rfl) (XN (loopJ_normal (i + 1, pA, pc) agr ⟨rfl, by rw [hms]; rfl, by rw [hms]; rfl, trivial⟩ (fun w hw => by rw [hms]; exact hw.tail) rfl (by simp only; omega) (by simp only; omega))))))))))
          · have h3' : i = Y.length - j := by
              have h : ¬ (i : Int) < ((Y.length - j : Nat) : Int) := of_decide_eq_false h3
              omega
            refine H_exit (thenJ_exit (loopJ_exit (blockJ_hit ?_)))
            exact cutJ_normal (i, pA, pc) agr ⟨rfl, rfl, trivial⟩ (fun w hw => hw) rfl (mS_all x Y (by simp only; omega))
        · rintro ⟨i, pA, pc⟩ g4 hfull
          simp only at hfull
          have hml := mS_len x Y j i
          have hfin : minusP x Y = mend x (mS x Y j i) := by rw [minus_one Y hone.2.2, minus1_eq hE hfull]
          refine thenJ_normal (H_seq (R0 (xv (mvI rfl) (xv (e_fld Tryz.underlying79 rfl Tryz.sizeOf3 rfl (q0 rfl)) (xv (eL Tryz.isAgg3 (q0 rfl)) ?_)))))
          refine xv (e_lt (q0 rfl) (q0 rfl)) (XN (thenJ_normal (H_cond rfl (fun h6 => ?_) (fun h6 => ?_))))
          · have h6' : (mS x Y j i).2 < x.hi := of_decide_eq_true h6
            unfold mend at hfin
            rw [if_pos h6'] at hfin
            refine R0 (xv (mvS rfl) (xv (mvI rfl) (xv (e_fld Tryz.underlying79 rfl Tryz.sizeOf3 rfl (q0 rfl)) (xv (eL Tryz.isAgg3 (q0 rfl)) ?_))))
            refine xv (e_build Tryz.underlying79 fl79 Tryz.zeroValue79 (pt (v := .int _ _) rfl (pt (v := .int _ _) rfl E.p0)) rfl) (X_push (k := 2) (i := Tryz.t79) 0 (⟨(mS x Y j i).2, x.hi⟩) Tryz.underlying119 (by kernel_rfl) rfl rfl rfl rfl Tryz.sizeOf79 Tryz.zeroValue79 rfl rfl rfl rfl rfl rfl ⟨by simp only; omega, by decide⟩ rfl rfl fun B0 A1 c1 => (xv (asS rfl) (XN (blockJ_normal (thenJ_normal (R0 (xv (e_add (q0 rfl) (q0 rfl) (fun _ => ⟨rfl, by omega, by omega⟩)) (xv (mvI rfl) (XN ?_)))))))))
            exact loopJ_normal (1, .slice aY (Y.length - j) (yc - j), A1, c1) agr ⟨rfl, rfl, by rw [if_neg (show ¬ (1 : Nat) = 0 by decide), hfin]; rfl, trivial⟩ (fun w hw => by rw [if_neg (show ¬ (1 : Nat) = 0 by decide), hfin]; exact hw.fr1.tail) rfl ⟨by simp only; omega, fun h => by cases h⟩ (by simp only; omega)
          · have h6' : ¬ (mS x Y j i).2 < x.hi := of_decide_eq_false h6
            unfold mend at hfin
            rw [if_neg h6'] at hfin
            refine H_skip (blockJ_normal (thenJ_normal (R0 (xv (e_add (q0 rfl) (q0 rfl) (fun _ => ⟨rfl, by omega, by omega⟩)) (xv (mvI rfl) (XN ?_))))))
            exact loopJ_normal (1, .slice aY (Y.length - j) (yc - j), pA, pc) agr ⟨rfl, rfl, by rw [if_neg (show ¬ (1 : Nat) = 0 by decide), hfin]; rfl, trivial⟩ (fun w hw => by rw [if_neg (show ¬ (1 : Nat) = 0 by decide), hfin]; exact hw.fr1.tail) rfl ⟨by simp only; omega, fun h => by cases h⟩ (by simp only; omega)
    · have hlt' : ¬ k < (one x).length := by
        have h : ¬ (k : Int) < ((one x).length : Int) := of_decide_eq_false hlt
        omega
      have hend : (if k = 0 then [] else minusP x Y) = minusP x Y := by
        by_cases he : x.lo = x.hi
        · rw [minus_none Y he]; split <;> rfl
        · have h0 : (one x).length = 1 := by unfold one; rw [if_neg he]; rfl
          rw [if_neg (by omega)]
      rw [hend]
      refine H_exit (thenJ_exit (loopJ_exit (blockJ_hit (thenJ_normal (H_seq (R0 (xv (mvS rfl) (xv (asS rfl) (xv (asI rfl) ?_)))))))))
      refine XN (thenJ_normal (H_ret ?_))
      exact ret2 (v := .slice _ _ _) (x := .int _ _) rfl rfl rfl rfl fun w' hw => ⟨(oA, oc), rfl, hw.pick [0] (by decide)⟩

def sT (l : List Wn) (k : Nat) : Int := sumW (l.take k)
theorem sT_succ {l : List Wn} {k : Nat} {x : Wn} (h : l[k]? = some x) : sT l (k + 1) = sT l k + (x.hi - x.lo) := by
  unfold sT sumW
  rw [snocT _ _ _ h, List.map_append, List.sum_append]; simp
theorem sT_bound {l : List Wn} (h : WOk l) (hl : l.length ≤ 10000) : ∀ k, k ≤ l.length → 0 ≤ sT l k ∧ sT l k ≤ 4294944000 * (k : Int)
  | 0, _ => by unfold sT sumW; simp
  | k + 1, hk => by
    obtain ⟨x, hx⟩ : ∃ x, l[k]? = some x := ⟨_, List.getElem?_eq_getElem (by omega)⟩
    have ih := sT_bound h hl k (by omega)
    have := h x (List.mem_of_getElem? hx)
    rw [sT_succ hx]
    omega
attribute [local irreducible] sT
set_option maxHeartbeats 1000000 in
theorem length_w (A : Option Addr) (n c : Nat) (xs : List Wn) (w : World) (hx : WnsAt w A n xs) (hn : n ≤ 10000) (hv : WOk xs) : Calls Tryz.prog 74 #[.slice A n c] w fun e w' => e = .returned (.tuple #[.int .i64 (lenP xs), .int .i64 0]) ∧ Bel w w' := by
  have hl := hx.1
  have hul := union_len xs
  have hYv := union_WOk hv
  refine H_enter Tryz.func74 rfl Tryz.ntmps74 rfl (H_seq (R0 (xv (asI rfl) (xv (asI rfl) (XN (thenJ_normal (H_seq (R0 (xv (mvS rfl) ?_)))))))))
  refine xCX (en Tryz.call120 (ha1 (q0 rfl))) (fun w hw => union_w A n c xs w (hx.mem hw) hn hv) rfl (fun _ => rfl) fun z => ?_
  have hlen : lenP xs = sT (unionP xs) (unionP xs).length := by unfold lenP sT; rw [List.take_length]
  rw [hlen]
  generalize unionP xs = Y at *
  obtain ⟨yA, yc⟩ := z
  refine xv (e_mv (q0 rfl)) (xv (e_ext (q0 rfl) rfl) (xv (e_ext (q0 rfl) rfl) (xv (asS rfl) (xv (asI rfl) (XN (thenJ_normal (H_seq (H_seq (R0 ?_)))))))))
  refine xv (mvI rfl) (xv (e_ne (q0 rfl) (q0 rfl)) (XN (thenJ_normal (H_cond rfl (fun h1 => ?_) (fun h1 => ?_)))))
  · exfalso; simp at h1
  · refine H_skip (thenJ_normal (H_seq (R0 (xv (asI rfl) (XN (thenJ_normal (H_seq (H_seq (R0 ?_)))))))))
    refine xv (mvS rfl) (xv (e_len Tryz.underlying119 (q0 rfl)) (xv (mvI rfl) (XN (thenJ_normal (H_block (H_loop [6, 8, 19, 20, 21, 22, 23, 24, 25, 26, 27, 28, 29, 30] (fun k : Nat => [(19, .int .i64 k), (6, .int .i64 (sT Y k))]) (fun _ => [wnRow yA yc Y]) (fun k => k ≤ Y.length) (fun k => Y.length - k) 0 ⟨rfl, by unfold sT; rfl, trivial⟩ (fun w hw => hw) rfl (Nat.zero_le _) ?_))))))
    rintro k g hk
    refine H_seq (R0 (xv (e_lt (q0 rfl) (q0 rfl)) (XN (thenJ_normal (H_seq (H_cond rfl (fun hlt => ?_) (fun hlt => ?_)))))))
    · have hlt' : k < Y.length := by simpa using hlt
      obtain ⟨x, hxk⟩ : ∃ x, Y[k]? = some x := ⟨_, List.getElem?_eq_getElem hlt'⟩
      refine H_know (fun w hw => rowT_at (j := 0) hw rfl (by omega)) fun ⟨q, hq⟩ => ?_
      subst hq
      have hs := sT_succ hxk
      have hb := sT_bound hYv (by omega) k hk
      have hxw := hYv x (List.mem_of_getElem? hxk)
      refine H_skip (thenJ_normal (H_seq (H_block (H_seq (R0 (xv (e_idx k Tryz.underlying119 Tryz.sizeOf79 (q0 rfl) (q0 rfl) (fun _ => ⟨rfl, hlt'⟩)) (xv (e_lds (vs := x.cells) Tryz.isAgg79 Tryz.sizeOf79 (q0 rfl) (rrs 0 rfl hxk) rfl) (X_alloc Tryz.zeroValue79 rfl fun b8 => (X_st (v := .agg _) rfl rfl Tryz.sizeOf79 ?_)))))))))
      refine XN (thenJ_normal (R0 (xv (mvI rfl) (xv (e_fld Tryz.underlying79 rfl Tryz.sizeOf3 rfl (q0 rfl)) (xv (eL Tryz.isAgg3 (q0 rfl)) ?_)))))
      refine xv (e_fld Tryz.underlying79 rfl Tryz.sizeOf3 rfl (q0 rfl)) (xv (eL Tryz.isAgg3 (q0 rfl)) ?_)
      refine xv (e_sub (r := x.hi - x.lo) (q0 rfl) (q0 rfl) (fun _ => ⟨rfl, by omega, by omega⟩)) (xv (e_add (r := sT Y (k + 1)) (q0 rfl) (q0 rfl) (fun _ => ⟨by rw [hs], by omega, by omega⟩)) (xv (asI rfl) (XN (blockJ_normal (thenJ_normal (R0 (xv (e_add (q0 rfl) (q0 rfl) (fun _ => ⟨rfl, by omega, by omega⟩)) (xv (mvI rfl) (XN ?_)))))))))
      exact loopJ_normal (k + 1) agr ⟨rfl, rfl, trivial⟩ (fun w hw => hw.tail) rfl (by show k + 1 ≤ Y.length; omega) (by show Y.length - (k + 1) < Y.length - k; omega)
    · have hend : k = Y.length := by simp at hlt; omega
      subst hend
      refine H_exit (thenJ_exit (loopJ_exit (blockJ_hit (thenJ_normal (H_seq (R0 (xv (mvI rfl) (xv (asI rfl) (xv (asI rfl) ?_)))))))))
      refine XN (thenJ_normal (H_ret ?_))
      exact ret2 (v := .int _ _) (x := .int _ _) rfl rfl rfl rfl fun w' hw => ⟨rfl, hw.1⟩

end Go.Proofs.Far

/-
  Plain functions: the certain time of a ride (no program in sight).
-/
namespace Go.Proofs.Far
open Go.Proofs.Cus Go.Proofs.Rid

def sureW (r : Rd) : Wn := ⟨r.start.hi, max r.start.hi r.end_.lo⟩
def sureZ (p : Pz) : Wn := ⟨p.from_.hi, max p.from_.hi p.to_.lo⟩
def possZ (p : Pz) : Wn := ⟨p.from_.lo, max p.from_.lo p.to_.hi⟩
def ridW (r : Rd) : List Wn := minusP (sureW r) (unionP (r.pauses.map possZ))
def pauW (r : Rd) : List Wn := commonP (sureW r) (unionP (r.pauses.map sureZ))
def ridS (r : Rd) : Int := lenP (ridW r)
def pauS (r : Rd) : Int := lenP (pauW r)

theorem checkR_parts {r : Rd} (h : checkR r = 0) : spOk r.start = true ∧ spOk r.end_ = true ∧ (∀ p ∈ r.pauses, pzOk p = true) ∧ r.legs.length ≤ 512 ∧ r.pauses.length ≤ 512 := by
  unfold checkR at h
  have h1 : rangedP r = true := by
    cases hr : rangedP r with
    | true => rfl
    | false => rw [hr] at h; simp at h
  rw [h1] at h
  have h2 : joinedP r = true := by
    cases hr : joinedP r with
    | true => rfl
    | false => rw [hr] at h; simp at h
  unfold rangedP headBad at h1
  unfold joinedP numBad at h2
  simp only [Bool.and_eq_true, Bool.not_eq_true', Bool.or_eq_false_iff, decide_eq_false_iff_not, Bool.not_eq_false', List.all_eq_true] at h1 h2
  exact ⟨h1.1.1.2, h1.1.2, h1.2.2, by omega, by omega⟩
theorem spOk_iff {s : Spn} : spOk s = true ↔ 0 ≤ s.lo ∧ s.lo ≤ s.hi ∧ s.hi ≤ 4294943999 := by
  unfold spOk
  simp only [Bool.and_eq_true, decide_eq_true_eq, and_assoc]
theorem sureW_ok {r : Rd} (h : checkR r = 0) : 0 ≤ (sureW r).lo ∧ (sureW r).lo ≤ (sureW r).hi ∧ (sureW r).hi ≤ 4294944000 := by
  obtain ⟨h1, h2, _⟩ := checkR_parts h
  rw [spOk_iff] at h1 h2
  unfold sureW
  simp only
  omega
theorem pz_ok {r : Rd} (h : checkR r = 0) {p : Pz} (hp : p ∈ r.pauses) : (0 ≤ p.from_.lo ∧ p.from_.lo ≤ p.from_.hi ∧ p.from_.hi ≤ 4294943999) ∧ (0 ≤ p.to_.lo ∧ p.to_.lo ≤ p.to_.hi ∧ p.to_.hi ≤ 4294943999) := by
  have := (checkR_parts h).2.2.1 p hp
  unfold pzOk at this
  simp only [Bool.and_eq_true, spOk_iff] at this
  exact this
theorem sureZ_ok {r : Rd} (h : checkR r = 0) : WOk (r.pauses.map sureZ) := fun x hx => by
  obtain ⟨p, hp, rfl⟩ := List.mem_map.1 hx
  have := pz_ok h hp
  unfold sureZ
  simp only
  omega
theorem possZ_ok {r : Rd} (h : checkR r = 0) : WOk (r.pauses.map possZ) := fun x hx => by
  obtain ⟨p, hp, rfl⟩ := List.mem_map.1 hx
  have := pz_ok h hp
  unfold possZ
  simp only
  omega
theorem ridW_ok {r : Rd} (h : checkR r = 0) : WOk (ridW r) := minus_WOk (sureW_ok h) (union_WOk (possZ_ok h))
theorem pauW_ok {r : Rd} (h : checkR r = 0) : WOk (pauW r) := common_WOk (sureW_ok h) (union_WOk (sureZ_ok h))
theorem minusP_len (x : Wn) (Y : List Wn) : (minusP x Y).length ≤ Y.length + 1 := by
  unfold minusP one
  split
  · simp
  · simp only [List.flatMap_cons, List.flatMap_nil, List.append_nil]
    unfold minus1 mend
    have := mfold_len (w := x) Y ([], x.lo)
    simp only [List.length_nil, Nat.zero_add] at this
    split
    · rw [List.length_append]; simp only [List.length_cons, List.length_nil]; omega
    · omega
theorem flat_le (x : Wn) : ∀ l : List Wn, (l.flatMap (cut1 x)).length ≤ l.length
  | [] => by simp
  | a :: l => by
    rw [List.flatMap_cons, List.length_append, List.length_cons]
    have : (cut1 x a).length ≤ 1 := by unfold cut1; split <;> simp
    have := flat_le x l
    omega
theorem commonP_len (x : Wn) (Y : List Wn) : (commonP x Y).length ≤ Y.length := by
  unfold commonP one
  split
  · simp
  · simp only [List.flatMap_cons, List.flatMap_nil, List.append_nil]
    exact flat_le x Y
theorem ridW_len {r : Rd} (h : checkR r = 0) : (ridW r).length ≤ 513 := by
  have h1 := minusP_len (sureW r) (unionP (r.pauses.map possZ))
  have h2 := union_len (r.pauses.map possZ)
  have h3 := (checkR_parts h).2.2.2.2
  rw [List.length_map] at h2
  unfold ridW
  omega
theorem pauW_len {r : Rd} (h : checkR r = 0) : (pauW r).length ≤ 512 := by
  have h1 := commonP_len (sureW r) (unionP (r.pauses.map sureZ))
  have h2 := union_len (r.pauses.map sureZ)
  have h3 := (checkR_parts h).2.2.2.2
  rw [List.length_map] at h2
  unfold pauW
  omega
theorem sum_nf : ∀ {l : List Wn}, Nf l → WOk l → ∀ a : Int, 0 ≤ a → a ≤ 4294944000 → (∀ w ∈ l, a ≤ w.lo) → 0 ≤ sumW l ∧ sumW l ≤ 4294944000 - a
  | [], _, _, a, _, h2, _ => by unfold sumW; simp; omega
  | x :: l, hn, hw, a, h1, h2, h3 => by
    have hx := hw x (by simp)
    have hp := hn.pos x (by simp)
    have hq := h3 x (by simp)
    have ih := sum_nf hn.tail (fun w hw' => hw w (List.mem_cons_of_mem _ hw')) x.hi (by omega) (by omega) (fun w hw' => by have := (List.pairwise_cons.1 hn.apart).1 w hw'; omega)
    have : sumW (x :: l) = (x.hi - x.lo) + sumW l := by unfold sumW; simp
    omega
theorem lenP_range {l : List Wn} (h : WOk l) : 0 ≤ lenP l ∧ lenP l ≤ 4294944000 := by
  have := sum_nf (union_nf h.le).1 (union_WOk h) 0 (by omega) (by omega) (fun w hw => (union_WOk h w hw).1)
  unfold lenP
  omega
theorem ridS_range {r : Rd} (h : checkR r = 0) : 0 ≤ ridS r ∧ ridS r ≤ 4294944000 := lenP_range (ridW_ok h)
theorem pauS_range {r : Rd} (h : checkR r = 0) : 0 ≤ pauS r ∧ pauS r ≤ 4294944000 := lenP_range (pauW_ok h)

end Go.Proofs.Far

/-
  The walks: package interval.
-/
namespace Go.Proofs.Far
open Go Go.RowKit Go.Proofs.E Go.Proofs.Cus Go.Proofs.Rid

set_option maxRecDepth 20000 in
theorem sure_w (x : RX) (w : World) (hx : RdAt w x) (h : checkR x.r = 0) (ho : x.r.open_ = false) : Calls Tryz.prog 166 #[.agg x.cells.toArray] w fun e w' => e = .returned (.tuple #[.agg (sureW x.r).cells.toArray, .int .i64 0]) ∧ Bel w w' := by
  have hp := checkR_parts h
  refine H_enter Tryz.func166 rfl Tryz.ntmps166 rfl (H_seq (R0 (X_box (v := .agg _) rfl rfl fun b1 => (X_alloc Tryz.zeroValue79 rfl fun b2 => (xv (asI rfl) (XN (thenJ_normal (H_seq (R0 ?_)))))))))
  refine xv (eS Tryz.isAgg54 Tryz.sizeOf54 (q0 rfl)) ?_
  refine xC (en Tryz.call86 (ha1 (q0 rfl))) (fun _ w hw => rcheck_w x w (hx.mem hw) (by omega) (by omega)) rfl rfl ?_
  rw [h]
  refine xv (asI rfl) (XN (thenJ_normal (H_seq (H_block (H_seq (R0 (xv (mvI rfl) (xv (e_ne (q0 rfl) (q0 rfl)) (xv (asB rfl) ?_)))))))))
  refine XN (thenJ_normal (H_cond rfl (fun h1 => ?_) (fun h1 => ?_)))
  · exfalso; simp at h1
  · refine H_seq (R0 (xv (e_fld Tryz.underlying54 rfl Tryz.sizeOf4 rfl (q0 rfl)) (xv (eL Tryz.isAgg4 (q0 rfl)) ?_)))
    refine xv (asB rfl) (XN (thenJ_normal (H_cond rfl (fun h2 => ?_) (fun h2 => ?_))))
    · exfalso; rw [show x.r.open_ = true from h2] at ho; cases ho
    · have _ht : True := trivial
      refine H_skip (blockJ_normal (thenJ_normal (H_seq (R0 (xv (e_fld Tryz.underlying54 rfl Tryz.sizeOf50 rfl (q0 rfl)) (xv (e_fld Tryz.underlying50 rfl Tryz.sizeOf3 rfl (q0 rfl)) (xv (eL Tryz.isAgg3 (q0 rfl)) ?_)))))))
      refine xv (e_fld Tryz.underlying54 rfl Tryz.sizeOf50 rfl (q0 rfl)) (xv (e_fld Tryz.underlying50 rfl Tryz.sizeOf3 rfl (q0 rfl)) (xv (eL Tryz.isAgg3 (q0 rfl)) ?_))
      refine xv (e_fld Tryz.underlying54 rfl Tryz.sizeOf50 rfl (q0 rfl)) (xv (e_fld Tryz.underlying50 rfl Tryz.sizeOf3 rfl (q0 rfl)) (xv (eL Tryz.isAgg3 (q0 rfl)) ?_))
      refine xv (e_maxM (q0 rfl) (q0 rfl)) (xv (e_build Tryz.underlying79 fl79 Tryz.zeroValue79 (pt (v := .int _ _) rfl (pt (v := .int _ _) rfl E.p0)) rfl) (X_st (v := .agg _) rfl rfl Tryz.sizeOf79 ?_))
      refine xv (asI rfl) (XN (thenJ_normal (H_ret ?_)))
      exact ret_of rfl (resc2 0 rfl rfl rfl Tryz.isAgg79 Tryz.sizeOf79 rfl rfl) fun w' hw => ⟨rfl, hw.1⟩
set_option maxRecDepth 20000 in
theorem sureZ_w (A : Option Addr) (n c : Nat) (l : List Pz) (w : World) (hx : SlAt w 4 Pz.cells A n l) (hn : n ≤ 10000) : Calls Tryz.prog 119 #[.slice A n c] w fun e w' => ∃ z : Option Addr × Nat, e = .returned (.slice z.1 (l.map sureZ).length z.2) ∧ Mem w [wnRow z.1 z.2 (l.map sureZ)] w' := by
  have hl := hx.1
  refine H_enter Tryz.func119 rfl Tryz.ntmps119 rfl (H_seq (R0 (xv (asS rfl) (XN (thenJ_normal (H_seq (H_mem (L' := [wnRow none 0 []]) (fun w hw => hw.nilRow 79 2 Wn.cells rfl) rfl (R0 (xv (asS rfl) ?_)))))))))
  refine XN (thenJ_normal (H_seq (H_seq (R0 (xv (mvS rfl) (xv (e_len Tryz.underlying160 (q0 rfl)) (xv (mvI rfl) (XN (thenJ_normal ?_)))))))))
  refine H_block (H_loop [3, 5, 8, 9, 10, 11, 12, 13, 14, 15, 16, 17, 18, 19, 20, 21, 22, 23, 24, 25, 26] (fun q : Nat × Option Addr × Nat => [(8, .int .i64 q.1), (3, .slice q.2.1 ((l.take q.1).map sureZ).length q.2.2)]) (fun q => [wnRow q.2.1 q.2.2 ((l.take q.1).map sureZ)]) (fun q => q.1 ≤ n) (fun q => n - q.1) (0, none, 0) ⟨rfl, rfl, trivial⟩ (fun w hw => hw) rfl (Nat.zero_le _) ?_)
  rintro ⟨k, oA, oc⟩ g hk
  simp only at hk
  refine H_seq (R0 (xv (e_lt (q0 rfl) (q0 rfl)) (XN (thenJ_normal (H_seq (H_cond rfl (fun hlt => ?_) (fun hlt => ?_)))))))
  · have hlt' : k < n := by simpa using hlt
    obtain ⟨b, off, p, rfl, hbl, hpk, hrp⟩ := hx.at_ hlt'
    have hs : (l.take (k + 1)).map sureZ = (l.take k).map sureZ ++ [sureZ p] := by rw [snocT _ _ _ hpk, List.map_append]; rfl
    refine H_skip (thenJ_normal (H_seq (H_block (H_seq (R0 (xv (e_idx _ Tryz.underlying160 Tryz.sizeOf198 (q0 rfl) (q0 rfl) (fun _ => ⟨rfl, by omega⟩)) (xv (eS Tryz.isAgg198 Tryz.sizeOf198 (q0 rfl)) ?_)))))))
    refine X_alloc Tryz.zeroValue198 rfl fun b5 => (X_st (v := .agg _) rfl rfl Tryz.sizeOf198 ?_)
    refine XN (thenJ_normal (R0 (xv (mvS rfl) (xv (e_fld Tryz.underlying198 rfl Tryz.sizeOf50 rfl (q0 rfl)) (xv (e_fld Tryz.underlying50 rfl Tryz.sizeOf3 rfl (q0 rfl)) (xv (eL Tryz.isAgg3 (q0 rfl)) ?_))))))
    refine xv (e_fld Tryz.underlying198 rfl Tryz.sizeOf50 rfl (q0 rfl)) (xv (e_fld Tryz.underlying50 rfl Tryz.sizeOf3 rfl (q0 rfl)) (xv (eL Tryz.isAgg3 (q0 rfl)) ?_))
    refine xv (e_fld Tryz.underlying198 rfl Tryz.sizeOf50 rfl (q0 rfl)) (xv (e_fld Tryz.underlying50 rfl Tryz.sizeOf3 rfl (q0 rfl)) (xv (eL Tryz.isAgg3 (q0 rfl)) ?_))
    refine xv (e_maxM (q0 rfl) (q0 rfl)) (xv (e_build Tryz.underlying79 fl79 Tryz.zeroValue79 (pt (v := .int _ _) rfl (pt (v := .int _ _) rfl E.p0)) rfl) (X_push (k := 2) (i := Tryz.t79) 1 ((sureZ p)) Tryz.underlying119 (by kernel_rfl) rfl rfl rfl rfl Tryz.sizeOf79 Tryz.zeroValue79 rfl rfl rfl rfl rfl rfl ⟨by simp only [List.length_map, List.length_take]; omega, by decide⟩ rfl rfl fun B0 A1 c1 => (xv (asS rfl) (XN (blockJ_normal (thenJ_normal (R0 (xv (e_add (q0 rfl) (q0 rfl) (fun _ => ⟨rfl, by omega, by omega⟩)) (xv (mvI rfl) ?_)))))))))
    refine XN (loopJ_normal (k + 1, A1, c1) agr ⟨rfl, by rw [hs]; rfl, trivial⟩ (fun w hw => by rw [hs]; exact hw.tail) rfl (by simp only; omega) (by simp only; omega))
  · have hend : k = n := by simp at hlt; omega
    rw [hend, List.take_of_length_le (by omega)]
    refine H_exit (thenJ_exit (loopJ_exit (blockJ_hit (thenJ_normal (H_seq (R0 (xv (mvS rfl) (xv (asS rfl) (XN ?_)))))))))
    refine thenJ_normal (H_ret ?_)
    exact ret1 (v := .slice _ _ _) rfl rfl rfl fun w' hw => ⟨(oA, oc), rfl, hw⟩
set_option maxRecDepth 20000 in
theorem possZ_w (A : Option Addr) (n c : Nat) (l : List Pz) (w : World) (hx : SlAt w 4 Pz.cells A n l) (hn : n ≤ 10000) : Calls Tryz.prog 117 #[.slice A n c] w fun e w' => ∃ z : Option Addr × Nat, e = .returned (.slice z.1 (l.map possZ).length z.2) ∧ Mem w [wnRow z.1 z.2 (l.map possZ)] w' := by
  have hl := hx.1
  refine H_enter Tryz.func117 rfl Tryz.ntmps117 rfl (H_seq (R0 (xv (asS rfl) (XN (thenJ_normal (H_seq (H_mem (L' := [wnRow none 0 []]) (fun w hw => hw.nilRow 79 2 Wn.cells rfl) rfl (R0 (xv (asS rfl) ?_)))))))))
  refine XN (thenJ_normal (H_seq (H_seq (R0 (xv (mvS rfl) (xv (e_len Tryz.underlying160 (q0 rfl)) (xv (mvI rfl) (XN (thenJ_normal ?_)))))))))
  refine H_block (H_loop [3, 5, 8, 9, 10, 11, 12, 13, 14, 15, 16, 17, 18, 19, 20, 21, 22, 23, 24, 25, 26] (fun q : Nat × Option Addr × Nat => [(8, .int .i64 q.1), (3, .slice q.2.1 ((l.take q.1).map possZ).length q.2.2)]) (fun q => [wnRow q.2.1 q.2.2 ((l.take q.1).map possZ)]) (fun q => q.1 ≤ n) (fun q => n - q.1) (0, none, 0) ⟨rfl, rfl, trivial⟩ (fun w hw => hw) rfl (Nat.zero_le _) ?_)
  rintro ⟨k, oA, oc⟩ g hk
  simp only at hk
  refine H_seq (R0 (xv (e_lt (q0 rfl) (q0 rfl)) (XN (thenJ_normal (H_seq (H_cond rfl (fun hlt => ?_) (fun hlt => ?_)))))))
  · have hlt' : k < n := by simpa using hlt
    obtain ⟨b, off, p, rfl, hbl, hpk, hrp⟩ := hx.at_ hlt'
    have hs : (l.take (k + 1)).map possZ = (l.take k).map possZ ++ [possZ p] := by rw [snocT _ _ _ hpk, List.map_append]; rfl
    refine H_skip (thenJ_normal (H_seq (H_block (H_seq (R0 (xv (e_idx _ Tryz.underlying160 Tryz.sizeOf198 (q0 rfl) (q0 rfl) (fun _ => ⟨rfl, by omega⟩)) (xv (eS Tryz.isAgg198 Tryz.sizeOf198 (q0 rfl)) ?_)))))))
    refine X_alloc Tryz.zeroValue198 rfl fun b5 => (X_st (v := .agg _) rfl rfl Tryz.sizeOf198 ?_)
    refine XN (thenJ_normal (R0 (xv (mvS rfl) (xv (e_fld Tryz.underlying198 rfl Tryz.sizeOf50 rfl (q0 rfl)) (xv (e_fld Tryz.underlying50 rfl Tryz.sizeOf3 rfl (q0 rfl)) (xv (eL Tryz.isAgg3 (q0 rfl)) ?_))))))
    refine xv (e_fld Tryz.underlying198 rfl Tryz.sizeOf50 rfl (q0 rfl)) (xv (e_fld Tryz.underlying50 rfl Tryz.sizeOf3 rfl (q0 rfl)) (xv (eL Tryz.isAgg3 (q0 rfl)) ?_))
    refine xv (e_fld Tryz.underlying198 rfl Tryz.sizeOf50 rfl (q0 rfl)) (xv (e_fld Tryz.underlying50 rfl Tryz.sizeOf3 rfl (q0 rfl)) (xv (eL Tryz.isAgg3 (q0 rfl)) ?_))
    refine xv (e_maxM (q0 rfl) (q0 rfl)) (xv (e_build Tryz.underlying79 fl79 Tryz.zeroValue79 (pt (v := .int _ _) rfl (pt (v := .int _ _) rfl E.p0)) rfl) (X_push (k := 2) (i := Tryz.t79) 1 ((possZ p)) Tryz.underlying119 (by kernel_rfl) rfl rfl rfl rfl Tryz.sizeOf79 Tryz.zeroValue79 rfl rfl rfl rfl rfl rfl ⟨by simp only [List.length_map, List.length_take]; omega, by decide⟩ rfl rfl fun B0 A1 c1 => (xv (asS rfl) (XN (blockJ_normal (thenJ_normal (R0 (xv (e_add (q0 rfl) (q0 rfl) (fun _ => ⟨rfl, by omega, by omega⟩)) (xv (mvI rfl) ?_)))))))))
    refine XN (loopJ_normal (k + 1, A1, c1) agr ⟨rfl, by rw [hs]; rfl, trivial⟩ (fun w hw => by rw [hs]; exact hw.tail) rfl (by simp only; omega) (by simp only; omega))
  · have hend : k = n := by simp at hlt; omega
    rw [hend, List.take_of_length_le (by omega)]
    refine H_exit (thenJ_exit (loopJ_exit (blockJ_hit (thenJ_normal (H_seq (R0 (xv (mvS rfl) (xv (asS rfl) (XN ?_)))))))))
    refine thenJ_normal (H_ret ?_)
    exact ret1 (v := .slice _ _ _) rfl rfl rfl fun w' hw => ⟨(oA, oc), rfl, hw⟩
set_option maxRecDepth 20000 in
theorem part_w (x : RX) (gC gW : Nat) (W R : List Wn) (pv : Value) (w : World) (hx : RdAt w x) (h : checkR x.r = 0) (ho : x.r.open_ = false) (eC : ∀ args w, (callFunc gC args).run Tryz.prog w = .ok (.enter gC args) w) (eW : ∀ args w, (callFunc gW args).run Tryz.prog w = .ok (.enter gW args) w)
    (hW : ∀ w, RdAt w x → Calls Tryz.prog gW #[pv] w fun e w' => ∃ z : Option Addr × Nat, e = .returned (.slice z.1 W.length z.2) ∧ Mem w [wnRow z.1 z.2 W] w')
    (hC : ∀ (A : Option Addr) (c : Nat) (B : Option Addr) (d : Nat) (w : World), WnsAt w A 1 [sureW x.r] → WnsAt w B W.length W → Calls Tryz.prog gC #[.slice A 1 c, .slice B W.length d] w fun e w' => ∃ z : Option Addr × Nat, e = .returned (.tuple #[.slice z.1 R.length z.2, .int .i64 0]) ∧ Mem w [wnRow z.1 z.2 R] w') (hWl : W.length ≤ 10000) :
    Calls Tryz.prog 115 #[.agg x.cells.toArray, .func (.func gC) #[] #[], .func (.func gW) #[pv] #[]] w fun e w' => ∃ z : Option Addr × Nat, e = .returned (.tuple #[.slice z.1 R.length z.2, .int .i64 0]) ∧ Mem w [wnRow z.1 z.2 R] w' := by
  refine H_enter Tryz.func115 rfl Tryz.ntmps115 rfl (H_seq (R0 (X_box (v := .agg _) rfl rfl fun b3 => (xv (asS rfl) (xv (asI rfl) (XN (thenJ_normal (H_seq (R0 ?_)))))))))
  refine xv (eS Tryz.isAgg54 Tryz.sizeOf54 (q0 rfl)) ?_
  refine xC (en Tryz.call166 (ha1 (q0 rfl))) (fun _ w hw => sure_w x w (hx.mem hw) h ho) rfl rfl (xv (e_mv (q0 rfl)) (xv (e_ext (q0 rfl) rfl) (xv (e_ext (q0 rfl) rfl) (X_alloc Tryz.zeroValue79 rfl fun b8 => (X_st (v := .agg _) rfl rfl Tryz.sizeOf79 ?_)))))
  refine xv (asI rfl) (XN (thenJ_normal (H_seq (H_seq (R0 (xv (mvI rfl) (xv (e_ne (q0 rfl) (q0 rfl)) (XN (thenJ_normal ?_)))))))))
  refine H_cond rfl (fun h1 => ?_) (fun h1 => ?_)
  · exfalso; simp at h1
  · have _ht : True := trivial
    refine H_skip (thenJ_normal (H_seq (H_cut [6, 7, 18, 19, 20, 21, 22, 23, 24, 25] (fun z : Option Addr × Nat => [(6, .slice z.1 R.length z.2), (7, .int .i64 0)]) (fun z => [wnRow z.1 z.2 R]) (fun _ => True) ?_ ?_)))
    · refine RA rfl (by decide +kernel) (aV 0 (by decide +kernel) rfl (e_mv (q0 rfl)) rfl (aV 1 (by decide +kernel) rfl (eS Tryz.isAgg79 Tryz.sizeOf79 (q0 rfl)) rfl ?_))
      refine aV 3 (by decide +kernel) rfl (e_mv (q0 rfl)) rfl (rdy2 (i := 2) (j := 4) (by decide +kernel) (sub_drop 0) ?_ ?_)
      · refine aL rfl (f_slit [(.int .i64 0), (.int .i64 0)] Tryz.underlying119 Tryz.sizeOf79 Tryz.zeroValue79 rfl (by kernel_rfl) (pt (v := .agg _) rfl E.p0) rfl rfl fun b20 => (rdy1 (i := 4) (by decide +kernel) (sub_drop 1) (aL rfl (f_callx (enB (bd := [pv]) (al := [pv]) eW (q0 rfl) (fun hg => by rw [ha0 hg]; rfl)) (fun w hw => hW w (hx.mem hw)) rfl (fun _ => rfl) fun z4 => (aI 1 (rdy1 (i := 5) (by decide +kernel) (sub_drop 2) (aL rfl (f_callx (enV (cap := []) (al := [.slice (some ⟨b20, 0, none⟩) 1 1, .slice z4.1 W.length z4.2]) eC (q0 rfl) (fun hg => by rw [ha2 (q0 (v := .slice _ _ _) rfl) (q0 (v := .slice _ _ _) rfl) hg]; rfl)) (fun w hw => hC _ _ _ _ w (slAt_box (enc := Wn.cells) (xs := [sureW x.r]) hw (j := 0) rfl (fun _ => rfl) (by simp)) (slAt_row hw (j := 1) rfl (fun _ => rfl) (by omega))) rfl (fun _ => rfl) fun z5 => (aI 2 (aRL (sub_drop 3) (aV 6 (by decide +kernel) rfl (e_ext (q0 rfl) rfl) rfl (aV 7 (by decide +kernel) rfl (e_ext (q0 rfl) rfl) rfl ?_))))))))))))
        refine aV 8 (by decide +kernel) rfl (asS rfl) rfl (aV 9 (by decide +kernel) rfl (asI rfl) rfl (aZ (by decide +kernel) (sub_drop 0) ?_))
        exact cutJ_normal (z5 : Option Addr × Nat) agr ⟨rfl, rfl, trivial⟩ (fun w hw => hw.pick [2] (by decide)) rfl trivial
      · refine aL rfl (f_callx (enB (bd := [pv]) (al := [pv]) eW (q0 rfl) (fun hg => by rw [ha0 hg]; rfl)) (fun w hw => hW w (hx.mem hw)) rfl (fun _ => rfl) fun z4 => (rdy1 (i := 2) (by decide +kernel) (sub_drop 1) (aL rfl (f_slit [(.int .i64 0), (.int .i64 0)] Tryz.underlying119 Tryz.sizeOf79 Tryz.zeroValue79 rfl (by kernel_rfl) (pt (v := .agg _) rfl E.p0) rfl rfl fun b20 => (rdy1 (i := 5) (by decide +kernel) (sub_drop 2) (aL rfl (f_callx (enV (cap := []) (al := [.slice (some ⟨b20, 0, none⟩) 1 1, .slice z4.1 W.length z4.2]) eC (q0 rfl) (fun hg => by rw [ha2 (q0 (v := .slice _ _ _) rfl) (q0 (v := .slice _ _ _) rfl) hg]; rfl)) (fun w hw => hC _ _ _ _ w (slAt_box (enc := Wn.cells) (xs := [sureW x.r]) hw (j := 0) rfl (fun _ => rfl) (by simp)) (slAt_row hw (j := 1) rfl (fun _ => rfl) (by omega))) rfl (fun _ => rfl) fun z5 => (aI 2 (aRL (sub_drop 3) (aV 6 (by decide +kernel) rfl (e_ext (q0 rfl) rfl) rfl (aV 7 (by decide +kernel) rfl (e_ext (q0 rfl) rfl) rfl (aV 8 (by decide +kernel) rfl (asS rfl) rfl ?_))))))))))))
        refine aV 9 (by decide +kernel) rfl (asI rfl) rfl (aZ (by decide +kernel) (sub_drop 0) ?_)
        exact cutJ_normal (z5 : Option Addr × Nat) agr ⟨rfl, rfl, trivial⟩ (fun w hw => hw.pick [2] (by decide)) rfl trivial
    · rintro z5 g5 _
      refine thenJ_normal (H_ret ?_)
      exact ret2 (v := .slice _ _ _) (x := .int _ _) rfl rfl rfl rfl fun w' hw => ⟨z5, rfl, hw⟩
attribute [local irreducible] ridW pauW
set_option maxRecDepth 20000 in
theorem ipausing_w (x : RX) (w : World) (hx : RdAt w x) (h : checkR x.r = 0) (ho : x.r.open_ = false) : Calls Tryz.prog 73 #[.agg x.cells.toArray] w fun e w' => ∃ z : Option Addr × Nat, e = .returned (.tuple #[.slice z.1 (pauW x.r).length z.2, .int .i64 0]) ∧ Mem w [wnRow z.1 z.2 (pauW x.r)] w' := by
  have hp := checkR_parts h
  refine H_enter Tryz.func73 rfl Tryz.ntmps73 rfl (H_seq (R0 (X_box (v := .agg _) rfl rfl fun b1 => (xv (asS rfl) (xv (asI rfl) (XN (thenJ_normal (H_seq (R0 ?_)))))))))
  refine xv (eS Tryz.isAgg54 Tryz.sizeOf54 (q0 rfl)) ?_
  refine xv (e_fld Tryz.underlying54 rfl Tryz.sizeOf52 rfl (q0 rfl)) (xv (eL Tryz.isAgg52 (q0 rfl)) ?_)
  refine xv (e_fnB (q0 (v := .slice _ _ _) rfl)) (xCX (en Tryz.call115 (ha3 (q0 rfl) (q0 rfl) (q0 rfl))) (fun w hw => part_w x 118 119 (x.r.pauses.map sureZ) (pauW x.r) (.slice x.a.pA x.r.pauses.length x.a.pc) w (hx.mem hw) h ho Tryz.call118 Tryz.call119 (fun w hx => sureZ_w x.a.pA x.r.pauses.length x.a.pc x.r.pauses w hx.pauses (by omega)) (fun A c B d w h1 h2 => by unfold pauW; exact common_w A c (sureW x.r) B (x.r.pauses.map sureZ).length d (x.r.pauses.map sureZ) w h1 h2 (by simp; omega) (sureW_ok h) (sureZ_ok h)) (by simp; omega)) rfl (fun _ => rfl) fun z => (xv (e_ext (q0 rfl) rfl) (xv (e_ext (q0 rfl) rfl) (xv (asS rfl) (xv (asI rfl) (XN (thenJ_normal (H_ret ?_))))))))
  exact ret2 (v := .slice _ _ _) (x := .int _ _) rfl rfl rfl rfl fun w' hw => ⟨z, rfl, hw.pick [0] (by decide)⟩
set_option maxRecDepth 20000 in
theorem iriding_w (x : RX) (w : World) (hx : RdAt w x) (h : checkR x.r = 0) (ho : x.r.open_ = false) : Calls Tryz.prog 72 #[.agg x.cells.toArray] w fun e w' => ∃ z : Option Addr × Nat, e = .returned (.tuple #[.slice z.1 (ridW x.r).length z.2, .int .i64 0]) ∧ Mem w [wnRow z.1 z.2 (ridW x.r)] w' := by
  have hp := checkR_parts h
  refine H_enter Tryz.func72 rfl Tryz.ntmps72 rfl (H_seq (R0 (X_box (v := .agg _) rfl rfl fun b1 => (xv (asS rfl) (xv (asI rfl) (XN (thenJ_normal (H_seq (R0 ?_)))))))))
  refine xv (eS Tryz.isAgg54 Tryz.sizeOf54 (q0 rfl)) ?_
  refine xv (e_fld Tryz.underlying54 rfl Tryz.sizeOf52 rfl (q0 rfl)) (xv (eL Tryz.isAgg52 (q0 rfl)) ?_)
  refine xv (e_fnB (q0 (v := .slice _ _ _) rfl)) (xCX (en Tryz.call115 (ha3 (q0 rfl) (q0 rfl) (q0 rfl))) (fun w hw => part_w x 116 117 (x.r.pauses.map possZ) (ridW x.r) (.slice x.a.pA x.r.pauses.length x.a.pc) w (hx.mem hw) h ho Tryz.call116 Tryz.call117 (fun w hx => possZ_w x.a.pA x.r.pauses.length x.a.pc x.r.pauses w hx.pauses (by omega)) (fun A c B d w h1 h2 => by unfold ridW; exact minus_w A c (sureW x.r) B (x.r.pauses.map possZ).length d (x.r.pauses.map possZ) w h1 h2 (by simp; omega) (sureW_ok h) (possZ_ok h)) (by simp; omega)) rfl (fun _ => rfl) fun z => (xv (e_ext (q0 rfl) rfl) (xv (e_ext (q0 rfl) rfl) (xv (asS rfl) (xv (asI rfl) (XN (thenJ_normal (H_ret ?_))))))))
  exact ret2 (v := .slice _ _ _) (x := .int _ _) rfl rfl rfl rfl fun w' hw => ⟨z, rfl, hw.pick [0] (by decide)⟩
set_option maxRecDepth 20000 in
theorem seconds_w (x : RX) (w : World) (hx : RdAt w x) (h : checkR x.r = 0) (ho : x.r.open_ = false) : Calls Tryz.prog 24 #[.agg x.cells.toArray] w fun e w' => e = .returned (.tuple #[.int .i64 (ridS x.r), .int .i64 (pauS x.r), .int .i64 0]) ∧ Bel w w' := by
  have hr := ridW_len h
  have hp := pauW_len h
  have hr2 := ridW_ok h
  have hp2 := pauW_ok h
  refine H_enter Tryz.func24 rfl Tryz.ntmps24 rfl (H_seq (R0 (X_box (v := .agg _) rfl rfl fun b1 => (xv (asI rfl) (xv (asI rfl) (xv (asI rfl) (XN (thenJ_normal (H_seq ?_)))))))))
  refine R0 (xv (eS Tryz.isAgg54 Tryz.sizeOf54 (q0 rfl)) ?_)
  refine xCX (en Tryz.call72 (ha1 (q0 rfl))) (fun w hw => iriding_w x w (hx.mem hw) h ho) rfl (fun _ => rfl) fun z1 => (xv (e_mv (q0 rfl)) (xv (e_ext (q0 rfl) rfl) (xv (e_ext (q0 rfl) rfl) (xv (asS rfl) (xv (asI rfl) (XN (thenJ_normal (H_seq (H_seq ?_)))))))))
  refine R0 (xv (mvI rfl) (xv (e_ne (q0 rfl) (q0 rfl)) (XN (thenJ_normal (H_cond rfl (fun h1 => ?_) (fun h1 => ?_))))))
  · exfalso; simp at h1
  · refine H_skip (thenJ_normal (H_seq (R0 (xv (eS Tryz.isAgg54 Tryz.sizeOf54 (q0 rfl)) ?_))))
    refine xCX (en Tryz.call73 (ha1 (q0 rfl))) (fun w hw => ipausing_w x w (hx.mem hw) h ho) rfl (fun _ => rfl) fun z2 => (xv (e_mv (q0 rfl)) (xv (e_ext (q0 rfl) rfl) (xv (e_ext (q0 rfl) rfl) (xv (asS rfl) (xv (asI rfl) (XN (thenJ_normal (H_seq (H_seq ?_)))))))))
    refine R0 (xv (mvI rfl) (xv (e_ne (q0 rfl) (q0 rfl)) (XN (thenJ_normal (H_cond rfl (fun h2 => ?_) (fun h2 => ?_))))))
    · exfalso; simp at h2
    · refine H_skip (thenJ_normal (H_seq (R0 (xv (mvS rfl) (xC (en Tryz.call74 (ha1 (q0 rfl))) (fun _ w hw => length_w z1.1 (ridW x.r).length z1.2 (ridW x.r) w (slAt_row hw (j := 1) rfl (fun _ => rfl) (by omega)) (by omega) hr2) rfl rfl (xv (e_mv (q0 rfl)) (xv (e_ext (q0 rfl) rfl) (xv (e_ext (q0 rfl) rfl) (xv (asI rfl) ?_)))))))))
      refine xv (asI rfl) (XN (thenJ_normal (H_seq (H_seq (R0 (xv (mvI rfl) (xv (e_ne (q0 rfl) (q0 rfl)) (XN (thenJ_normal ?_)))))))))
      refine H_cond rfl (fun h3 => ?_) (fun h3 => ?_)
      · exfalso; simp at h3
      · refine H_skip (thenJ_normal (H_seq (R0 (xv (mvS rfl) (xC (en Tryz.call74 (ha1 (q0 rfl))) (fun _ w hw => length_w z2.1 (pauW x.r).length z2.2 (pauW x.r) w (slAt_row hw (j := 0) rfl (fun _ => rfl) (by omega)) (by omega) hp2) rfl rfl (xv (e_mv (q0 rfl)) (xv (e_ext (q0 rfl) rfl) (xv (e_ext (q0 rfl) rfl) (xv (asI rfl) ?_)))))))))
        refine xv (asI rfl) (XN (thenJ_normal (H_seq (H_seq (R0 (xv (mvI rfl) (xv (e_ne (q0 rfl) (q0 rfl)) (XN (thenJ_normal ?_)))))))))
        refine H_cond rfl (fun h4 => ?_) (fun h4 => ?_)
        · exfalso; simp at h4
        · refine H_skip (thenJ_normal (H_seq (R0 (xv (mvI rfl) (xv (mvI rfl) (xv (asI rfl) (xv (asI rfl) (xv (asI rfl) (XN ?_)))))))))
          refine thenJ_normal (H_ret ?_)
          exact ret3 (v := .int _ _) (x := .int _ _) (z := .int _ _) rfl rfl rfl rfl rfl fun w' hw => ⟨rfl, hw.1⟩

end Go.Proofs.Far

/-
  The walks: the order of rides; numbers of rides sorted that are in their order; what pass.Use checks.
-/
namespace Go.Proofs.Far
open Go Go.RowKit Go.Proofs.E Go.Proofs.Cus Go.Proofs.Rid

def rideCmp (a b : Rd) : Int := orI [cmpI a.start.lo b.start.lo, cmpI a.end_.lo b.end_.lo, cmpI a.id b.id]
def rideLt (a b : Rd) : Bool := decide (a.start.lo < b.start.lo ∨ (a.start.lo = b.start.lo ∧ (a.end_.lo < b.end_.lo ∨ (a.end_.lo = b.end_.lo ∧ a.id < b.id))))
theorem cmpI_cases (a b : Int) : (a < b ∧ cmpI a b = -1) ∨ (a = b ∧ cmpI a b = 0) ∨ (b < a ∧ cmpI a b = 1) := by
  unfold cmpI
  rcases Int.lt_trichotomy a b with h | h | h
  · exact .inl ⟨h, if_pos h⟩
  · exact .inr (.inl ⟨h, by rw [if_neg (by omega), if_neg (by omega)]⟩)
  · exact .inr (.inr ⟨h, by rw [if_neg (by omega), if_pos h]⟩)
theorem rideCmp_lt (a b : Rd) : decide (rideCmp a b < 0) = rideLt a b := by
  unfold rideCmp rideLt orI
  rcases cmpI_cases a.start.lo b.start.lo with ⟨h1, e1⟩ | ⟨h1, e1⟩ | ⟨h1, e1⟩
  · rw [e1]
    simp [h1]
  · rw [e1]
    rcases cmpI_cases a.end_.lo b.end_.lo with ⟨h2, e2⟩ | ⟨h2, e2⟩ | ⟨h2, e2⟩
    · rw [e2]; simp [h1, h2]
    · rw [e2]
      rcases cmpI_cases a.id b.id with ⟨h3, e3⟩ | ⟨h3, e3⟩ | ⟨h3, e3⟩
      · rw [e3]; simp [h1, h2, h3]
      · rw [e3]; simp [h1, h2, h3]
      · rw [e3]
        have : ¬ a.id < b.id := by omega
        simp [h1, h2, this]
    · rw [e2]
      have h4 : ¬ a.end_.lo < b.end_.lo := by omega
      have h5 : ¬ a.end_.lo = b.end_.lo := by omega
      simp [h1, h4, h5]
  · rw [e1]
    have h4 : ¬ a.start.lo < b.start.lo := by omega
    have h5 : ¬ a.start.lo = b.start.lo := by omega
    simp [h4, h5]
section
open Go.Shelf Go.Lib Go.Sort
theorem swo_ride {α : Type} (f : α → Rd) (cf : α → α → Int) (h : ∀ x y, ltOf cf x y = rideLt (f x) (f y)) : SWO (ltOf cf) where
  irrefl x := by rw [h]; unfold rideLt; simp
  trans x y z h1 h2 := by rw [h] at *; unfold rideLt at *; simp only [decide_eq_true_eq] at *; omega
  ntrans x y z h1 h2 := by rw [h] at *; unfold rideLt at *; simp only [decide_eq_false_iff_not] at *; omega
theorem one_flat {α : Type} [Inhabited α] (enc : α → Value) (d : Array α) : flatK (fun x => [enc x]) 1 d = d.map enc := by
  apply Array.ext
  · simp [flatK]
  · intro i h1 h2
    have hi : i < d.size := by simpa using h2
    simp [flatK, Nat.mod_one, hi]
theorem sortWorld_one {α : Type} [Inhabited α] (enc : α → Value) (w : World) (blk off m : Nat) (dk : Array α) (os : Array Obj) : sortWorld enc w blk off m dk os = sortWorldK (fun x => [enc x]) 1 w blk off m dk os := by
  unfold sortWorld sortWorldK putRowK putRow
  congr 2
  funext c
  unfold putCells
  congr 1
  funext k x
  rw [one_flat]
  simp only [Array.size_map, id]
  by_cases h : off ≤ k ∧ k < off + dk.size
  · rw [if_pos h, if_pos h, getElem!_pos dk (k - off) (by omega), getElem!_pos (dk.map enc) (k - off) (by simp; omega)]
    simp
  · rw [if_neg h, if_neg h]
end
set_option maxRecDepth 20000 in
theorem use1_w (A : Option Addr) (n c : Nat) (rs : List RX) (i k : Nat) (x y : RX) (b : Nat) (w : World) (hb : RowAt w b 0 [.slice A n c]) (hbl : b < w.heap.size) (hx : RdsAt w A n rs) (hi : rs[i]? = some x) (hk : rs[k]? = some y) :
    Calls Tryz.prog 138 #[.int .i64 i, .int .i64 k, .pointer (some ⟨b, 0, none⟩)] w fun e w' => e = .returned (.int .i64 (rideCmp x.r y.r)) ∧ Bel w w' := by
  have hn := hx.1.1
  have hin : i < n := by have := (List.getElem?_eq_some_iff.1 hi).1; omega
  have hkn : k < n := by have := (List.getElem?_eq_some_iff.1 hk).1; omega
  obtain ⟨rb, off, x', rfl, hrbl, hx', hrx⟩ := hx.1.at_ hin
  rw [hi] at hx'
  cases hx'
  obtain ⟨y', hy', hry⟩ := hx.1.row hkn
  rw [hk] at hy'
  cases hy'
  refine H_enter Tryz.func138 rfl Tryz.ntmps138 rfl (H_seq (R0 (xv (asI rfl) (XN (thenJ_normal (H_seq (H_cut [6, 7, 8, 9, 10, 11, 12, 13, 14, 15] (fun z : Nat × Nat => [(6, .pointer (some ⟨z.1, 0, none⟩)), (7, .pointer (some ⟨z.2, 0, none⟩))]) (fun z => [box z.1 54 x.cells, box z.2 54 y.cells]) (fun _ => True) ?_ ?_)))))))
  · refine RA rfl (by decide +kernel) (aV 0 (by decide +kernel) rfl (e_ld (v := .slice (some ⟨rb, off, none⟩) n c) Tryz.isAgg36 (q0 rfl) (rc0 hb hbl rfl)) rfl (aV 1 (by decide +kernel) rfl (mvI rfl) rfl (aV 2 (by decide +kernel) rfl (e_idx i Tryz.underlying36 Tryz.sizeOf54 (q0 rfl) (q0 rfl) (fun _ => ⟨rfl, hin⟩)) rfl (aV 3 (by decide +kernel) rfl (e_lds (vs := x.cells) Tryz.isAgg54 Tryz.sizeOf54 (q0 rfl) (rcs hrx hrbl) rfl) rfl (aV 4 (by decide +kernel) rfl (e_ld (v := .slice (some ⟨rb, off, none⟩) n c) Tryz.isAgg36 (q0 rfl) (rc0 hb hbl rfl)) rfl (aV 5 (by decide +kernel) rfl (mvI rfl) rfl (aV 6 (by decide +kernel) rfl (e_idx k Tryz.underlying36 Tryz.sizeOf54 (q0 rfl) (q0 rfl) (fun _ => ⟨rfl, hkn⟩)) rfl (aV 7 (by decide +kernel) rfl (e_lds (vs := y.cells) Tryz.isAgg54 Tryz.sizeOf54 (q0 rfl) (rcs hry hrbl) rfl) rfl (rdy2 (i := 8) (j := 9) (by decide +kernel) (sub_drop 0) ?_ ?_)))))))))
    · refine aL rfl (f_alloc Tryz.zeroValue54 rfl fun b6 => (rdy1 (i := 9) (by decide +kernel) (sub_drop 1) (aL rfl (f_alloc Tryz.zeroValue54 rfl fun b7 => (aI 1 (rdy1 (i := 10) (by decide +kernel) (sub_drop 2) (aL rfl (f_st (v := .agg _) rfl rfl Tryz.sizeOf54 ?_))))))))
      refine rdy1 (i := 11) (by decide +kernel) (sub_drop 2) (aL rfl (f_st (v := .agg _) rfl rfl Tryz.sizeOf54 ?_))
      refine aZ (by decide +kernel) (sub_drop 2) ?_
      exact cutJ_normal ((b6, b7) : Nat × Nat) agr ⟨rfl, rfl, trivial⟩ (fun w hw => hw) rfl trivial
    · refine aL rfl (f_alloc Tryz.zeroValue54 rfl fun b7 => (rdy1 (i := 8) (by decide +kernel) (sub_drop 1) (aL rfl (f_alloc Tryz.zeroValue54 rfl fun b6 => (rdy1 (i := 10) (by decide +kernel) (sub_drop 2) (aL rfl (f_st (v := .agg _) rfl rfl Tryz.sizeOf54 ?_)))))))
      refine rdy1 (i := 11) (by decide +kernel) (sub_drop 2) (aL rfl (f_st (v := .agg _) rfl rfl Tryz.sizeOf54 ?_))
      refine aZ (by decide +kernel) (sub_drop 2) ?_
      exact cutJ_normal ((b6, b7) : Nat × Nat) agr ⟨rfl, rfl, trivial⟩ (fun w hw => hw) rfl trivial
  · rintro ⟨b6, b7⟩ g5 _
    refine thenJ_normal (H_seq (RA rfl (by decide +kernel) (aV 0 (by decide +kernel) rfl (e_fld Tryz.underlying54 rfl Tryz.sizeOf50 rfl (q0 rfl)) rfl (aV 1 (by decide +kernel) rfl (e_fld Tryz.underlying50 rfl Tryz.sizeOf3 rfl (q0 rfl)) rfl (aV 2 (by decide +kernel) rfl (eL Tryz.isAgg3 (q0 rfl)) rfl ?_)))))
    refine aV 3 (by decide +kernel) rfl (e_fld Tryz.underlying54 rfl Tryz.sizeOf50 rfl (q0 rfl)) rfl (aV 4 (by decide +kernel) rfl (e_fld Tryz.underlying50 rfl Tryz.sizeOf3 rfl (q0 rfl)) rfl (aV 5 (by decide +kernel) rfl (eL Tryz.isAgg3 (q0 rfl)) rfl ?_))
    refine aV 7 (by decide +kernel) rfl (e_fld Tryz.underlying54 rfl Tryz.sizeOf50 rfl (q0 rfl)) rfl (aV 8 (by decide +kernel) rfl (e_fld Tryz.underlying50 rfl Tryz.sizeOf3 rfl (q0 rfl)) rfl (aV 9 (by decide +kernel) rfl (eL Tryz.isAgg3 (q0 rfl)) rfl ?_))
    refine aV 10 (by decide +kernel) rfl (e_fld Tryz.underlying54 rfl Tryz.sizeOf50 rfl (q0 rfl)) rfl (aV 11 (by decide +kernel) rfl (e_fld Tryz.underlying50 rfl Tryz.sizeOf3 rfl (q0 rfl)) rfl (aV 12 (by decide +kernel) rfl (eL Tryz.isAgg3 (q0 rfl)) rfl ?_))
    refine aV 14 (by decide +kernel) rfl (e_fld Tryz.underlying54 rfl Tryz.sizeOf3 rfl (q0 rfl)) rfl (aV 15 (by decide +kernel) rfl (eL Tryz.isAgg3 (q0 rfl)) rfl ?_)
    refine aV 16 (by decide +kernel) rfl (e_fld Tryz.underlying54 rfl Tryz.sizeOf3 rfl (q0 rfl)) rfl (aV 17 (by decide +kernel) rfl (eL Tryz.isAgg3 (q0 rfl)) rfl ?_)
    refine aC 6 (by decide +kernel) rfl (en Tryz.call46 (ha2 (q0 rfl) (q0 rfl))) (fun _ w _ => compare_w x.r.start.lo y.r.start.lo w) rfl (aC 13 (by decide +kernel) rfl (en Tryz.call46 (ha2 (q0 rfl) (q0 rfl))) (fun _ w _ => compare_w x.r.end_.lo y.r.end_.lo w) rfl (aC 18 (by decide +kernel) rfl (en Tryz.call46 (ha2 (q0 rfl) (q0 rfl))) (fun _ w _ => compare_w x.r.id y.r.id w) rfl (rdy1 (i := 19) (by decide +kernel) (sub_drop 0) (aL rfl (f_slit [(.int .i64 0), (.int .i64 0), (.int .i64 0)] Tryz.underlying22 Tryz.sizeOf3 Tryz.zeroValue3 rfl (by kernel_rfl) (pt (v := .int _ _) rfl (pt (v := .int _ _) rfl (pt (v := .int _ _) rfl E.p0))) rfl rfl fun b35 => (aRL (sub_drop 1) (aC 20 (by decide +kernel) rfl (en Tryz.call45 (ha1 (q0 rfl))) (fun _ w hm => or_w _ 3 3 [cmpI x.r.start.lo y.r.start.lo, cmpI x.r.end_.lo y.r.end_.lo, cmpI x.r.id y.r.id] w (slAt_box (enc := encInt) hm (j := 0) rfl (fun _ => rfl) (by simp))) rfl (aV 21 (by decide +kernel) rfl (asI rfl) rfl (aZ (by decide +kernel) (sub_drop 0) (thenJ_normal ?_))))))))))
    refine H_ret ?_
    exact ret1 (v := .int _ _) rfl rfl rfl fun w' hw => ⟨rfl, hw.1⟩

end Go.Proofs.Far

/-
  A map whose keys are two numbers (an array or a struct), in memory: the list of its pairs. Look-up, entry, made.
-/
namespace Go.Proofs.E
open Go Go.RowKit

def kv (a : Int × Int) : Value := .agg #[.int .i64 a.1, .int .i64 a.2]
/-- what a kind of key must do -/
structure KeyK (P : Program) (kt : TypeId) : Prop where
  eq : ∀ (a b : Int × Int) (w : World), (Op.equal kt (kv a) (kv b)).run P w = .ok (a == b) w
  chk : ∀ (em : Bool) (a : Int × Int) (w : World), (Instr.checkKey em 10000 kt (kv a)).run P w = .ok () w
  fk : ∀ (a : Int × Int) (es : List MapEntry) (w : World), (Instr.findKey kt (kv a) es).run P w = (Instr.findAsking kt (kv a) es).run P w
theorem beq_pair (a b : Int × Int) : ([a.1, a.2] == [b.1, b.2]) = (a == b) := by
  obtain ⟨a1, a2⟩ := a
  obtain ⟨b1, b2⟩ := b
  rw [Bool.eq_iff_iff]
  simp
theorem check_int {P : Program} {t : TypeId} {q : IntKind} (h : P.underlying t = some (.int q)) (em : Bool) (x : Int) (n : Nat) (w : World) : (Instr.checkKey em (n + 1) t (.int .i64 x)).run P w = .ok () w := by
  rw [Instr.checkKey]
  simp [run_underlying h]
theorem KeyK.struct {P : Program} {t : TypeId} {fs : Array Field} (ht : P.underlying t = some (.struct fs)) (hp : P.stoodInHeld t = false) (hf : intFields P 0 fs.toList) (hn : fs.toList.length = 2) : KeyK P t where
  eq a b w := by
    rw [← beq_pair]
    exact run_equal_ints w [a.1, a.2] [b.1, b.2] rfl ht hp hf hn
  chk em a w := by
    rw [show (10000 : Nat) = 9999 + 1 from rfl, Instr.checkKey]
    simp only [Sem.run_bind, run_underlying ht, Result.andThen_ok, kv]
    rw [← Array.forIn_toList]
    have hn' : 0 + fs.toList.length = 2 := by omega
    revert hf hn'
    generalize fs.toList = l
    generalize 0 = k
    intro hf hn'
    induction l generalizing k with
    | nil => simp
    | cons f l ih =>
      obtain ⟨h1, h2, h3, ⟨q, h4⟩, h5⟩ := hf
      simp only [List.length_cons] at hn'
      obtain ⟨x, hx⟩ : ∃ x, [a.1, a.2][k]? = some x := ⟨_, List.getElem?_eq_getElem (by show k < 2; omega)⟩
      have hpt : (part f.type #[.int .i64 a.1, .int .i64 a.2] k).run P w = .ok (.int .i64 x) w := run_part_int (l := [a.1, a.2]) w h3 hx
      simp only [List.forIn_cons, Sem.run_bind, h1, ne_eq, not_false_eq_true, if_true, Result.andThen_ok, h2, hpt, check_int h4 em x 9998 w, Sem.run_pure]
      exact ih (k + 1) h5 (by omega)
  fk a es w := run_findKey_eq w (by rw [ht]) (kv a) es
theorem KeyK.array {P : Program} {t e : TypeId} {i : TypeInfo} {q : IntKind} (ht : P.underlying t = some (.array 2 e)) (he : P.underlying e = some (.int q)) (ha : ∀ w, (isAgg e).run P w = .ok false w) (hi : P.info? e = some i) (h1 : i.size = 1) : KeyK P t where
  eq a b w := by
    have hc : P.cellsOf e = 1 := by unfold Program.cellsOf; rw [hi]; exact h1
    have e1 : (a == b) = ((a.1 == b.1) && (a.2 == b.2)) := rfl
    show (Op.equalIn 10000 t _ _).run P w = _
    rw [show (10000 : Nat) = 9998 + 1 + 1 from rfl, kv, kv, run_equalIn_array w (9998 + 1) _ _ ht hi, e1, hc]
    rw [show List.range 2 = [0, 1] from rfl]
    have pa : ∀ (z : Int × Int), (part e #[.int .i64 z.1, .int .i64 z.2] 0).run P w = .ok (.int .i64 z.1) w := fun z => run_part_int (l := [z.1, z.2]) (k := 0) w ha rfl
    have pb : ∀ (z : Int × Int), (part e #[.int .i64 z.1, .int .i64 z.2] 1).run P w = .ok (.int .i64 z.2) w := fun z => run_part_int (l := [z.1, z.2]) (k := 1) w ha rfl
    simp only [Op.eqItems, Nat.zero_mul, Nat.mul_one, Sem.run_bind, pa, pb, Result.andThen_ok, run_equalIn_int w 9998 e .i64 q _ _ he, Sem.run_ite]
    cases (a.1 == b.1) <;> cases (a.2 == b.2) <;> rfl
  chk em a w := by
    rw [show (10000 : Nat) = 9999 + 1 from rfl, Instr.checkKey]
    simp only [Sem.run_bind, run_underlying ht, Result.andThen_ok, kv]
    simp only [Std.Legacy.Range.forIn_eq_forIn_range', Std.Legacy.Range.size, Nat.sub_zero, Nat.add_one_sub_one, Nat.div_one]
    rw [show List.range' 0 2 = [0, 1] from rfl]
    have pa : (part e #[.int .i64 a.1, .int .i64 a.2] 0).run P w = .ok (.int .i64 a.1) w := run_part_int (l := [a.1, a.2]) (k := 0) w ha rfl
    have pb : (part e #[.int .i64 a.1, .int .i64 a.2] 1).run P w = .ok (.int .i64 a.2) w := run_part_int (l := [a.1, a.2]) (k := 1) w ha rfl
    have hc : P.cellsOf e = 1 := by unfold Program.cellsOf; rw [hi]; exact h1
    simp only [List.forIn_cons, List.forIn_nil, Sem.run_bind, run_sizeOf w hi, hc, Nat.mul_one, Nat.zero_mul, Nat.one_mul, Result.andThen_ok, pa, pb, check_int he em _ 9998 w, Sem.run_pure]
  fk a es w := run_findKey_eq w (by rw [ht]) (kv a) es

/-! the block -/
def pairK (e : MapEntry) (p : (Int × Int) × Value) : Prop := e.key = kv p.1 ∧ e.val = p.2
inductive PairsK : List MapEntry → List ((Int × Int) × Value) → Prop
  | nil : PairsK [] []
  | cons {e p es ps} : pairK e p → PairsK es ps → PairsK (e :: es) (p :: ps)
def klook (ps : List ((Int × Int) × Value)) (k : Int × Int) : Option Value := (ps.find? (fun p => p.1 == k)).map (·.2)
def kput (ps : List ((Int × Int) × Value)) (k : Int × Int) (v : Value) : List ((Int × Int) × Value) :=
  match ps with
  | [] => [(k, v)]
  | p :: r => if p.1 == k then (k, v) :: r else p :: kput r k v
def KMap (w : World) (b : Nat) (ps : List ((Int × Int) × Value)) : Prop := ∃ es clock, w.heap[b]? = some (.map es clock) ∧ PairsK es.toList ps ∧ BornOk es.toList clock
/-- .. with one entry known by its stamp -/
def KPend (w : World) (b : Nat) (ps : List ((Int × Int) × Value)) (k : Int × Int) (born : Int) : Prop := ∃ es clock, w.heap[b]? = some (.map es clock) ∧ PairsK es.toList ps ∧ BornOk es.toList clock ∧
  ∃ (j : Nat) (e : MapEntry), es.toList[j]? = some e ∧ (e.born : Int) = born ∧ ∀ v, PairsK (es.toList.modify j fun e => { e with val := v }) (kput ps k v)
def kmap (b : Nat) (ps : List ((Int × Int) × Value)) : Item where
  fp := fun x => x = b
  A := fun w => KMap w b ps
  st := fun _ _ h hA => by
    obtain ⟨es, c, h1, h2⟩ := hA
    exact ⟨es, c, (h b rfl).trans h1, h2⟩
def kpend (b : Nat) (ps : List ((Int × Int) × Value)) (k : Int × Int) (born : Int) : Item where
  fp := fun x => x = b
  A := fun w => KPend w b ps k born
  st := fun _ _ h hA => by
    obtain ⟨es, c, h1, h2⟩ := hA
    exact ⟨es, c, (h b rfl).trans h1, h2⟩
section
variable {P : Program} {t kt et : TypeId}
theorem ask_pairs (K : KeyK P kt) (k : Int × Int) (w : World) : ∀ (es : List MapEntry) (ps : List ((Int × Int) × Value)) (i : Nat), PairsK es ps →
    (klook ps k = none ∧ (Instr.findAsking kt (kv k) es i).run P w = .ok none w ∧ (∀ v, kput ps k v = ps ++ [(k, v)])) ∨
    (∃ j v e, klook ps k = some v ∧ (Instr.findAsking kt (kv k) es i).run P w = .ok (some (i + j, v)) w ∧ es[j]? = some e ∧ e.key = kv k ∧ (∀ v, PairsK (es.modify j fun e => { e with val := v }) (kput ps k v)) ∧ ∀ v, kput ps k v = ps ∨ True) := by
  intro es
  induction es with
  | nil => intro ps i h; cases h; exact .inl ⟨rfl, rfl, fun _ => rfl⟩
  | cons e es ih =>
    intro ps i h
    cases h with
    | cons hp hr =>
      rename_i p ps
      obtain ⟨hk, hv⟩ := hp
      by_cases hkk : p.1 = k
      · refine .inr ⟨0, p.2, e, by simp [klook, hkk], ?_, rfl, by rw [hk, hkk], fun v => ?_, fun _ => .inr trivial⟩
        · have : (k == p.1) = true := by rw [hkk]; exact beq_self_eq_true k
          simp [Instr.findAsking, hk, K.eq, this, hv, Result.andThen]
        · simp only [kput, hkk, beq_self_eq_true, if_true]
          exact .cons ⟨by show e.key = _; rw [hk, hkk], rfl⟩ hr
      · have hne : (k == p.1) = false := beq_eq_false_iff_ne.2 fun e => hkk e.symm
        have hne2 : (p.1 == k) = false := beq_eq_false_iff_ne.2 hkk
        rcases ih ps (i + 1) hr with ⟨h1, h2, h3⟩ | ⟨j, v, e', h1, h2, h3, h4, h5, _⟩
        · refine .inl ⟨by simpa [klook, hne2] using h1, ?_, fun v => by simp [kput, hne2, h3]⟩
          simp [Instr.findAsking, hk, K.eq, hne, h2, Result.andThen]
        · refine .inr ⟨j + 1, v, e', by simpa [klook, hne2] using h1, ?_, by simpa using h3, h4, fun v => ?_, fun _ => .inr trivial⟩
          · simp [Instr.findAsking, hk, K.eq, hne, h2, Result.andThen]
            omega
          · simp only [kput, hne2, Bool.false_eq_true, if_false, List.modify_succ_cons]
            exact .cons ⟨hk, hv⟩ (h5 v)
theorem run_lookup_kmap {w : World} {b : Nat} {ps : List ((Int × Int) × Value)} {z : Value} (K : KeyK P kt) (ht : P.underlying t = some (.map kt et)) (hz : ∀ w, (zeroValue et).run P w = .ok z w) (h : KMap w b ps) (k : Int × Int) :
    (Instr.lookup t (.map (some b)) (kv k) false).run P w = .ok ((klook ps k).getD z) w := by
  obtain ⟨es, c, h1, h2, _⟩ := h
  rcases ask_pairs K k w es.toList ps 0 h2 with ⟨ha, hb, _⟩ | ⟨j, v, e, ha, hb, _⟩
  · simp [Instr.lookup, run_underlying ht, MapKept.run_getObj_map h1, K.chk, K.fk, hb, ha, hz, Result.andThen]
  · simp [Instr.lookup, run_underlying ht, MapKept.run_getObj_map h1, K.chk, K.fk, hb, ha, Result.andThen]
theorem pairsK_push {es : List MapEntry} {ps : List ((Int × Int) × Value)} (h : PairsK es ps) {e : MapEntry} {p : (Int × Int) × Value} (he : pairK e p) : PairsK (es ++ [e]) (ps ++ [p]) := by
  induction h with
  | nil => exact .cons he .nil
  | cons h1 _ ih => exact .cons h1 ih
theorem same_pair (a : Int × Int) : Instr.sameBits 10000 (kv a) (kv a) = true := by
  rw [show (10000 : Nat) = 9999 + 1 from rfl, kv, Instr.sameBits]
  simp [Instr.sameBits]
theorem modify_id {es : List MapEntry} {j : Nat} {e : MapEntry} {k : Value} (h : es[j]? = some e) (hk : e.key = k) : (es.modify j fun e => { e with key := k }) = es := by
  apply List.ext_getElem?
  intro i
  rw [List.getElem?_modify]
  by_cases hi : j = i
  · subst hi
    rw [h]
    obtain ⟨a, b, c⟩ := e
    simp only at hk
    subst hk
    simp
  · cases es[i]? <;> simp [hi]
theorem run_entry_kmap {w : World} {b : Nat} {ps : List ((Int × Int) × Value)} {z : Value} (K : KeyK P kt) (ht : P.underlying t = some (.map kt et)) (hz : ∀ w, (zeroValue et).run P w = .ok z w) (h : KMap w b ps) (k : Int × Int) :
    ∃ (born : Int) (ps' : List ((Int × Int) × Value)) (w' : World), (Instr.mapEntry t (.map (some b)) (kv k)).run P w = .ok (.tuple #[(klook ps k).getD z, .int .i64 born]) w' ∧ KPend w' b ps' k born ∧ (∀ v, kput ps' k v = kput ps k v) ∧ (klook ps' k).getD z = (klook ps k).getD z ∧ w.grownBy w' (some b) ∧ w'.heap.size = w.heap.size ∧ w.drawn ≤ w'.drawn := by
  obtain ⟨es, c, h1, h2, h3⟩ := h
  have hlt : b < w.heap.size := (Array.getElem?_eq_some_iff.1 h1).1
  have hg : ∀ o : Obj, w.grownBy { w with heap := w.heap.setIfInBounds b o } (some b) := fun o => ⟨rfl, rfl, rfl, by simp, fun i _ hi => by
    have hne : b ≠ i := fun e => hi (by rw [e])
    exact Array.getElem?_setIfInBounds_ne hne⟩
  rcases ask_pairs K k w es.toList ps 0 h2 with ⟨ha, hb, hput⟩ | ⟨j, v, e, ha, hb, he, hek, hm, _⟩
  · refine ⟨c, ps ++ [(k, z)], { w with heap := w.heap.setIfInBounds b (.map (es.push { key := kv k, val := z, born := c }) (c + 1)) }, ?_, ⟨_, _, Array.getElem?_setIfInBounds_self_of_lt hlt, ?_, by simpa using h3.push rfl, es.size, { key := kv k, val := z, born := c }, by simp, rfl, fun v => ?_⟩, fun v => ?_, ?_, hg _, by simp, Nat.le_refl _⟩
    · simp [Instr.mapEntry, run_underlying ht, MapKept.run_getObj_map h1, K.chk, K.fk, hb, ha, hz, Result.andThen, MapKept.run_setObj_map _ h1, goInt]
    · simpa using pairsK_push h2 (e := { key := kv k, val := z, born := c }) (p := (k, z)) ⟨rfl, rfl⟩
    · have hkp : kput (ps ++ [(k, z)]) k v = ps ++ [(k, v)] := by
        have : ∀ ps : List ((Int × Int) × Value), klook ps k = none → kput (ps ++ [(k, z)]) k v = ps ++ [(k, v)] := by
          intro ps
          induction ps with
          | nil => intro _; simp [kput]
          | cons p ps ih =>
            intro h
            by_cases hp : p.1 = k
            · simp [klook, hp] at h
            · have hne : (p.1 == k) = false := beq_eq_false_iff_ne.2 hp
              simp only [klook, List.find?_cons, hne] at h
              simp only [List.cons_append, kput, hne, Bool.false_eq_true, if_false]
              rw [ih h]
        exact this ps ha
      rw [hkp]
      have hl : es.size = es.toList.length := by simp
      simp only [Array.toList_push]
      rw [hl]
      have : (es.toList ++ [({ key := kv k, val := z, born := c } : MapEntry)]).modify es.toList.length (fun e => { e with val := v }) = es.toList ++ [{ key := kv k, val := v, born := c }] := by
        apply List.ext_getElem?
        intro q
        rw [List.getElem?_modify]
        by_cases hq : es.toList.length = q
        · subst hq; simp
        · by_cases hq2 : q < es.toList.length
          · rw [List.getElem?_append_left hq2, List.getElem?_append_left hq2]
            have hq3 : ¬ es.size = q := fun h => hq (by simpa using h)
            cases es.toList[q]? <;> simp [hq3]
          · rw [List.getElem?_append_right (by omega), List.getElem?_append_right (by omega), List.getElem?_eq_none (by simp; omega), List.getElem?_eq_none (by simp; omega)]; rfl
      rw [this]
      exact pairsK_push h2 ⟨rfl, rfl⟩
    · have : ∀ ps : List ((Int × Int) × Value), klook ps k = none → kput (ps ++ [(k, z)]) k v = kput ps k v := by
        intro ps
        induction ps with
        | nil => intro _; simp [kput]
        | cons p ps ih =>
          intro h
          by_cases hp : p.1 = k
          · simp [klook, hp] at h
          · have hne : (p.1 == k) = false := beq_eq_false_iff_ne.2 hp
            simp only [klook, List.find?_cons, hne] at h
            simp only [List.cons_append, kput, hne, Bool.false_eq_true, if_false]
            rw [ih h]
      exact this ps ha
    · rw [ha]
      have : ∀ ps : List ((Int × Int) × Value), klook ps k = none → klook (ps ++ [(k, z)]) k = some z := by
        intro ps
        induction ps with
        | nil => intro _; simp [klook]
        | cons p ps ih =>
          intro h
          by_cases hp : p.1 = k
          · simp [klook, hp] at h
          · have hne : (p.1 == k) = false := beq_eq_false_iff_ne.2 hp
            simp only [klook, List.cons_append, List.find?_cons, hne] at h ih ⊢
            exact ih h
      rw [this ps ha]; rfl
  · rw [Nat.zero_add] at hb
    have hej : es[j]? = some e := by simpa using he
    have hmid : (es.modify j fun e => { e with key := kv k }) = es := by
      apply Array.ext'
      simpa using modify_id he hek
    have hsame : w.heap.setIfInBounds b (.map es c) = w.heap := by
      apply Array.ext_getElem?
      intro q
      by_cases hq : b = q
      · subst hq; rw [Array.getElem?_setIfInBounds_self_of_lt hlt, h1]
      · rw [Array.getElem?_setIfInBounds_ne hq]
    refine ⟨e.born, ps, { w with heap := w.heap.setIfInBounds b (.map es c) }, ?_, ⟨es, c, Array.getElem?_setIfInBounds_self_of_lt hlt, h2, h3, j, e, he, rfl, hm⟩, fun _ => rfl, rfl, hg _, by simp, Nat.le_refl _⟩
    simp [Instr.mapEntry, run_underlying ht, MapKept.run_getObj_map h1, K.chk, K.fk, hb, ha, Result.andThen, hej, hek, Instr.keyThatStays, same_pair, MapKept.run_setObj_map _ h1, hmid, goInt]
theorem run_store_kpend {w : World} {b : Nat} {ps : List ((Int × Int) × Value)} {k : Int × Int} {born : Int} (h : KPend w b ps k born) (v : Value) :
    ∃ w', (Instr.entryStore t (.map (some b)) (.int .i64 born) v).run P w = .ok () w' ∧ KMap w' b (kput ps k v) ∧ w.grownBy w' (some b) ∧ w'.heap.size = w.heap.size ∧ w.drawn ≤ w'.drawn := by
  obtain ⟨es, c, h1, h2, h3, j, e, he, hb, hm⟩ := h
  have hlt : b < w.heap.size := (Array.getElem?_eq_some_iff.1 h1).1
  have hg : ∀ o : Obj, w.grownBy { w with heap := w.heap.setIfInBounds b o } (some b) := fun o => ⟨rfl, rfl, rfl, by simp, fun i _ hi => by
    have hne : b ≠ i := fun e => hi (by rw [e])
    exact Array.getElem?_setIfInBounds_ne hne⟩
  have hj : j < es.size := by
    have := (List.getElem?_eq_some_iff.1 he).1
    simpa using this
  have hje : es[j] = e := by
    have := (List.getElem?_eq_some_iff.1 he).2
    simpa using this
  have hfind : es.findIdx? (fun x => (x.born : Int) == born) = some j := by
    rw [Array.findIdx?_eq_some_iff_getElem]
    refine ⟨hj, by rw [hje, hb]; simp, fun i hi => ?_⟩
    have hij : i < es.size := by omega
    have := List.pairwise_iff_getElem.1 h3.asc i j (by simpa using hij) (by simpa using hj) hi
    simp only [Array.getElem_toList] at this
    rw [hje] at this
    have hne : (es[i].born : Int) ≠ born := by rw [← hb]; omega
    simp [hne]
  refine ⟨{ w with heap := w.heap.setIfInBounds b (.map (es.modify j fun e => { e with val := v }) c) }, ?_, ⟨_, _, Array.getElem?_setIfInBounds_self_of_lt hlt, by simpa using hm v, by simpa using h3.modify (j := j) (g := fun e => { e with val := v }) (fun _ => rfl)⟩, hg _, by simp, Nat.le_refl _⟩
  simp [Instr.entryStore, MapKept.run_getObj_map h1, asInt, asIntOf, hfind, MapKept.run_setObj_map _ h1, Result.andThen]
end

section
variable {c : Cx} {w0 : World} {L : List Item} {f : Fr} {K : List Item → Fr → Prop} {d : Nat} {ty : TypeId} {pos : String} {af : Array Edge} {g : Bool} {x y z : Operand} {t kt et : TypeId}
theorem f_makeK (hd : Nat.blt d c.N = true) (next : ∀ b, K (kmap b [] :: L) (upd f d (.map (some b)))) : Eff c w0 L f ⟨some d, .makeMap t none, ty, pos, af, none⟩ K :=
  ⟨rfl, rfl, hd, fun w hw => by
    have : (execOp (ev f) ⟨some d, .makeMap t none, ty, pos, af, none⟩).run c.P w = .ok (.value (.map (some w.heap.size))) (w.alloc (.map #[] 0)) := by simp [execOp, run_makeMap, Result.andThen]
    rw [this]
    exact ⟨_, hw.new _ (kmap w.heap.size []) (fun _ h => h) ⟨#[], 0, (MapKept.heap_alloc w _).1, .nil, ⟨by simp, by simp⟩⟩, rfl, next _⟩⟩
theorem e_lookK (k : Nat) {b : Nat} {ps : List ((Int × Int) × Value)} {key : Int × Int} {v u : Value} (hK : KeyK c.P kt) (ht : c.P.underlying t = some (.map kt et)) (hz : ∀ w, (zeroValue et).run c.P w = .ok v w) (hx : OpV g f x (.map (some b))) (hy : OpV g f y (kv key))
    (hk : L[k]? = some (kmap b ps)) (hu : g = true → (klook ps key).getD v = u) : EvG g c w0 L f (.lookup t x y false) ty u := fun e _ _ _ _ w hw => by
  have hA : KMap w b ps := hw.item hk
  simp [execOp, hx e, hy e, run_lookup_kmap hK ht hz hA key, Result.andThen, hu e]
theorem e_lookKP (k : Nat) {b : Nat} {ps : List ((Int × Int) × Value)} {key kk : Int × Int} {born : Int} {v u : Value} (hK : KeyK c.P kt) (ht : c.P.underlying t = some (.map kt et)) (hz : ∀ w, (zeroValue et).run c.P w = .ok v w) (hx : OpV g f x (.map (some b))) (hy : OpV g f y (kv key))
    (hk : L[k]? = some (kpend b ps kk born)) (hu : g = true → (klook ps key).getD v = u) : EvG g c w0 L f (.lookup t x y false) ty u := fun e _ _ _ _ w hw => by
  obtain ⟨es, cl, h1, h2, h3, _⟩ : KPend w b ps kk born := hw.item hk
  simp [execOp, hx e, hy e, run_lookup_kmap hK ht hz ⟨es, cl, h1, h2, h3⟩ key, Result.andThen, hu e]
theorem f_entryK (k : Nat) {b : Nat} {ps : List ((Int × Int) × Value)} {key : Int × Int} {v : Value} (hK : KeyK c.P kt) (ht : c.P.underlying t = some (.map kt et)) (hz : ∀ w, (zeroValue et).run c.P w = .ok v w) (hx : ev f x = .map (some b)) (hy : ev f y = kv key)
    (hk : L[k]? = some (kmap b ps)) (hd : Nat.blt d c.N = true) (next : ∀ (born : Int) (ps' : List ((Int × Int) × Value)), (∀ v, kput ps' key v = kput ps key v) → (klook ps' key).getD v = (klook ps key).getD v → K (L.set k (kpend b ps' key born)) (upd f d (.tuple #[(klook ps key).getD v, .int .i64 born]))) :
    Eff c w0 L f ⟨some d, .mapEntry t x y, ty, pos, af, none⟩ K :=
  ⟨rfl, rfl, hd, fun w hw => by
    have hA : KMap w b ps := hw.item hk
    obtain ⟨born, ps', w', hrun, h1, hps, hpz, h2, h3, h4⟩ := run_entry_kmap hK ht hz hA key
    have : (execOp (ev f) ⟨some d, .mapEntry t x y, ty, pos, af, none⟩).run c.P w = .ok (.value (.tuple #[(klook ps key).getD v, .int .i64 born])) w' := by simp [execOp, hx, hy, hrun, Result.andThen]
    rw [this]
    refine ⟨_, hw.set (it' := kpend b ps' key born) hk (fun _ h => h) h1 ⟨h2.os, h2.tape, h2.output, h3, h4⟩ (fun b' hb' => ?_), marks_set hk rfl, next born ps' hps hpz⟩
    by_cases hlt : b' < w.heap.size
    · exact h2.block b' hlt (fun e => hb' (by injection e))
    · rw [Array.getElem?_eq_none (by omega), Array.getElem?_eq_none (by omega)]⟩
theorem f_storeK (k : Nat) {b : Nat} {ps ps0 : List ((Int × Int) × Value)} {key : Int × Int} {born : Int} {v : Value} (hx : ev f x = .map (some b)) (hy : ev f y = .int .i64 born) (hz : ev f z = v)
    (hk : L[k]? = some (kpend b ps key born)) (hps : ∀ v, kput ps key v = kput ps0 key v) (next : K (L.set k (kmap b (kput ps0 key v))) f) :
    Eff c w0 L f ⟨none, .entryStore t x y z, ty, pos, af, none⟩ K :=
  ⟨rfl, rfl, rfl, fun w hw => by
    have hA : KPend w b ps key born := hw.item hk
    obtain ⟨w', hrun, h1, h2, h3, h4⟩ := run_store_kpend (P := c.P) (t := t) hA v
    have : (execOp (ev f) ⟨none, .entryStore t x y z, ty, pos, af, none⟩).run c.P w = .ok .skip w' := by simp [execOp, hx, hy, hz, hrun, Result.andThen]
    rw [this]
    rw [hps] at h1
    refine ⟨_, hw.set (it' := kmap b (kput ps0 key v)) hk (fun _ h => h) h1 ⟨h2.os, h2.tape, h2.output, h3, h4⟩ (fun b' hb' => ?_), marks_set hk rfl, next⟩
    by_cases hlt : b' < w.heap.size
    · exact h2.block b' hlt (fun e => hb' (by injection e))
    · rw [Array.getElem?_eq_none (by omega), Array.getElem?_eq_none (by omega)]⟩
end

end Go.Proofs.E

/-
  Plain functions: passes used, step by step; the map of what was paid.
-/
namespace Go.Proofs.Far
open Go Go.Proofs.E

def condP (l : List Pas) (used : List (Int × Int)) (q : Rq) (k : Nat) : Bool := validP (l.getD k default) q && decide ((paidN used k q.day : Int) < (l.getD k default).perDay)
theorem pick_none {l : List Pas} {used : List (Int × Int)} {q : Rq} (h : ∀ k, k < l.length → condP l used q k = false) : pickP l used q = -1 := by
  unfold pickP
  have : (List.range l.length).find? (fun k => validP (l.getD k default) q && decide ((paidN used k q.day : Int) < (l.getD k default).perDay)) = none := by
    rw [List.find?_eq_none]
    intro k hk
    have := h k (List.mem_range.1 hk)
    unfold condP at this
    rw [this]; decide
  rw [this]
theorem pick_at {l : List Pas} {used : List (Int × Int)} {q : Rq} {j : Nat} (hj : j < l.length) (h : condP l used q j = true) (hb : ∀ k, k < j → condP l used q k = false) : pickP l used q = j := by
  unfold pickP
  have : (List.range l.length).find? (fun k => validP (l.getD k default) q && decide ((paidN used k q.day : Int) < (l.getD k default).perDay)) = some j := by
    rw [List.find?_range_eq_some]
    refine ⟨h, List.mem_range.2 hj, fun i hi => ?_⟩
    have := hb i hi
    unfold condP at this
    rw [this]; rfl
  rw [this]
def firstV (l : List Pas) (q : Rq) : Int := match (List.range l.length).find? fun k => validP (l.getD k default) q with | some k => (k : Int) | none => -1
theorem firstV_cases (l : List Pas) (q : Rq) : (firstV l q = -1 ∧ ∀ k, k < l.length → validP (l.getD k default) q = false) ∨ ∃ j, j < l.length ∧ firstV l q = (j : Int) ∧ ∀ k, k < j → validP (l.getD k default) q = false := by
  unfold firstV
  cases h : (List.range l.length).find? fun k => validP (l.getD k default) q with
  | none =>
    left
    refine ⟨rfl, fun k hk => ?_⟩
    rw [List.find?_eq_none] at h
    simpa using h k (List.mem_range.2 hk)
  | some j =>
    right
    rw [List.find?_range_eq_some] at h
    refine ⟨j, List.mem_range.1 h.2.1, rfl, fun k hk => ?_⟩
    simpa using h.2.2 k hk
theorem cond_invalid {l : List Pas} {used : List (Int × Int)} {q : Rq} {k : Nat} (h : validP (l.getD k default) q = false) : condP l used q k = false := by
  unfold condP; rw [h]; rfl

/-! the map of what was paid -/
theorem klook_put (ps : List ((Int × Int) × Value)) (k k' : Int × Int) (v : Value) : klook (kput ps k v) k' = if k = k' then some v else klook ps k' := by
  induction ps with
  | nil =>
    by_cases h : k = k'
    · simp [kput, klook, h]
    · have : (k == k') = false := beq_eq_false_iff_ne.2 h
      simp [kput, klook, this, h]
  | cons p ps ih =>
    by_cases hp : p.1 = k
    · by_cases h : k = k'
      · simp [kput, klook, hp, h]
      · have h1 : (k == k') = false := beq_eq_false_iff_ne.2 h
        have h2 : (p.1 == k') = false := by rw [hp]; exact h1
        simp [kput, klook, hp, h1, h]
    · have h0 : (p.1 == k) = false := beq_eq_false_iff_ne.2 hp
      simp only [kput, h0, Bool.false_eq_true, if_false]
      by_cases h3 : p.1 = k'
      · have h4 : ¬ k = k' := fun h => hp (by rw [h3, h])
        simp [klook, h3, h4]
      · have h5 : (p.1 == k') = false := beq_eq_false_iff_ne.2 h3
        simp only [klook, List.find?_cons, h5] at ih ⊢
        exact ih
def MP (ps : List ((Int × Int) × Value)) (used : List (Int × Int)) : Prop := ∀ k d : Int, (klook ps (k, d)).getD (.int .i64 0) = .int .i64 (paidN used k d : Nat)
theorem MP.nil : MP [] [] := fun _ _ => rfl
theorem MP.put {ps : List ((Int × Int) × Value)} {used : List (Int × Int)} (h : MP ps used) (k d : Int) : MP (kput ps (k, d) (.int .i64 ((paidN used k d : Nat) + 1))) (used ++ [(k, d)]) := fun a b => by
  rw [klook_put]
  unfold paidN
  rw [List.countP_append]
  by_cases he : (k, d) = (a, b)
  · rw [if_pos he]
    cases he
    simp [paidN]
  · rw [if_neg he, h a b]
    have : (k == a && d == b) = false := by
      cases h1 : (k == a && d == b) with
      | false => rfl
      | true =>
        simp only [Bool.and_eq_true, beq_iff_eq] at h1
        exact absurd (by rw [h1.1, h1.2]) he
    simp [paidN, this]
theorem paidN_le (used : List (Int × Int)) (k d : Int) : paidN used k d ≤ used.length := List.countP_le_length
theorem useS_snd : ∀ (l : List Pas) (qs : List Rq) (s : List Int × List (Int × Int)), (qs.foldl (useStep l) s).2.length ≤ s.2.length + qs.length
  | _, [], s => by simp
  | l, q :: qs, s => by
    rw [List.foldl_cons]
    have h1 := useS_snd l qs (useStep l s q)
    have h2 : (useStep l s q).2.length ≤ s.2.length + 1 := by
      unfold useStep
      simp only
      split
      · simp
      · omega
    rw [List.length_cons]
    omega
def US (l : List Pas) (qs : List Rq) (k : Nat) : List Int × List (Int × Int) := useS l (qs.take k)
theorem US_succ {l : List Pas} {qs : List Rq} {k : Nat} {q : Rq} (h : qs[k]? = some q) : US l qs (k + 1) = useStep l (US l qs k) q := by
  unfold US useS
  rw [List.take_add_one, h, List.foldl_append]; rfl
theorem US_fst {l : List Pas} {qs : List Rq} {k : Nat} (h : k ≤ qs.length) : (US l qs k).1.length = k := by
  unfold US useS
  have h2 : ((qs.take k).foldl (useStep l) ([], [])).1.length = 0 + (qs.take k).length := useS_fst l (qs.take k) ([], [])
  rw [List.length_take] at h2
  omega
theorem US_snd (l : List Pas) (qs : List Rq) (k : Nat) : (US l qs k).2.length ≤ k := by
  unfold US useS
  have h : ((qs.take k).foldl (useStep l) ([], [])).2.length ≤ 0 + (qs.take k).length := useS_snd l (qs.take k) ([], [])
  rw [List.length_take] at h
  omega
/-- the row of the answers, so far -/
def OU (l : List Pas) (qs : List Rq) (k : Nat) : List Int := (US l qs k).1 ++ List.replicate (qs.length - k) 0
theorem OU_len {l : List Pas} {qs : List Rq} {k : Nat} (h : k ≤ qs.length) : (OU l qs k).length = qs.length := by
  unfold OU
  rw [List.length_append, US_fst h, List.length_replicate]
  omega
theorem OU_get {l : List Pas} {qs : List Rq} {k : Nat} (h : k < qs.length) : (OU l qs k)[k]? = some 0 := by
  unfold OU
  rw [List.getElem?_append_right (by rw [US_fst (by omega)]; exact Nat.le_refl _), US_fst (by omega), Nat.sub_self, List.getElem?_replicate, if_pos (by omega)]
theorem OU_set {l : List Pas} {qs : List Rq} {k : Nat} {q : Rq} (h : k < qs.length) (hq : qs[k]? = some q) : (OU l qs k).set k (pickP l (US l qs k).2 q) = OU l qs (k + 1) := by
  unfold OU
  rw [US_succ hq, List.set_append_right _ _ (by rw [US_fst (by omega)]; exact Nat.le_refl _), US_fst (by omega), Nat.sub_self]
  obtain ⟨m, hm⟩ : ∃ m, qs.length - k = m + 1 := ⟨qs.length - k - 1, by omega⟩
  rw [hm, List.replicate_succ, List.set_cons_zero, show qs.length - (k + 1) = m by omega]
  unfold useStep
  simp
theorem set_set_same {l : List Int} {k : Nat} (a b : Int) : (l.set k a).set k b = l.set k b := by rw [List.set_set]

end Go.Proofs.Far

/-
  The walks: numbers of rides sorted that are in their order.
-/
namespace Go.Proofs.Far
open Go Go.RowKit Go.Proofs.E Go.Proofs.Cus Go.Proofs.Rid

def sortIn_ren : Go.Shelf.Ren := ⟨fun | 6 => 137 | 15 => 88 | 14 => 179 | 28 => 135 | 29 => 136 | 20 => 194 | 21 => 195 | 22 => 196 | 23 => 197 | 24 => 198 | 25 => 199 | 26 => 200 | 27 => 201 | 46 => 213 | 47 => 175 | 48 => 176 | 49 => 214 | 50 => 215 | 57 => 220 | n => n, fun | 22 => 22 | 24 => 3 | 25 => 88 | 3 => 3 | 39 => 138 | 0 => 0 | 53 => 174 | 55 => 176 | 4 => 4 | 46 => 167 | 45 => 166 | 50 => 171 | 5 => 5 | 9 => 9 | 66 => 208 | 70 => 212 | 76 => 221 | 77 => 142 | n => n, fun | n => n⟩
theorem sortIn : Go.Proofs.SlLaysF.n6 Tryz.prog sortIn_ren := {
  mixed := by kernel_rfl,
  f6 := ⟨Tryz.f137.name, by decide, Tryz.func137.trans (congrArg some (by kernel_rfl))⟩,
  f14 := ⟨Tryz.f179.name, by decide, Tryz.func179.trans (congrArg some (by kernel_rfl))⟩,
  f15 := Tryz.func88.trans (congrArg some (by kernel_rfl)),
  f20 := ⟨Tryz.f194.name, by decide, Tryz.func194.trans (congrArg some (by kernel_rfl))⟩,
  f21 := ⟨Tryz.f195.name, by decide, Tryz.func195.trans (congrArg some (by kernel_rfl))⟩,
  f22 := ⟨Tryz.f196.name, by decide, Tryz.func196.trans (congrArg some (by kernel_rfl))⟩,
  f23 := ⟨Tryz.f197.name, by decide, Tryz.func197.trans (congrArg some (by kernel_rfl))⟩,
  f24 := ⟨Tryz.f198.name, by decide, Tryz.func198.trans (congrArg some (by kernel_rfl))⟩,
  f25 := ⟨Tryz.f199.name, by decide, Tryz.func199.trans (congrArg some (by kernel_rfl))⟩,
  f26 := ⟨Tryz.f200.name, by decide, Tryz.func200.trans (congrArg some (by kernel_rfl))⟩,
  f27 := ⟨Tryz.f201.name, by decide, Tryz.func201.trans (congrArg some (by kernel_rfl))⟩,
  f28 := Tryz.func135.trans (congrArg some (by kernel_rfl)),
  f29 := Tryz.func136.trans (congrArg some (by kernel_rfl)),
  f46 := ⟨Tryz.f213.name, by decide, Tryz.func213.trans (congrArg some (by kernel_rfl))⟩,
  f47 := Tryz.func175.trans (congrArg some (by kernel_rfl)),
  f48 := Tryz.func176.trans (congrArg some (by kernel_rfl)),
  f49 := ⟨Tryz.f214.name, by decide, Tryz.func214.trans (congrArg some (by kernel_rfl))⟩,
  f50 := ⟨Tryz.f215.name, by decide, Tryz.func215.trans (congrArg some (by kernel_rfl))⟩,
  f57 := ⟨Tryz.f220.name, by decide, Tryz.func220.trans (congrArg some (by kernel_rfl))⟩,
  t0 := Tryz.underlying0,
  a0 := Tryz.isAgg0,
  z0 := Tryz.sizeOf0,
  v0 := Tryz.zeroValue0,
  t3 := Tryz.underlying3,
  a3 := Tryz.isAgg3,
  z3 := Tryz.sizeOf3,
  v3 := Tryz.zeroValue3,
  t4 := Tryz.underlying4,
  a4 := Tryz.isAgg4,
  z4 := Tryz.sizeOf4,
  v4 := Tryz.zeroValue4,
  t5 := Tryz.underlying5,
  a5 := Tryz.isAgg5,
  z5 := Tryz.sizeOf5,
  v5 := Tryz.zeroValue5,
  t9 := Tryz.underlying9,
  a9 := Tryz.isAgg9,
  z9 := Tryz.sizeOf9,
  v9 := Tryz.zeroValue9,
  t22 := Tryz.underlying22,
  a22 := Tryz.isAgg22,
  z22 := Tryz.sizeOf22,
  v22 := Tryz.zeroValue22,
  a24 := Tryz.isAgg3,
  z24 := Tryz.sizeOf3,
  t25 := Tryz.underlying88,
  a25 := Tryz.isAgg88,
  z25 := Tryz.sizeOf88,
  v25 := Tryz.zeroValue88,
  t39 := Tryz.underlying138,
  a39 := Tryz.isAgg138,
  z39 := Tryz.sizeOf138,
  v39 := Tryz.zeroValue138,
  t45 := Tryz.underlying166,
  a45 := Tryz.isAgg166,
  z45 := Tryz.sizeOf166,
  v45 := Tryz.zeroValue166,
  t46 := Tryz.underlying167,
  a46 := Tryz.isAgg167,
  z46 := Tryz.sizeOf167,
  v46 := Tryz.zeroValue167,
  t50 := Tryz.underlying171,
  a50 := Tryz.isAgg171,
  z50 := Tryz.sizeOf171,
  v50 := Tryz.zeroValue171,
  t53 := Tryz.underlying174,
  a53 := Tryz.isAgg174,
  z53 := Tryz.sizeOf174,
  v53 := Tryz.zeroValue174,
  t55 := Tryz.underlying176,
  a55 := Tryz.isAgg176,
  z55 := Tryz.sizeOf176,
  v55 := Tryz.zeroValue176,
  t66 := Tryz.underlying208,
  a66 := Tryz.isAgg208,
  z66 := Tryz.sizeOf208,
  v66 := Tryz.zeroValue208,
  t70 := Tryz.underlying212,
  a70 := Tryz.isAgg212,
  z70 := Tryz.sizeOf212,
  v70 := Tryz.zeroValue212,
  t76 := Tryz.underlying221,
  a76 := Tryz.isAgg221,
  z76 := Tryz.sizeOf221,
  v76 := Tryz.zeroValue221,
  t77 := Tryz.underlying142,
  a77 := Tryz.isAgg142,
  z77 := Tryz.sizeOf142,
  v77 := Tryz.zeroValue142 }
def sortIn0_ren : Go.Shelf.Ren := ⟨fun | 6 => 137 | 15 => 88 | 14 => 179 | 28 => 135 | 29 => 136 | 20 => 194 | 21 => 195 | 22 => 196 | 23 => 197 | 24 => 198 | 25 => 199 | 26 => 200 | 27 => 201 | 46 => 213 | 47 => 175 | 48 => 176 | 49 => 214 | 50 => 215 | 57 => 220 | n => n, fun | 22 => 22 | 24 => 3 | 25 => 88 | 3 => 3 | 39 => 138 | 0 => 0 | 53 => 174 | 55 => 176 | 4 => 4 | 46 => 167 | 45 => 166 | 50 => 171 | 5 => 5 | 9 => 9 | 66 => 208 | 70 => 212 | 76 => 221 | 77 => 142 | n => n, fun | n => n⟩
theorem sortIn0 : Go.Proofs.SlLaysF0.n6 Tryz.prog sortIn0_ren := {
  mixed := by kernel_rfl,
  f6 := ⟨Tryz.f137.name, by decide, Tryz.func137.trans (congrArg some (by kernel_rfl))⟩,
  f14 := ⟨Tryz.f179.name, by decide, Tryz.func179.trans (congrArg some (by kernel_rfl))⟩,
  f15 := Tryz.func88.trans (congrArg some (by kernel_rfl)),
  f20 := ⟨Tryz.f194.name, by decide, Tryz.func194.trans (congrArg some (by kernel_rfl))⟩,
  f21 := ⟨Tryz.f195.name, by decide, Tryz.func195.trans (congrArg some (by kernel_rfl))⟩,
  f22 := ⟨Tryz.f196.name, by decide, Tryz.func196.trans (congrArg some (by kernel_rfl))⟩,
  f23 := ⟨Tryz.f197.name, by decide, Tryz.func197.trans (congrArg some (by kernel_rfl))⟩,
  f24 := ⟨Tryz.f198.name, by decide, Tryz.func198.trans (congrArg some (by kernel_rfl))⟩,
  f25 := ⟨Tryz.f199.name, by decide, Tryz.func199.trans (congrArg some (by kernel_rfl))⟩,
  f26 := ⟨Tryz.f200.name, by decide, Tryz.func200.trans (congrArg some (by kernel_rfl))⟩,
  f27 := ⟨Tryz.f201.name, by decide, Tryz.func201.trans (congrArg some (by kernel_rfl))⟩,
  f28 := Tryz.func135.trans (congrArg some (by kernel_rfl)),
  f29 := Tryz.func136.trans (congrArg some (by kernel_rfl)),
  f46 := ⟨Tryz.f213.name, by decide, Tryz.func213.trans (congrArg some (by kernel_rfl))⟩,
  f47 := Tryz.func175.trans (congrArg some (by kernel_rfl)),
  f48 := Tryz.func176.trans (congrArg some (by kernel_rfl)),
  f49 := ⟨Tryz.f214.name, by decide, Tryz.func214.trans (congrArg some (by kernel_rfl))⟩,
  f50 := ⟨Tryz.f215.name, by decide, Tryz.func215.trans (congrArg some (by kernel_rfl))⟩,
  f57 := ⟨Tryz.f220.name, by decide, Tryz.func220.trans (congrArg some (by kernel_rfl))⟩,
  t0 := Tryz.underlying0,
  a0 := Tryz.isAgg0,
  z0 := Tryz.sizeOf0,
  v0 := Tryz.zeroValue0,
  t3 := Tryz.underlying3,
  a3 := Tryz.isAgg3,
  z3 := Tryz.sizeOf3,
  v3 := Tryz.zeroValue3,
  t4 := Tryz.underlying4,
  a4 := Tryz.isAgg4,
  z4 := Tryz.sizeOf4,
  v4 := Tryz.zeroValue4,
  t5 := Tryz.underlying5,
  a5 := Tryz.isAgg5,
  z5 := Tryz.sizeOf5,
  v5 := Tryz.zeroValue5,
  t9 := Tryz.underlying9,
  a9 := Tryz.isAgg9,
  z9 := Tryz.sizeOf9,
  v9 := Tryz.zeroValue9,
  t22 := Tryz.underlying22,
  a22 := Tryz.isAgg22,
  z22 := Tryz.sizeOf22,
  v22 := Tryz.zeroValue22,
  t25 := Tryz.underlying88,
  a25 := Tryz.isAgg88,
  z25 := Tryz.sizeOf88,
  v25 := Tryz.zeroValue88,
  t39 := Tryz.underlying138,
  a39 := Tryz.isAgg138,
  z39 := Tryz.sizeOf138,
  v39 := Tryz.zeroValue138,
  t45 := Tryz.underlying166,
  a45 := Tryz.isAgg166,
  z45 := Tryz.sizeOf166,
  v45 := Tryz.zeroValue166,
  t46 := Tryz.underlying167,
  a46 := Tryz.isAgg167,
  z46 := Tryz.sizeOf167,
  v46 := Tryz.zeroValue167,
  t50 := Tryz.underlying171,
  a50 := Tryz.isAgg171,
  z50 := Tryz.sizeOf171,
  v50 := Tryz.zeroValue171,
  t53 := Tryz.underlying174,
  a53 := Tryz.isAgg174,
  z53 := Tryz.sizeOf174,
  v53 := Tryz.zeroValue174,
  t55 := Tryz.underlying176,
  a55 := Tryz.isAgg176,
  z55 := Tryz.sizeOf176,
  v55 := Tryz.zeroValue176,
  t66 := Tryz.underlying208,
  a66 := Tryz.isAgg208,
  z66 := Tryz.sizeOf208,
  v66 := Tryz.zeroValue208,
  t70 := Tryz.underlying212,
  a70 := Tryz.isAgg212,
  z70 := Tryz.sizeOf212,
  v70 := Tryz.zeroValue212,
  t76 := Tryz.underlying221,
  a76 := Tryz.isAgg221,
  z76 := Tryz.sizeOf221,
  v76 := Tryz.zeroValue221,
  t77 := Tryz.underlying142,
  a77 := Tryz.isAgg142,
  z77 := Tryz.sizeOf142,
  v77 := Tryz.zeroValue142 }
def idl (n : Nat) : List Int := (List.range n).map fun i : Nat => (i : Int)
theorem idl_len (n : Nat) : (idl n).length = n := by unfold idl; simp
theorem idl_get {n k : Nat} (h : k < n) : (idl n)[k]? = some (k : Int) := by unfold idl; simp [h]
section
open Go.Shelf Go.Lib Go.Sort
theorem fin_flat (n : Nat) (d : Array (Fin n)) : d.toList.flatMap (fun x => [Value.int .i64 (x.1 : Int)]) = (d.toList.map fun x => (x.1 : Int)).flatMap encInt := by
  rw [List.flatMap_map]; rfl
theorem row_conv {w : World} {b c n : Nat} {e : TypeId} {d : List (Fin n)} : (rowT e 1 encInt (some ⟨b, 0, none⟩) c (d.map fun x => (x.1 : Int))).A w ↔ (rowT e 1 (fun x : Fin n => [Value.int .i64 (x.1 : Int)]) (some ⟨b, 0, none⟩) c d).A w := by
  show World.ownsRow _ _ _ _ _ _ _ ↔ World.ownsRow _ _ _ _ _ _ _
  rw [List.length_map, List.flatMap_map]
  exact Iff.rfl
theorem sortId_w {w0 w : World} {L : List E.Item} (hw : Mem w0 L w) {j q b3 n c : Nat} {b rc0 : Nat} {rA : Option Addr} {rs : List RX} (hk : L[j]? = some (intRow (some ⟨b, 0, none⟩) c (idl n))) (hq : L[q]? = some (box b3 36 [.slice rA n rc0])) (hjq : j ≠ q)
    (hr : RdsAt w0 rA n rs) (hs : rs.Pairwise fun x y => rideLt x.r y.r = true) (hn : n ≤ 1000000) :
    Calls Tryz.prog 137 #[.slice (some ⟨b, 0, none⟩) n c, .func (.func 138) #[] #[.pointer (some ⟨b3, 0, none⟩)]] w fun r w' => ∃ _ : Unit, r = .returned (.tuple #[]) ∧ Mem w0 L w' := by
  have hlen : rs.length = n := hr.1.1
  rcases Nat.eq_zero_or_pos n with h0 | h0
  · subst h0
    refine (AnyF.slices_SortFunc_none sortIn0 (some ⟨b, 0, none⟩) c (.func (.func 138) #[] #[.pointer (some ⟨b3, 0, none⟩)]) w).mono ?_
    rintro r w' ⟨rfl, rfl⟩
    exact ⟨(), rfl, hw⟩
  · haveI : Inhabited (Fin n) := ⟨⟨0, h0⟩⟩
    have hb : b < w.heap.size := (hw.itemLt hk rfl).2
    let enc : Fin n → Value := fun x => .int .i64 (x.1 : Int)
    let d : Array (Fin n) := (List.finRange n).toArray
    have hds : d.size = n := by simp [d]
    have hfin : (List.finRange n).map (fun x : Fin n => (x.1 : Int)) = idl n := by
      unfold idl
      apply List.ext_getElem
      · simp
      · intro i h1 h2; simp
    let cf : Fin n → Fin n → Int := fun x y => rideCmp (rs[x.1]'(by omega)).r (rs[y.1]'(by omega)).r
    have hlt : ∀ x y, ltOf cf x y = rideLt (rs[x.1]'(by omega)).r (rs[y.1]'(by omega)).r := fun x y => by
      unfold ltOf
      exact rideCmp_lt _ _
    have hO : SWO (ltOf cf) := swo_ride (fun x : Fin n => (rs[x.1]'(by omega)).r) cf hlt
    have hpw := List.pairwise_iff_getElem.1 hs
    have hT : ∀ x y, ltOf cf x y = false → ltOf cf y x = false → x = y := fun x y h1 h2 => by
      rw [hlt] at h1 h2
      rcases Nat.lt_trichotomy x.1 y.1 with h | h | h
      · have := hpw x.1 y.1 (by omega) (by omega) h
        rw [h1] at this; cases this
      · exact Fin.ext h
      · have := hpw y.1 x.1 (by omega) (by omega) h
        rw [h2] at this; cases this
    have hkF : ∀ {w : World} {L' : List E.Item}, Mem w0 L' w → L'[j]? = some (intRow (some ⟨b, 0, none⟩) c (idl n)) → Mem w0 (L'.set j (rowT 3 1 (fun x : Fin n => [Value.int .i64 (x.1 : Int)]) (some ⟨b, 0, none⟩) c (List.finRange n))) w := fun {w L'} hw hk => by
      refine hw.swap hk (fun z hz => hz) (row_conv.1 ?_)
      rw [hfin]
      exact hw.item hk
    have hwF := hkF hw hk
    have hjL := (List.getElem?_eq_some_iff.1 hk).1
    have hkk : (L.set j (rowT 3 1 (fun x : Fin n => [Value.int .i64 (x.1 : Int)]) (some ⟨b, 0, none⟩) c (List.finRange n)))[j]? = some (rowT 3 1 (fun x : Fin n => [Value.int .i64 (x.1 : Int)]) (some ⟨b, 0, none⟩) c (List.finRange n)) := by simp [hjL]
    have hcmp : CmpLays1 Tryz.prog 138 #[.pointer (some ⟨b3, 0, none⟩)] enc cf b 0 d.size w := by
      intro m os dk hdk x y
      have hm := sorted_mem (k := 1) (enc := fun x : Fin n => [Value.int .i64 (x.1 : Int)]) (n := m) (os := os) (ys := dk.toList) (fun _ => rfl) hwF hkk (by simp; omega)
      rw [List.set_set] at hm
      have hww : sortWorldK (fun x : Fin n => [enc x]) 1 w b 0 m dk.toList.toArray os = sortWorld enc w b 0 m dk os := by
        rw [sortWorld_one]
      rw [hww] at hm
      have hq2 : (L.set j (rowT 3 1 (fun x : Fin n => [Value.int .i64 (x.1 : Int)]) (some ⟨b, 0, none⟩) c dk.toList))[q]? = some (box b3 36 [.slice rA n rc0]) := by
        rw [List.getElem?_set_ne hjq]; exact hq
      have hrow : RowAt (sortWorld enc w b 0 m dk os) b3 0 [.slice rA n rc0] := fun i u hu => by
        rw [Nat.zero_add]
        exact box_cell hm hq2 hu
      have hb3 : b3 < (sortWorld enc w b 0 m dk os).heap.size := (hm.itemLt hq2 rfl).2
      refine (use1_w rA n rc0 rs x.1 y.1 (rs[x.1]'(by omega)) (rs[y.1]'(by omega)) b3 _ hrow hb3 (hr.mem hm) (List.getElem?_eq_getElem _) (List.getElem?_eq_getElem _)).mono fun e w' ⟨he, hbl⟩ => ⟨he, hbl.grew⟩
    have hH : Holds enc w b 0 d := by
      have h1 := holdsK_row (k := 1) (enc := fun x : Fin n => [enc x]) (fun _ => rfl) hwF hkk
      unfold HoldsK at h1
      rw [one_flat] at h1
      intro i hi
      have := h1 i (by simpa [d] using hi)
      rw [getElem!_pos _ i (by simpa [d] using hi)] at this
      rw [getElem!_pos d i hi]
      simpa [d] using this
    have hcon := Any.slices_SortFunc_total sortIn enc (fun _ => rfl) cf hO 138 #[.pointer (some ⟨b3, 0, none⟩)] b 0 c d w Tryz.call138 hcmp hH hb (by omega) hT
    rw [hds] at hcon
    refine hcon.mono ?_
    rintro r w' ⟨rfl, m, os, rfl⟩
    have hsort : d.toList.mergeSort (fun x y => !(ltOf cf) y x) = List.finRange n := by
      have : d.toList = List.finRange n := by simp [d]
      rw [this]
      refine List.mergeSort_of_pairwise ?_
      rw [List.pairwise_iff_getElem]
      intro i k hi hk2 hik
      simp only [List.getElem_finRange]
      rw [hlt]
      have h1 := hpw i k (by simp at hi; omega) (by simp at hk2; omega) hik
      have h2 : rideLt (rs[k]'(by simp at hk2; omega)).r (rs[i]'(by simp at hi; omega)).r = false := by
        unfold rideLt at h1 ⊢
        simp only [decide_eq_true_eq, decide_eq_false_iff_not] at h1 ⊢
        omega
      simpa using h2
    rw [hsort, sortWorld_one]
    refine ⟨(), rfl, ?_⟩
    have hm := sorted_mem (k := 1) (enc := fun x : Fin n => [Value.int .i64 (x.1 : Int)]) (n := m) (os := os) (ys := List.finRange n) (fun _ => rfl) hwF hkk rfl
    rw [List.set_set] at hm
    have hm2 := hm.swap (j := j) (it := rowT 3 1 (fun x : Fin n => [Value.int .i64 (x.1 : Int)]) (some ⟨b, 0, none⟩) c (List.finRange n)) (it' := intRow (some ⟨b, 0, none⟩) c (idl n)) (by simp [hjL]) (fun z hz => hz) (by
      have := row_conv.2 (hm.item (k := j) (it := rowT 3 1 (fun x : Fin n => [Value.int .i64 (x.1 : Int)]) (some ⟨b, 0, none⟩) c (List.finRange n)) (by simp [hjL]))
      rw [hfin] at this
      exact this)
    rw [List.set_set] at hm2
    have hLL : L.set j (intRow (some ⟨b, 0, none⟩) c (idl n)) = L := by
      obtain ⟨q1, q2⟩ := List.getElem?_eq_some_iff.1 hk
      rw [← q2]; exact List.set_getElem_self q1
    rw [hLL] at hm2
    exact hm2
end

end Go.Proofs.Far
