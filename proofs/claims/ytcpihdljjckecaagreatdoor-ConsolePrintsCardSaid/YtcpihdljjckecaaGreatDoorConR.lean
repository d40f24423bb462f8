import Derived.Test.YtcpihdljjckecaaGreatDoorConEc
import Derived.Laws.BytesString
import Derived.Test.YtcpihdljjckecaaGreatDoorConB
import Derived.Test.YtcpihdljjckecaaGreatDoorConM
set_option linter.unusedVariables false
set_option linter.unusedSimpArgs false
/-
  Strings: bytes and parts; texts out of bytes; numbers of other kinds.
-/
namespace Go.Proofs.E
open Go Go.RowKit
theorem byte_at {s : ByteArray} {j : Nat} {n : UInt8} (h : s.data.toList[j]? = some n) : s[j]? = some n := by
  have hlt : j < s.size := by
    have := (List.getElem?_eq_some_iff.1 h).1
    rw [Array.length_toList] at this; exact this
  rw [getElem?_pos s j hlt]
  rw [Array.getElem?_toList, Array.getElem?_eq_getElem hlt] at h
  exact h
section
variable {c : Cx} {w0 : World} {L : List Item} {f : Fr} {g : Bool} {ty : TypeId} {x y z : Operand} {v : Value}
theorem e_ixStr {t : TypeId} {s : ByteArray} {m : Int} (j : Nat) (n : UInt8) (ht : c.P.underlying t = some .string) (hx : OpV g f x (.string s)) (hy : OpV g f y (.int .i64 m)) (hm : g = true → m = (j : Int) ∧ s.data.toList[j]? = some n) : EvG g c w0 L f (.index t x y) ty (.int .u8 n.toNat) := fun e _ _ _ _ w _ => by
  obtain ⟨rfl, hj⟩ := hm e
  simp [execOp, hx e, hy e, Instr.index, asIntOf, run_underlying ht, byte_at hj, Result.andThen]
theorem e_slStr {t : TypeId} {s : ByteArray} {m n : Int} (i j : Nat) (ht : c.P.underlying t = some .string) (hx : OpV g f x (.string s)) (hy : OpV g f y (.int .i64 m)) (hz : OpV g f z (.int .i64 n)) (hm : g = true → m = (i : Int) ∧ n = (j : Int) ∧ i ≤ j ∧ j ≤ s.size) : EvG g c w0 L f (.slice t x (some y) (some z) none) ty (.string (s.extract i j)) := fun e _ _ _ _ w _ => by
  obtain ⟨rfl, rfl, h1, h2⟩ := hm e
  simp [execOp, hx e, hy e, hz e, Instr.sliceAt, Instr.slice, Instr.sliceBounds, Instr.sliceBound, asIntOf, run_underlying ht, Result.andThen, h1, h2]
theorem e_sub8 {t t2 : TypeId} {m n : Int} (hx : OpV g f x (.int .u8 m)) (hy : OpV g f y (.int .u8 n)) {r : Int} (hr : g = true → IntKind.u8.wrap (m - n) = r) : EvG g c w0 L f (.binOp .sub t x y t2) ty (.int .u8 r) := fun e _ _ _ _ w _ => by
  have h := hr e
  simp [execOp, hx e, hy e, eqGuard, binOp, Op.intArith, h]
theorem e_cvI {t d : TypeId} {k q : IntKind} {n r : Int} (ht : c.P.underlying t = some (.int q)) (hd : c.P.underlying d = some (.int k)) (hx : OpV g f x (.int q n)) (hr : g = true → k.wrap n = r) : EvG g c w0 L f (.convert t d x) ty (.int k r) := fun e _ _ _ _ w _ => by
  have h := hr e
  simp [execOp, hx e, convert, run_underlying ht, run_underlying hd, Conv.intToInt, h, Result.andThen]
theorem e_b2s {t d el : TypeId} {b o cp : Nat} {ns : List Int} (ht : c.P.underlying t = some (.slice el)) (he : c.P.underlying el = some (.int .u8)) (hd : c.P.underlying d = some .string) (hx : OpV g f x (.slice (some ⟨b, o, none⟩) ns.length cp)) (hc : g = true → ∀ w, Mem w0 L w → ∀ j u, (ns.map (Value.int .u8))[j]? = some u → w.cell? ⟨b, o + j, none⟩ = some u) : EvG g c w0 L f (.convert t d x) ty (.string (ns.foldl (fun r n => r.push (UInt8.ofNat n.toNat)) ByteArray.empty)) := fun e _ _ _ _ w hw => by
  have h1 := run_loadCellsFrom (P := c.P) (w := w) (b := b) (o := o) ns.length 0 #[] (ns.map (Value.int .u8)) (by simp) (fun j u hu => by rw [Nat.zero_add]; exact hc e w hw j u hu)
  have h2 := run_bytesToString w ⟨b, o, none⟩ ns.length cp ns (by simpa [loadCells] using h1)
  simp [execOp, hx e, run_convert_bytes_string w t d el _ _ _ ht he hd, h2, Result.andThen]
end
theorem xCT0 {c : Cx} {PQ : PJ} {w0 : World} {L : List Item} {f : Fr} {ops rest : List Oper} {op : Op} {k : FuncId} {args : Array Value} {ty : TypeId} {pos : String} {af : Array Edge} {d j e : Nat} {b : Bool} {v : Value} (h0 : w0.drawn = 0) (hen : EnterG b c w0 L f op ty k args) (hc : b = true → ∀ w, Mem w0 L w → Calls c.P k args w fun e w' => e = .returned v ∧ Blw w w') (hj : (ops.map (·.dst))[j]? = some (some e)) (hx : f e = .bool b) (hnd : isDefer op = false) (hd : Nat.blt d c.N = true) (next : XL false c ops rest PQ w0 L (upd f d (gv b v))) :
    XL false c ops (⟨some d, op, ty, pos, af, some (j, true)⟩ :: rest) PQ w0 L f := xCg0 h0 (Gd_true hj hx) hen hc hnd hd next
theorem XL_mem {c : Cx} {PQ : PJ} {w0 : World} {L : List Item} {f : Fr} {ops rest : List Oper} {L' : List Item} (hm : ∀ w, Mem w0 L w → Mem w0 L' w) (hk : marks L' = marks L) (h : XL false c ops rest PQ w0 L' f) : XL false c ops rest PQ w0 L f := HL_mem hm hk h
/-- two results: one in a box, one in a slot -/
theorem resCt {c : Cx} {fn : Func} {w0 : World} {L : List Item} {f : Fr} (i : Nat) {a a2 n b : Nat} {t tb : TypeId} {cs : List Value} {x : Value} (hr : fn.results = #[.cell a t, .tmp a2]) (hv : f a = .pointer (some ⟨b, 0, none⟩)) (hx : f a2 = x) (ht : ∀ w, (isAgg t).run c.P w = .ok true w) (hs : ∀ w, (sizeOf t).run c.P w = .ok n w)
    (hk : L[i]? = some (box b tb cs)) (hl : cs.length = n) : ResIs c.P c.N fn w0 L f (.tuple #[.agg cs.toArray, x]) := fun w ds ac hw ha => by
  have h1 := ha.get a
  rw [hv, Array.getD_eq_getD_getElem?] at h1
  have h2 := ha.get a2
  have := run_loadCellsFrom (P := c.P) (w := w) (b := b) (o := 0) n 0 #[] cs hl (fun j u hu => by simpa using box_cell hw hk hu)
  simp [results, hr, h1, ← hx, ← h2, asAddr, loadVar, ht, hs, loadCells, this, Result.andThen]
end Go.Proofs.E

/-
  Plain: the reference's numbers, lines and acts.
-/
namespace Go.Proofs.Con
open Go Go.Lib

/-! digits -/
def dgO (n : Nat) (s : List UInt8) : List UInt8 := if n = 0 ∧ s ≠ [] then s else decDigits n ++ s
theorem dgO_pos {n : Nat} {s : List UInt8} (h : 0 < n ∨ s = []) : dgO n s = decDigits n ++ s := by
  unfold dgO
  rw [if_neg]
  rintro ⟨h1, h2⟩
  rcases h with h | h
  · omega
  · exact h2 h
theorem dgO_step {n : Nat} {s : List UInt8} (h : 0 < n ∨ s = []) : dgO (n / 10) (UInt8.ofNat (48 + n % 10) :: s) = dgO n s := by
  rw [dgO_pos h]
  by_cases hn : n < 10
  · unfold dgO
    rw [if_pos ⟨by omega, by simp⟩]
    conv => rhs; rw [decDigits, dif_pos hn]
    rw [Nat.mod_eq_of_lt hn]; rfl
  · rw [dgO_pos (.inl (by omega))]
    conv => rhs; rw [decDigits, dif_neg hn]
    simp
theorem dgO_done {s : List UInt8} (h : s ≠ []) : dgO 0 s = s := by unfold dgO; rw [if_pos ⟨rfl, h⟩]
theorem dgO_len (n : Nat) (s : List UInt8) : s.length ≤ (dgO n s).length := by
  unfold dgO; split <;> simp
theorem dgO_nil (n : Nat) : dgO n [] = decDigits n := by rw [dgO_pos (.inr rfl), List.append_nil]
theorem itoa_nonneg {n : Int} (h : 0 ≤ n) : itoa n = decDigits n.toNat := by
  unfold itoa; rw [if_neg (by omega)]
theorem itoa_neg {n : Int} (h : n < 0) : itoa n = 45 :: decDigits (-n).toNat := by
  unfold itoa
  rw [if_pos h]
  congr 2
  omega

/-! values of texts -/
def stp (n : Int) (c : UInt8) : Int := if 48 ≤ c.toNat ∧ c.toNat ≤ 57 then 10 * n + ((c.toNat : Int) - 48) else n
def dvl (n : Int) (l : List UInt8) : Int := l.foldl stp n
theorem dvl_cons (n : Int) (c : UInt8) (l : List UInt8) : dvl n (c :: l) = dvl (stp n c) l := rfl
theorem stp_digit (n : Int) {k : Nat} (h : k < 10) : stp n (UInt8.ofNat (48 + k)) = 10 * n + k := by
  unfold stp
  rw [digit_nat h, if_pos ⟨by omega, by omega⟩]
  congr 1
  omega
theorem dvl_dec (u : Nat) : ∀ r, dvl 0 (decDigits u ++ r) = dvl u r := by
  induction u using Nat.strongRecOn with
  | _ u ih =>
    intro r
    by_cases h : u < 10
    · rw [decDigits, dif_pos h, List.singleton_append, dvl_cons, stp_digit 0 h]
      congr 1
      omega
    · rw [decDigits, dif_neg h, List.append_assoc, ih (u / 10) (by omega) _, List.singleton_append, dvl_cons, stp_digit _ (by omega)]
      congr 1
      omega
theorem stp_bd {n : Int} {k : Nat} (c : UInt8) (h0 : 0 ≤ n) (h1 : n < (10 ^ k : Nat)) : 0 ≤ stp n c ∧ stp n c < (10 ^ (k + 1) : Nat) := by
  unfold stp
  rw [Nat.pow_succ]
  generalize 10 ^ k = q at *
  split <;> omega
theorem dvl_bd : ∀ (l : List UInt8) (n : Int) (k : Nat), 0 ≤ n → n < (10 ^ k : Nat) → 0 ≤ dvl n l ∧ dvl n l < (10 ^ (k + l.length) : Nat)
  | [], n, k, h0, h1 => ⟨h0, h1⟩
  | c :: l, n, k, h0, h1 => by
    have h := stp_bd c h0 h1
    have := dvl_bd l _ _ h.1 h.2
    rw [dvl_cons, List.length_cons, show k + (l.length + 1) = k + 1 + l.length by omega]
    exact this
theorem dvl_small {l : List UInt8} (h : l.length ≤ 18) : 0 ≤ dvl 0 l ∧ dvl 0 l < 1000000000000000000 := by
  have h1 := dvl_bd l 0 0 (Int.le_refl _) (by decide)
  have h2 : 10 ^ (0 + l.length) ≤ 10 ^ 18 := Nat.pow_le_pow_right (by decide) (by omega)
  have h3 : (10 ^ 18 : Nat) = 1000000000000000000 := by decide
  omega
theorem dvl_snoc {l : List UInt8} {i : Nat} {c : UInt8} (h : l[i]? = some c) : dvl 0 (l.take (i + 1)) = stp (dvl 0 (l.take i)) c := by
  rw [snoc l i c h]
  unfold dvl
  rw [List.foldl_append]; rfl
/-- the number that the reference reads -/
def rvL (l : List UInt8) : Int := if l.head? = some 45 then -dvl 0 l else dvl 0 l
theorem dec_head (u : Nat) : (decDigits u).head? ≠ some 45 := fun h => by
  cases hd : decDigits u with
  | nil => rw [hd] at h; cases h
  | cons c r =>
    have := dec_all u c (by rw [hd]; exact List.mem_cons_self ..)
    rw [hd] at h
    cases h
    have e : (45 : UInt8).toNat = 45 := rfl
    omega
theorem rv_itoa (v : Int) : rvL (itoa v) = v := by
  by_cases h : v < 0
  · have h45 : stp 0 45 = 0 := by decide
    have h2 := dvl_dec (-v).toNat []
    rw [List.append_nil] at h2
    rw [itoa_neg h, rvL, List.head?_cons, if_pos rfl, dvl_cons, h45, h2]
    show -(((-v).toNat : Nat) : Int) = v
    omega
  · have h2 := dvl_dec v.toNat []
    rw [List.append_nil] at h2
    rw [itoa_nonneg (by omega), rvL, if_neg (dec_head _), h2]
    show ((v.toNat : Nat) : Int) = v
    omega
theorem numL_yes {s : ByteArray} (h1 : okN (rvL s.data.toList) = true) (h2 : itoa (rvL s.data.toList) = s.data.toList) : numL s = some (rvL s.data.toList) := numL_iff.2 ⟨h1, h2.symm⟩
theorem numL_no {s : ByteArray} (h : ¬(okN (rvL s.data.toList) = true ∧ itoa (rvL s.data.toList) = s.data.toList)) : numL s = none := by
  cases hn : numL s with
  | none => rfl
  | some v =>
    obtain ⟨h1, h2⟩ := numL_iff.1 hn
    have h3 : rvL s.data.toList = v := by rw [h2, rv_itoa]
    exact absurd ⟨by rw [h3]; exact h1, by rw [h3]; exact h2.symm⟩ h
theorem numL_long {s : ByteArray} (h : 18 < s.size) : numL s = none := by
  cases hn : numL s with
  | none => rfl
  | some v =>
    obtain ⟨h1, h2⟩ := numL_iff.1 hn
    obtain ⟨h3, h4⟩ := of_decide_eq_true h1
    have h5 := (txt_size h3 h4).2
    rw [← txt_of hn] at h5
    omega

/-! lines -/
theorem drop_split {l : List UInt8} {fr i : Nat} {c : UInt8} (h : l[i]? = some c) (hf : fr ≤ i) : l.drop fr = (l.drop fr).take (i - fr) ++ c :: l.drop (i + 1) := by
  conv => lhs; rw [← List.take_append_drop (i - fr) (l.drop fr), List.drop_drop]
  congr 1
  rw [show fr + (i - fr) = i by omega]
  have hlt := (List.getElem?_eq_some_iff.1 h).1
  rw [List.drop_eq_getElem_cons hlt, (List.getElem?_eq_some_iff.1 h).2]
theorem take_snoc {l : List UInt8} {fr i : Nat} {c : UInt8} (h : l[i]? = some c) (hf : fr ≤ i) : (l.drop fr).take (i + 1 - fr) = (l.drop fr).take (i - fr) ++ [c] := by
  rw [show i + 1 - fr = (i - fr) + 1 by omega]
  exact snoc _ _ _ (by rw [List.getElem?_drop, show fr + (i - fr) = i by omega]; exact h)
theorem cut_data (s : ByteArray) (fr i : Nat) : s.extract fr i = toB ((s.data.toList.drop fr).take (i - fr)) := by
  apply ByteArray.ext
  unfold toB
  apply Array.toList_inj.1
  rw [ByteArray.data_extract, Array.toList_extract, List.extract_eq_take_drop]
/-- where the splitting stands: at byte i, the word begun at fr, the words ws behind -/
structure SpI (l : List UInt8) (i fr : Nat) (ws : List (List UInt8)) : Prop where
  le : i ≤ l.length → fr ≤ i ∧ spl l = ws ++ spl (l.drop fr) ∧ (32 : UInt8) ∉ (l.drop fr).take (i - fr)
  top : i ≤ l.length + 1
  fin : l.length < i → spl l = ws
  len : ws.length ≤ i
  sz : ∀ w ∈ ws, w.length ≤ l.length
theorem SpI.start (l : List UInt8) : SpI l 0 0 [] := ⟨fun _ => ⟨Nat.le_refl _, by simp, by simp⟩, by omega, fun h => by omega, Nat.le_refl _, by simp⟩
theorem SpI.skip {l : List UInt8} {i fr : Nat} {ws : List (List UInt8)} {c : UInt8} (h : SpI l i fr ws) (hc : l[i]? = some c) (hn : c ≠ 32) : SpI l (i + 1) fr ws := by
  have hlt := (List.getElem?_eq_some_iff.1 hc).1
  obtain ⟨h1, h2, h3⟩ := h.le (by omega)
  refine ⟨fun _ => ⟨by omega, h2, ?_⟩, by omega, fun hh => by omega, by have := h.len; omega, h.sz⟩
  rw [take_snoc hc h1, List.mem_append, List.mem_singleton]
  rintro (h | h)
  · exact h3 h
  · exact hn h.symm
theorem SpI.blank {l : List UInt8} {i fr : Nat} {ws : List (List UInt8)} (h : SpI l i fr ws) (hc : l[i]? = some 32) : SpI l (i + 1) (i + 1) (ws ++ [(l.drop fr).take (i - fr)]) := by
  have hlt := (List.getElem?_eq_some_iff.1 hc).1
  obtain ⟨h1, h2, h3⟩ := h.le (by omega)
  refine ⟨fun _ => ⟨Nat.le_refl _, ?_, by simp⟩, by omega, fun hh => by omega, by have := h.len; simp; omega, fun w hw => ?_⟩
  · rw [h2, drop_split hc h1, spl_word _ _ h3, List.append_assoc]
    rw [← drop_split hc h1]; rfl
  · rcases List.mem_append.1 hw with hw | hw
    · exact h.sz w hw
    · rw [List.mem_singleton.1 hw, List.length_take, List.length_drop]; omega
theorem SpI.last {l : List UInt8} {fr : Nat} {ws : List (List UInt8)} (h : SpI l l.length fr ws) : SpI l (l.length + 1) (l.length + 1) (ws ++ [(l.drop fr).take (l.length - fr)]) := by
  obtain ⟨h1, h2, h3⟩ := h.le (Nat.le_refl _)
  refine ⟨fun hh => by omega, Nat.le_refl _, fun _ => ?_, by have := h.len; simp; omega, fun w hw => ?_⟩
  · have e : (l.drop fr).take (l.length - fr) = l.drop fr := List.take_of_length_le (by rw [List.length_drop]; exact Nat.le_refl _)
    rw [e] at h3 ⊢
    rw [h2, spl_one _ h3]
  · rcases List.mem_append.1 hw with hw | hw
    · exact h.sz w hw
    · rw [List.mem_singleton.1 hw, List.length_take, List.length_drop]; omega

/-! acts -/
/-- how many arguments a command has -/
def arO (s : ByteArray) : Int := match cos.find? (fun c => decide (c.word = s.data.toList)) with
  | some c => c.offs.length
  | none => -1
theorem pl_empty {ws : List ByteArray} (h : ws.any (fun x => x.size == 0) = true) : parseL ws = (zs, 36) := by
  unfold parseL
  split
  · rfl
  · rw [if_pos h]
theorem pl_arity {x : ByteArray} {r : List ByteArray} (h : arO x ≠ r.length) : parseL (x :: r) = (zs, 36) := by
  have : cos.find? (mt (x :: r)) = none := by
    cases hf : cos.find? (mt (x :: r)) with
    | none => rfl
    | some c =>
      have hm := List.find?_some hf
      simp only [mt, Bool.and_eq_true, decide_eq_true_eq] at hm
      exfalso
      apply h
      unfold arO
      have hc := List.mem_of_find?_eq_some hf
      cases hg : cos.find? (fun c => decide (c.word = x.data.toList)) with
      | none => exact absurd (decide_eq_true hm.1) (List.find?_eq_none.1 hg c hc)
      | some d =>
        have hd : d.word = x.data.toList := of_decide_eq_true (List.find?_some (p := fun c : Co => decide (c.word = x.data.toList)) hg)
        rw [co_word (List.mem_of_find?_eq_some hg) hc (hd.trans hm.1.symm), hm.2]
  unfold parseL
  rw [this]
theorem pl_find {x : ByteArray} {r : List ByteArray} (h : arO x = r.length) : ∃ (k : Nat) (c : Co), cos[k]? = some c ∧ c.word = x.data.toList ∧ c.offs.length = r.length ∧ ((x :: r).any (fun x => x.size == 0) = false → parseL (x :: r) = if r.all (fun x => (numL x).isSome) then (puts c.offs (r.map nv) (zs.set 0 c.kind), 0) else (zs, 3)) := by
  unfold arO at h
  cases hg : cos.find? (fun c => decide (c.word = x.data.toList)) with
  | none => rw [hg] at h; simp only at h; omega
  | some c =>
    rw [hg] at h
    have hc := List.mem_of_find?_eq_some hg
    have hw : c.word = x.data.toList := of_decide_eq_true (List.find?_some (p := fun c : Co => decide (c.word = x.data.toList)) hg)
    obtain ⟨k, hk, rfl⟩ := List.mem_iff_getElem.1 hc
    have hl : cos[k].offs.length = r.length := by simp only at h; omega
    refine ⟨k, _, List.getElem?_eq_getElem hk, hw, hl, fun ha => ?_⟩
    unfold parseL
    rw [find_word hc (by simp [mt, hw, hl])]
    simp only
    rw [if_neg (by rw [ha]; decide), List.tail_cons]
/-- the line that the reference writes -/
theorem puts_vals : ∀ {os : List Nat} {vs cs : List Int}, os.Nodup → vs.length = os.length → (∀ o ∈ os, o < cs.length) → os.map (fun o => (puts os vs cs).getD o 0) = vs
  | [], [], cs, _, _, _ => rfl
  | [], _ :: _, _, _, h, _ => by simp at h
  | _ :: _, [], _, _, h, _ => by simp at h
  | o :: os, v :: vs, cs, hd, hl, hb => by
    rw [List.nodup_cons] at hd
    have ho := hb o (List.mem_cons_self ..)
    have ih := puts_vals (cs := cs.set o v) hd.2 (by simpa using hl) fun x hx => by rw [List.length_set]; exact hb x (List.mem_cons_of_mem _ hx)
    rw [List.map_cons]
    simp only [puts]
    rw [ih, List.getD_eq_getElem?_getD, puts_get _ _ _ _ hd.1, List.getElem?_set_self ho]; rfl
theorem print_none {a : List Int} (h : cos.find? (fun c => decide (c.kind = a.headD 0)) = none) : printL a = (⟨#[]⟩, 36) := by
  unfold printL; rw [h]
theorem print_e (a : List Int) : (∃ s, printL a = (s, 0)) ∨ printL a = (⟨#[]⟩, 36) := by
  unfold printL
  split
  · split
    · exact .inl ⟨_, rfl⟩
    · exact .inr rfl
  · exact .inr rfl
theorem print_yes {c : Co} (hc : c ∈ cos) {a : List Int} (hv : ∀ o ∈ c.offs, okN (a.getD o 0) = true) (hp : puts c.offs (c.offs.map fun o => a.getD o 0) (zs.set 0 c.kind) = a) {s : ByteArray} (hs : s.data.toList = c.word ++ flat (c.offs.map fun o => a.getD o 0)) : printL a = (s, 0) := by
  obtain ⟨t, h1, h2⟩ := print_puts hc (vs := c.offs.map fun o => a.getD o 0) (by simp) (fun v hv' => by obtain ⟨o, ho, rfl⟩ := List.mem_map.1 hv'; exact hv o ho)
  rw [hp] at h1
  rw [h1, ← toB_data t, ← toB_data s, h2, hs]
theorem print_no {c : Co} (hc : c ∈ cos) {a : List Int} (ha : a.length = 20) (hk : c.kind = a.headD 0) (h : ¬((∀ o ∈ c.offs, okN (a.getD o 0) = true) ∧ puts c.offs (c.offs.map fun o => a.getD o 0) (zs.set 0 c.kind) = a)) : printL a = (⟨#[]⟩, 36) := by
  rcases print_e a with ⟨s, hs⟩ | hs
  · exfalso
    obtain ⟨d, hd, vs, h1, h2, h3, h4⟩ := print_ok ha hs
    have hk2 : d.kind = a.headD 0 := by rw [h3]; exact (puts0 hd vs).1.symm
    have hdc : d = c := by
      have e1 := find_k hc
      have e2 := find_k hd
      rw [hk2, ← hk, e1] at e2
      cases e2; rfl
    subst hdc
    have hv : d.offs.map (fun o => a.getD o 0) = vs := by
      rw [h3]
      exact puts_vals (co_ok hd).nd h1 fun o ho => by
        have := (co_ok hd).lt o ho
        simp [zs]; omega
    apply h
    rw [hv]
    refine ⟨fun o ho => h2 _ ?_, h3.symm⟩
    rw [← hv]
    exact List.mem_map_of_mem ho
  · exact hs
end Go.Proofs.Con

/-
  The walks: the reference's numbers and lines.
-/
namespace Go.Proofs.Con
open Go Go.RowKit Go.Proofs.E

theorem toB_size (l : List UInt8) : (toB l).size = l.length := by unfold toB; simp [ByteArray.size]
theorem toB_txt (n : Int) : toB (Go.Lib.itoa n) = txt n := rfl
theorem b1_cat {m : Int} (k : Nat) (s : List UInt8) (h : m.toNat = k) : ([m] : List Int).foldl (fun r n => r.push (UInt8.ofNat n.toNat)) ByteArray.empty ++ toB s = toB (UInt8.ofNat k :: s) := by
  apply ByteArray.ext
  simp [toB, h, ByteArray.data_append, ByteArray.push, ByteArray.empty, ByteArray.emptyWithCapacity]
  rfl
theorem toB_cons (c : UInt8) (l : List UInt8) : (⟨#[c]⟩ : ByteArray) ++ toB l = toB (c :: l) := by
  apply ByteArray.ext
  simp [toB]
theorem toB_nil (l : List UInt8) : (⟨#[]⟩ : ByteArray) ++ toB l = toB l := by
  apply ByteArray.ext
  simp [toB]
theorem wrap8 {m : Int} (h0 : 0 ≤ m) (h1 : m ≤ 255) : IntKind.u8.wrap m = m := by
  have e : IntKind.u8.wrap m = m % 256 := by
    simp [IntKind.wrap, IntKind.bits, IntKind.signed]
  omega
theorem rvalid_w (n : Int) (w : World) : Calls Tryz.prog 38 #[.int .i64 n] w fun e w' => e = .returned (.bool (decide (-1125899906842624 ≤ n) && decide (n ≤ 1125899906842624))) ∧ Bel w w' := by
  refine H_enter Tryz.func38 rfl Tryz.ntmps38 rfl ?_
  refine H_seq ?_
  refine R0 ?_
  refine xV (e_as (v := .bool _) (q0 rfl)) rfl rfl ?_
  refine XN ?_
  refine thenJ_normal ?_
  refine H_seq ?_
  refine R0 ?_
  refine xV (e_mv (v := .int _ _) (q0 rfl)) rfl rfl ?_
  refine xV (e_ge (q0 rfl) (q0 rfl)) rfl rfl ?_
  refine xV (e_mv (v := .bool _) (q0 rfl)) rfl rfl ?_
  refine xVT (e_mv (v := .int _ _) (q0 rfl)) rfl rfl rfl rfl ?_
  refine xVT (e_le (q1 rfl) (q0 rfl)) rfl rfl rfl rfl ?_
  refine xV (e_and (q0 rfl) rfl (fun h => by first | rfl | (rw [h]; rfl))) rfl rfl ?_
  refine xV (e_as (v := .bool _) (q0 rfl)) rfl rfl ?_
  refine XN ?_
  refine thenJ_normal ?_
  refine H_ret ?_
  exact ret1 (v := .bool _) rfl rfl rfl fun w' hw => ⟨rfl, hw.1⟩
set_option maxRecDepth 20000 in
theorem rdig_w (n0 : Nat) (h0 : n0 ≤ 1125899906842624) (w : World) : Calls Tryz.prog 39 #[.int .i64 n0, .int .i64 1] w fun e w' => e = .returned (.string (toB (Go.Lib.decDigits n0))) ∧ Bel w w' := by
  have hlen : (Go.Lib.decDigits n0).length ≤ 16 := by rw [Go.Lib.decDigits_length]; exact nd_le 15 n0 (by omega)
  refine H_enter Tryz.func39 rfl Tryz.ntmps39 rfl ?_
  refine H_seq ?_
  refine R0 ?_
  refine xV (e_as (v := .string _) (q0 rfl)) rfl rfl ?_
  refine XN ?_
  refine thenJ_normal ?_
  refine H_seq ?_
  refine R0 ?_
  refine xV (e_as (v := .string _) (q0 rfl)) rfl rfl ?_
  refine XN ?_
  refine thenJ_normal ?_
  refine H_seq ?_
  refine H_block ?_
  refine H_loop [0, 5, 6, 7, 8, 9, 10, 11, 12, 13, 14, 15, 16, 17, 18, 19, 20, 21, 22, 23] (fun s : Nat × List UInt8 => [(0, .int .i64 s.1), (5, .string (toB s.2))]) (fun _ => []) (fun s => s.1 ≤ n0 ∧ dgO s.1 s.2 = Go.Lib.decDigits n0) (fun s => s.1 + (if s.2 = [] then 1 else 0)) (n0, []) ⟨rfl, rfl, trivial⟩ (fun w hw => hw) rfl ⟨Nat.le_refl _, dgO_nil n0⟩ ?_
  rintro ⟨n, s⟩ g ⟨hn, hs⟩
  have hn : n ≤ n0 := hn
  have hs : dgO n s = Go.Lib.decDigits n0 := hs
  have hsl := dgO_len n s
  rw [hs] at hsl
  have hsz := toB_size s
  refine H_seq ?_
  refine H_seq ?_
  refine R0 ?_
  refine xV (e_mv (v := .int _ _) (q0 rfl)) rfl rfl ?_
  refine xV (e_gt (q0 rfl) (q0 rfl)) rfl rfl ?_
  refine xV (e_mv (v := .bool _) (q0 rfl)) rfl rfl ?_
  refine xVF (e_mv (v := .string _) (q0 rfl)) rfl rfl rfl rfl ?_
  refine xVF (e_lenStr Tryz.underlying9 (q1 rfl)) rfl rfl rfl rfl ?_
  refine xVF (e_mv (v := .int _ _) (q0 rfl)) rfl rfl rfl rfl ?_
  refine xVF (e_lt (q1 rfl) (q1 rfl)) rfl rfl rfl rfl ?_
  refine xV (e_or (q0 rfl) rfl (fun h => by first | rfl | (rw [h]; rfl))) rfl rfl ?_
  refine XN ?_
  refine thenJ_normal ?_
  refine H_cond rfl (fun hc => ?_) (fun hc => ?_)
  · have hc' : 0 < n ∨ s = [] := by
      rw [Bool.or_eq_true] at hc
      rcases hc with h | h
      · left; have := of_decide_eq_true h; omega
      · right
        have : ((toB s).size : Int) < 1 := of_decide_eq_true h
        exact List.length_eq_zero_iff.1 (by omega)
    refine H_skip ?_
    refine thenJ_normal ?_
    refine H_block ?_
    refine H_seq ?_
    refine R0 ?_
    refine xV (e_mv (v := .int _ _) (q0 rfl)) rfl rfl ?_
    refine xV (e_rem (q0 rfl) (q0 rfl) (fun _ => by omega)) rfl rfl ?_
    refine xV (e_add (q0 rfl) (q0 rfl) (fun _ => ⟨rfl, by omega, by omega⟩)) rfl rfl ?_
    refine xV (e_cvI (r := 48 + (n : Int) % 10) Tryz.underlying3 Tryz.underlying5 (q0 rfl) (fun _ => wrap8 (by omega) (by omega))) rfl rfl ?_
    refine X_slit [(.int .u8 0)] Tryz.underlying132 Tryz.sizeOf5 Tryz.zeroValue5 rfl (by kernel_rfl) (pt (v := .int _ _) rfl E.p0) rfl rfl fun b18 => ?_
    refine xV (e_b2s (ns := [48 + (n : Int) % 10]) Tryz.underlying132 Tryz.underlying5 Tryz.underlying9 (q0 rfl) (bxs 0 rfl)) rfl rfl ?_
    refine xV (e_mv (v := .string _) (q0 rfl)) rfl rfl ?_
    refine xV (v := .string (toB (UInt8.ofNat (48 + n % 10) :: s))) (by rw [← b1_cat (m := 48 + (n : Int) % 10) (48 + n % 10) s (by omega)]; exact e_cat (q0 rfl) (q0 rfl) (fun _ => by have : (List.foldl (fun r n => r.push (UInt8.ofNat (Int.toNat n))) ByteArray.empty [48 + (n : Int) % 10]).size = 1 := rfl; omega)) rfl rfl ?_
    refine xV (e_as (v := .string _) (q0 rfl)) rfl rfl ?_
    refine XN ?_
    refine thenJ_normal ?_
    refine R0 ?_
    refine xV (e_mv (v := .int _ _) (q0 rfl)) rfl rfl ?_
    refine xV (e_quo (q0 rfl) (q0 rfl) (fun _ => by omega)) rfl rfl ?_
    refine xV (e_as (v := .int _ _) (q0 rfl)) rfl rfl ?_
    refine XN ?_
    refine blockJ_normal ?_
    exact loopJ_normal (n / 10, UInt8.ofNat (48 + n % 10) :: s) (by repeat (first | exact agree_self | exact agree_over | refine agree_upd rfl ?_ | refine agree_updL rfl ?_ | refine agree_over2 rfl ?_)) ⟨rfl, rfl, trivial⟩ (fun w hw => hw.tail) rfl ⟨by show n / 10 ≤ n0; omega, (dgO_step hc').trans hs⟩ (by
      show n / 10 + (if UInt8.ofNat (48 + n % 10) :: s = [] then 1 else 0) < n + (if s = [] then 1 else 0)
      rw [if_neg (by simp)]
      rcases hc' with h | h
      · have : n / 10 < n := Nat.div_lt_self h (by decide)
        omega
      · rw [if_pos h]
        have : n / 10 ≤ n := Nat.div_le_self n 10
        omega)
  · have hc' : n = 0 ∧ s ≠ [] := by
      rw [Bool.or_eq_false_iff] at hc
      have h1 := of_decide_eq_false hc.1
      have h2 := of_decide_eq_false hc.2
      refine ⟨by omega, fun h => h2 ?_⟩
      rw [hsz, h]; decide
    obtain ⟨rfl, hs1⟩ := hc'
    rw [dgO_done hs1] at hs
    subst hs
    refine H_exit ?_
    refine thenJ_exit ?_
    refine loopJ_exit ?_
    refine blockJ_hit ?_
    refine thenJ_normal ?_
    refine H_seq ?_
    refine R0 ?_
    refine xV (e_mv (v := .string _) (q0 rfl)) rfl rfl ?_
    refine xV (e_as (v := .string _) (q0 rfl)) rfl rfl ?_
    refine XN ?_
    refine thenJ_normal ?_
    refine H_ret ?_
    exact ret1 (v := .string _) rfl rfl rfl fun w' hw => ⟨rfl, hw.1⟩
set_option maxRecDepth 20000 in
theorem rfmtOk_w (n : Int) (w : World) (h : okN n = true) : Calls Tryz.prog 26 #[.int .i64 n, .int .i64 0] w fun e w' => e = .returned (.tuple #[.string (txt n), .int .i64 0]) ∧ Bel w w' := by
  obtain ⟨h0, h1⟩ := of_decide_eq_true h
  have hmx : ((n.natAbs : Nat) : Int) = if n < -n then -n else n := by split <;> omega
  have hlen : (Go.Lib.decDigits n.natAbs).length ≤ 16 := by rw [Go.Lib.decDigits_length]; exact nd_le 15 _ (by omega)
  have hsz := toB_size (Go.Lib.decDigits n.natAbs)
  refine H_enter Tryz.func26 rfl Tryz.ntmps26 rfl ?_
  refine H_seq ?_
  refine R0 ?_
  refine xV (e_as (v := .string _) (q0 rfl)) rfl rfl ?_
  refine xV (e_as (v := .int _ _) (q0 rfl)) rfl rfl ?_
  refine XN ?_
  refine thenJ_normal ?_
  refine H_seq ?_
  refine H_seq ?_
  refine R0 ?_
  refine xV (e_mv (v := .int _ _) (q0 rfl)) rfl rfl ?_
  refine xC (en Tryz.call38 (ha1 (q0 rfl))) (fun _ w _ => rvalid_w n w) rfl rfl ?_
  refine xV (e_not (q0 rfl)) rfl rfl ?_
  refine xV (e_mv (v := .bool _) (q0 rfl)) rfl rfl ?_
  refine xVF (e_mv (v := .int _ _) (q0 rfl)) rfl rfl rfl rfl ?_
  refine xVF (e_lt (q1 rfl) (q0 rfl)) rfl rfl rfl rfl ?_
  refine xV (e_or (q0 rfl) rfl (fun h => by first | rfl | (rw [h]; rfl))) rfl rfl ?_
  refine xV (e_mv (v := .bool _) (q0 rfl)) rfl rfl ?_
  refine xVF (e_mv (v := .int _ _) (q0 rfl)) rfl rfl rfl rfl ?_
  refine xVF (e_gt (q1 rfl) (q0 rfl)) rfl rfl rfl rfl ?_
  refine xV (e_or (q0 rfl) rfl (fun h => by first | rfl | (rw [h]; rfl))) rfl rfl ?_
  refine XN ?_
  refine thenJ_normal ?_
  refine H_cond rfl (fun hb => ?_) (fun hb => ?_)
  · exfalso
    simp [h0, h1] at hb
  · refine H_skip ?_
    refine thenJ_normal ?_
    refine H_seq ?_
    refine R0 ?_
    refine xV (e_as (v := .string _) (q0 rfl)) rfl rfl ?_
    refine XN ?_
    refine thenJ_normal ?_
    refine H_seq ?_
    refine H_seq ?_
    refine R0 ?_
    refine xV (e_mv (v := .int _ _) (q0 rfl)) rfl rfl ?_
    refine xV (e_lt (q0 rfl) (q0 rfl)) rfl rfl ?_
    refine XN ?_
    refine thenJ_normal ?_
    refine H_cond rfl (fun hn => ?_) (fun hn => ?_)
    · have hn' : n < 0 := by simpa using hn
      refine R0 ?_
      refine xV (e_as (v := .string _) (q0 rfl)) rfl rfl ?_
      refine XN ?_
      refine thenJ_normal ?_
      refine H_seq ?_
      refine R0 ?_
      refine xV (e_mv (v := .int _ _) (q0 rfl)) rfl rfl ?_
      refine xV (e_mv (v := .int _ _) (q0 rfl)) rfl rfl ?_
      refine xV (e_ng (q0 rfl) (fun _ => ⟨by omega, by omega⟩)) rfl rfl ?_
      refine xV (v := .int .i64 ((n.natAbs : Nat) : Int)) (by rw [hmx]; exact e_max (q0 rfl) (q0 rfl)) rfl rfl ?_
      refine xV (e_mv (v := .int _ _) (q0 rfl)) rfl rfl ?_
      refine xV (e_add (q0 rfl) (q0 rfl) (fun _ => ⟨rfl, by omega, by omega⟩)) rfl rfl ?_
      refine xC (en Tryz.call39 (ha2 (q0 rfl) (q0 rfl))) (fun _ w _ => rdig_w n.natAbs (by omega) w) rfl rfl ?_
      refine xV (e_as (v := .string _) (q0 rfl)) rfl rfl ?_
      refine XN ?_
      refine thenJ_normal ?_
      refine H_seq ?_
      refine H_seq ?_
      refine R0 ?_
      refine xV (e_mv (v := .int _ _) (q0 rfl)) rfl rfl ?_
      refine xV (e_eq (q0 rfl) (q0 rfl)) rfl rfl ?_
      refine XN ?_
      refine thenJ_normal ?_
      refine H_cond rfl (fun hz => ?_) (fun hz => ?_)
      · have _ht : True := trivial
        refine H_seq ?_
        refine R0 ?_
        refine xV (e_mv (v := .string _) (q0 rfl)) rfl rfl ?_
        refine xV (e_mv (v := .string _) (q0 rfl)) rfl rfl ?_
        refine xV (v := .string (txt n)) (by rw [← toB_txt, Go.Lib.itoa, if_pos hn', ← toB_cons]; exact e_cat (q0 rfl) (q0 rfl) (fun _ => by have : (⟨#[45]⟩ : ByteArray).size = 1 := rfl; omega)) rfl rfl ?_
        refine xV (e_as (v := .string _) (q0 rfl)) rfl rfl ?_
        refine xV (e_as (v := .int _ _) (q0 rfl)) rfl rfl ?_
        refine XN ?_
        refine thenJ_normal ?_
        refine H_ret ?_
        refine thenJ_ret ?_
        exact ret2 (v := .string _) (x := .int _ _) rfl rfl rfl rfl fun w' hw => ⟨rfl, hw.1⟩
      · exfalso
        simp at hz
    · have hn' : ¬n < 0 := by simpa using hn
      refine H_skip ?_
      refine thenJ_normal ?_
      refine H_seq ?_
      refine R0 ?_
      refine xV (e_mv (v := .int _ _) (q0 rfl)) rfl rfl ?_
      refine xV (e_mv (v := .int _ _) (q0 rfl)) rfl rfl ?_
      refine xV (e_ng (q0 rfl) (fun _ => ⟨by omega, by omega⟩)) rfl rfl ?_
      refine xV (v := .int .i64 ((n.natAbs : Nat) : Int)) (by rw [hmx]; exact e_max (q0 rfl) (q0 rfl)) rfl rfl ?_
      refine xV (e_mv (v := .int _ _) (q0 rfl)) rfl rfl ?_
      refine xV (e_add (q0 rfl) (q0 rfl) (fun _ => ⟨rfl, by omega, by omega⟩)) rfl rfl ?_
      refine xC (en Tryz.call39 (ha2 (q0 rfl) (q0 rfl))) (fun _ w _ => rdig_w n.natAbs (by omega) w) rfl rfl ?_
      refine xV (e_as (v := .string _) (q0 rfl)) rfl rfl ?_
      refine XN ?_
      refine thenJ_normal ?_
      refine H_seq ?_
      refine H_seq ?_
      refine R0 ?_
      refine xV (e_mv (v := .int _ _) (q0 rfl)) rfl rfl ?_
      refine xV (e_eq (q0 rfl) (q0 rfl)) rfl rfl ?_
      refine XN ?_
      refine thenJ_normal ?_
      refine H_cond rfl (fun hz => ?_) (fun hz => ?_)
      · have _ht : True := trivial
        refine H_seq ?_
        refine R0 ?_
        refine xV (e_mv (v := .string _) (q0 rfl)) rfl rfl ?_
        refine xV (e_mv (v := .string _) (q0 rfl)) rfl rfl ?_
        refine xV (v := .string (txt n)) (by rw [← toB_txt, Go.Lib.itoa, if_neg hn', show n.toNat = n.natAbs by omega, ← toB_nil]; exact e_cat (q0 rfl) (q0 rfl) (fun _ => by have : (⟨#[]⟩ : ByteArray).size = 0 := rfl; omega)) rfl rfl ?_
        refine xV (e_as (v := .string _) (q0 rfl)) rfl rfl ?_
        refine xV (e_as (v := .int _ _) (q0 rfl)) rfl rfl ?_
        refine XN ?_
        refine thenJ_normal ?_
        refine H_ret ?_
        refine thenJ_ret ?_
        exact ret2 (v := .string _) (x := .int _ _) rfl rfl rfl rfl fun w' hw => ⟨rfl, hw.1⟩
      · exfalso
        simp at hz
theorem rfmtBad_w (n : Int) (w : World) (h : okN n = false) : Calls Tryz.prog 26 #[.int .i64 n, .int .i64 0] w fun e w' => e = .returned (.tuple #[.string ⟨#[]⟩, .int .i64 1]) ∧ Bel w w' := by
  have h' := of_decide_eq_false h
  refine H_enter Tryz.func26 rfl Tryz.ntmps26 rfl ?_
  refine H_seq ?_
  refine R0 ?_
  refine xV (e_as (v := .string _) (q0 rfl)) rfl rfl ?_
  refine xV (e_as (v := .int _ _) (q0 rfl)) rfl rfl ?_
  refine XN ?_
  refine thenJ_normal ?_
  refine H_seq ?_
  refine H_seq ?_
  refine R0 ?_
  refine xV (e_mv (v := .int _ _) (q0 rfl)) rfl rfl ?_
  refine xC (en Tryz.call38 (ha1 (q0 rfl))) (fun _ w _ => rvalid_w n w) rfl rfl ?_
  refine xV (e_not (q0 rfl)) rfl rfl ?_
  refine xV (e_mv (v := .bool _) (q0 rfl)) rfl rfl ?_
  refine xVF (e_mv (v := .int _ _) (q0 rfl)) rfl rfl rfl rfl ?_
  refine xVF (e_lt (q1 rfl) (q0 rfl)) rfl rfl rfl rfl ?_
  refine xV (e_or (q0 rfl) rfl (fun h => by first | rfl | (rw [h]; rfl))) rfl rfl ?_
  refine xV (e_mv (v := .bool _) (q0 rfl)) rfl rfl ?_
  refine xVF (e_mv (v := .int _ _) (q0 rfl)) rfl rfl rfl rfl ?_
  refine xVF (e_gt (q1 rfl) (q0 rfl)) rfl rfl rfl rfl ?_
  refine xV (e_or (q0 rfl) rfl (fun h => by first | rfl | (rw [h]; rfl))) rfl rfl ?_
  refine XN ?_
  refine thenJ_normal ?_
  refine H_cond rfl (fun hb => ?_) (fun hb => ?_)
  · refine H_seq ?_
    refine R0 ?_
    refine xV (e_as (v := .string _) (q0 rfl)) rfl rfl ?_
    refine xV (e_as (v := .int _ _) (q0 rfl)) rfl rfl ?_
    refine XN ?_
    refine thenJ_normal ?_
    refine H_ret ?_
    refine thenJ_ret ?_
    exact ret2 (v := .string _) (x := .int _ _) rfl rfl rfl rfl fun w' hw => ⟨rfl, hw.1⟩
  · exfalso
    simp at hb
    exact h' ⟨by omega, by omega⟩
theorem stp_yes {n : Int} {c : UInt8} (h : (decide ((48 : Int) ≤ (c.toNat : Int)) && decide ((c.toNat : Int) ≤ 57)) = true) : stp n c = 10 * n + ((c.toNat : Int) - 48) ∧ 48 ≤ (c.toNat : Int) ∧ (c.toNat : Int) ≤ 57 := by
  rw [Bool.and_eq_true] at h
  have h1 := of_decide_eq_true h.1
  have h2 := of_decide_eq_true h.2
  refine ⟨?_, h1, h2⟩
  unfold stp
  rw [if_pos ⟨by omega, by omega⟩]
theorem stp_not {n : Int} {c : UInt8} (h : (decide ((48 : Int) ≤ (c.toNat : Int)) && decide ((c.toNat : Int) ≤ 57)) = false) : stp n c = n := by
  unfold stp
  rw [if_neg]
  rintro ⟨h1, h2⟩
  rw [Bool.and_eq_false_iff] at h
  rcases h with h | h
  · exact of_decide_eq_false h (by omega)
  · exact of_decide_eq_false h (by omega)
theorem dvl_17 {l : List UInt8} (h : l.length ≤ 17) : 0 ≤ dvl 0 l ∧ dvl 0 l < 100000000000000000 := by
  have h1 := dvl_bd l 0 0 (Int.le_refl _) (by decide)
  have h2 : 10 ^ (0 + l.length) ≤ 10 ^ 17 := Nat.pow_le_pow_right (by decide) (by omega)
  have h3 : (10 ^ 17 : Nat) = 100000000000000000 := by decide
  omega
set_option maxRecDepth 20000 in
set_option maxHeartbeats 1000000 in
theorem rnum_w (s : ByteArray) (w : World) (hs : s.size ≤ 1000) : Calls Tryz.prog 21 #[.string s, .int .i64 0] w fun e w' => e = .returned (.tuple #[.int .i64 (nv s), .int .i64 (if (numL s).isSome then 0 else 3)]) ∧ Bel w w' := by
  have hll : s.data.toList.length = s.size := by rw [Array.length_toList]; rfl
  refine H_enter Tryz.func21 rfl Tryz.ntmps21 rfl ?_
  refine H_seq ?_
  refine R0 ?_
  refine xV (e_as (v := .int _ _) (q0 rfl)) rfl rfl ?_
  refine xV (e_as (v := .int _ _) (q0 rfl)) rfl rfl ?_
  refine XN ?_
  refine thenJ_normal ?_
  refine H_seq ?_
  refine H_seq ?_
  refine R0 ?_
  refine xV (e_mv (v := .int _ _) (q0 rfl)) rfl rfl ?_
  refine xV (e_lt (q0 rfl) (q0 rfl)) rfl rfl ?_
  refine xV (e_mv (v := .bool _) (q0 rfl)) rfl rfl ?_
  refine xVF (e_mv (v := .int _ _) (q0 rfl)) rfl rfl rfl rfl ?_
  refine xVF (e_gt (q1 rfl) (q0 rfl)) rfl rfl rfl rfl ?_
  refine xV (e_or (q0 rfl) rfl (fun h => by first | rfl | (rw [h]; rfl))) rfl rfl ?_
  refine XN ?_
  refine thenJ_normal ?_
  refine H_cond rfl (fun hb => ?_) (fun hb => ?_)
  · exfalso
    simp at hb
  · refine H_skip ?_
    refine thenJ_normal ?_
    refine H_seq ?_
    refine H_seq ?_
    refine R0 ?_
    refine xV (e_mv (v := .string _) (q0 rfl)) rfl rfl ?_
    refine xV (e_lenStr Tryz.underlying9 (q0 rfl)) rfl rfl ?_
    refine xV (e_gt (q0 rfl) (q0 rfl)) rfl rfl ?_
    refine XN ?_
    refine thenJ_normal ?_
    refine H_cond rfl (fun hl => ?_) (fun hl => ?_)
    · have hl' : 18 < s.size := by simp at hl; omega
      have hno : nv s = 0 ∧ (if (numL s).isSome then (0 : Int) else 3) = 3 := by
        unfold nv
        rw [numL_long hl']; exact ⟨rfl, rfl⟩
      rw [hno.1, hno.2]
      refine H_seq ?_
      refine R0 ?_
      refine xV (e_as (v := .int _ _) (q0 rfl)) rfl rfl ?_
      refine xV (e_as (v := .int _ _) (q0 rfl)) rfl rfl ?_
      refine XN ?_
      refine thenJ_normal ?_
      refine H_ret ?_
      refine thenJ_ret ?_
      exact ret2 (v := .int _ _) (x := .int _ _) rfl rfl rfl rfl fun w' hw => ⟨rfl, hw.1⟩
    · have hl' : s.size ≤ 18 := by simp at hl; omega
      generalize hL : s.data.toList = l at hll
      refine H_skip ?_
      refine thenJ_normal ?_
      refine H_seq ?_
      refine R0 ?_
      refine xV (e_as (v := .int _ _) (q0 rfl)) rfl rfl ?_
      refine XN ?_
      refine thenJ_normal ?_
      refine H_seq ?_
      refine H_seq ?_
      refine R0 ?_
      refine xV (e_as (v := .int _ _) (q0 rfl)) rfl rfl ?_
      refine XN ?_
      refine thenJ_normal ?_
      refine H_block ?_
      refine H_loop [6, 7, 19, 20, 21, 22, 23, 24, 25, 26, 27, 28, 29, 30, 31, 32, 33, 34, 35, 36, 37, 38, 39, 40, 41, 42] (fun i : Nat => [(7, .int .i64 i), (6, .int .i64 (dvl 0 (l.take i)))]) (fun _ => []) (fun i => i ≤ l.length) (fun i => l.length - i) 0 ⟨rfl, rfl, trivial⟩ (fun w hw => hw) rfl (Nat.zero_le _) ?_
      rintro i g hi
      refine H_seq ?_
      refine H_seq ?_
      refine R0 ?_
      refine xV (e_mv (v := .int _ _) (q0 rfl)) rfl rfl ?_
      refine xV (e_mv (v := .string _) (q0 rfl)) rfl rfl ?_
      refine xV (e_lenStr Tryz.underlying9 (q0 rfl)) rfl rfl ?_
      refine xV (e_lt (q0 rfl) (q0 rfl)) rfl rfl ?_
      refine XN ?_
      refine thenJ_normal ?_
      refine H_cond rfl (fun hlt => ?_) (fun hlt => ?_)
      · have hlt' : i < l.length := by simp at hlt; omega
        obtain ⟨c, hc⟩ : ∃ c, l[i]? = some c := ⟨_, List.getElem?_eq_getElem hlt'⟩
        have hc2 : s.data.toList[i]? = some c := by rw [hL]; exact hc
        have hd := dvl_snoc hc
        have hbd := dvl_17 (l := l.take i) (by rw [List.length_take]; omega)
        refine H_skip ?_
        refine thenJ_normal ?_
        refine H_seq ?_
        refine H_block ?_
        refine H_seq ?_
        refine R0 ?_
        refine xV (e_mv (v := .string _) (q0 rfl)) rfl rfl ?_
        refine xV (e_mv (v := .int _ _) (q0 rfl)) rfl rfl ?_
        refine xV (e_ixStr i c Tryz.underlying9 (q0 rfl) (q0 rfl) (fun _ => ⟨rfl, hc2⟩)) rfl rfl ?_
        refine xV (e_ge (q0 rfl) (q0 rfl)) rfl rfl ?_
        refine xV (e_mv (v := .bool _) (q0 rfl)) rfl rfl ?_
        refine xVT (e_mv (v := .string _) (q0 rfl)) rfl rfl rfl rfl ?_
        refine xVT (e_mv (v := .int _ _) (q0 rfl)) rfl rfl rfl rfl ?_
        refine xVT (e_ixStr i c Tryz.underlying9 (q1 rfl) (q1 rfl) (fun _ => ⟨rfl, hc2⟩)) rfl rfl rfl rfl ?_
        refine xVT (e_le (q1 rfl) (q0 rfl)) rfl rfl rfl rfl ?_
        refine xV (e_and (q0 rfl) rfl (fun h => by first | rfl | (rw [h]; rfl))) rfl rfl ?_
        refine XN ?_
        refine thenJ_normal ?_
        refine H_cond rfl (fun hdg => ?_) (fun hdg => ?_)
        · obtain ⟨h1, h2, h3⟩ := stp_yes (n := dvl 0 (l.take i)) hdg
          refine R0 ?_
          refine xV (e_mv (v := .int _ _) (q0 rfl)) rfl rfl ?_
          refine xV (e_mul (q0 rfl) (q0 rfl) (fun _ => ⟨rfl, by omega, by omega⟩)) rfl rfl ?_
          refine xV (e_mv (v := .string _) (q0 rfl)) rfl rfl ?_
          refine xV (e_mv (v := .int _ _) (q0 rfl)) rfl rfl ?_
          refine xV (e_ixStr i c Tryz.underlying9 (q0 rfl) (q0 rfl) (fun _ => ⟨rfl, hc2⟩)) rfl rfl ?_
          refine xV (e_sub8 (r := (c.toNat : Int) - 48) (q0 rfl) (q0 rfl) (fun _ => wrap8 (by omega) (by omega))) rfl rfl ?_
          refine xV (e_cvI (r := (c.toNat : Int) - 48) Tryz.underlying5 Tryz.underlying3 (q0 rfl) (fun _ => IntWalk.i64_in _ ⟨by omega, by omega⟩)) rfl rfl ?_
          refine xV (e_add (q0 rfl) (q0 rfl) (fun _ => ⟨rfl, by omega, by omega⟩)) rfl rfl ?_
          refine xV (e_as (v := .int _ _) (q0 rfl)) rfl rfl ?_
          refine XN ?_
          refine blockJ_normal ?_
          refine thenJ_normal ?_
          refine R0 ?_
          refine xV (e_mv (v := .int _ _) (q0 rfl)) rfl rfl ?_
          refine xV (e_add (q0 rfl) (q0 rfl) (fun _ => ⟨rfl, by omega, by omega⟩)) rfl rfl ?_
          refine xV (e_as (v := .int _ _) (q0 rfl)) rfl rfl ?_
          refine XN ?_
          exact loopJ_normal (i + 1) (by repeat (first | exact agree_self | exact agree_over | refine agree_upd rfl ?_ | refine agree_updL rfl ?_ | refine agree_over2 rfl ?_)) ⟨rfl, by rw [hd, h1]; rfl, trivial⟩ (fun w hw => hw) rfl (by omega) (by show l.length - (i + 1) < l.length - i; omega)
        · have h1 := stp_not (n := dvl 0 (l.take i)) hdg
          refine H_skip ?_
          refine blockJ_normal ?_
          refine thenJ_normal ?_
          refine R0 ?_
          refine xV (e_mv (v := .int _ _) (q0 rfl)) rfl rfl ?_
          refine xV (e_add (q0 rfl) (q0 rfl) (fun _ => ⟨rfl, by omega, by omega⟩)) rfl rfl ?_
          refine xV (e_as (v := .int _ _) (q0 rfl)) rfl rfl ?_
          refine XN ?_
          exact loopJ_normal (i + 1) (by repeat (first | exact agree_self | exact agree_over | refine agree_upd rfl ?_ | refine agree_updL rfl ?_ | refine agree_over2 rfl ?_)) ⟨rfl, by rw [hd, h1]; rfl, trivial⟩ (fun w hw => hw) rfl (by omega) (by show l.length - (i + 1) < l.length - i; omega)
      · have hie : i = l.length := by simp at hlt; omega
        subst hie
        rw [List.take_length]
        have hbd := dvl_small (l := l) (by omega)
        have h0c : decide ((0 : Int) < (s.size : Int)) = true → s.data.toList[0]? = some (l.headD 0) := fun h => by
          have := of_decide_eq_true h
          rw [hL]
          cases l with
          | nil => simp at hll; omega
          | cons x r => rfl
        refine H_exit ?_
        refine thenJ_exit ?_
        refine loopJ_exit ?_
        refine blockJ_hit ?_
        refine thenJ_normal ?_
        refine H_seq ?_
        refine H_seq ?_
        refine R0 ?_
        refine xV (e_mv (v := .string _) (q0 rfl)) rfl rfl ?_
        refine xV (e_lenStr Tryz.underlying9 (q0 rfl)) rfl rfl ?_
        refine xV (e_gt (q0 rfl) (q0 rfl)) rfl rfl ?_
        refine xV (e_mv (v := .bool _) (q0 rfl)) rfl rfl ?_
        refine xVT (e_mv (v := .string _) (q0 rfl)) rfl rfl rfl rfl ?_
        refine xVT (e_ixStr 0 (l.headD 0) Tryz.underlying9 (q1 rfl) (q0 rfl) (fun h => ⟨rfl, h0c h⟩)) rfl rfl rfl rfl ?_
        refine xVT (e_eq (q1 rfl) (q0 rfl)) rfl rfl rfl rfl ?_
        refine xV (e_and (q0 rfl) rfl (fun h => by first | rfl | (rw [h]; rfl))) rfl rfl ?_
        refine XN ?_
        refine thenJ_normal ?_
        have hng : (decide ((0 : Int) < (s.size : Int)) && decide (((l.headD 0).toNat : Int) = 45)) = decide (l.head? = some 45) := by
          cases l with
          | nil => simp at hll; simp [← hll]
          | cons x r =>
            simp only [List.length_cons] at hll
            rw [Bool.eq_iff_iff]
            simp only [List.headD_cons, List.head?_cons, Bool.and_eq_true, decide_eq_true_eq, Option.some.injEq]
            refine ⟨fun h => ?_, fun h => ⟨by omega, by rw [h]; rfl⟩⟩
            have e : x.toNat = (45 : UInt8).toNat := Int.ofNat_inj.1 (of_decide_eq_true h.2)
            exact UInt8.toNat_inj.1 e
        refine H_cut [6, 51, 52] (fun v : Int => [(6, .int .i64 v)]) (fun _ => []) (fun v => v = rvL l) ?_ ?_
        · refine H_cond rfl (fun hneg => ?_) (fun hneg => ?_)
          · have hr : rvL l = -dvl 0 l := by
              have h : (decide ((0 : Int) < (s.size : Int)) && decide (((l.headD 0).toNat : Int) = 45)) = true := hneg
              rw [hng] at h
              unfold rvL
              rw [if_pos (of_decide_eq_true h)]
            refine R0 ?_
            refine xV (e_mv (v := .int _ _) (q0 rfl)) rfl rfl ?_
            refine xV (e_ng (q0 rfl) (fun _ => ⟨by omega, by omega⟩)) rfl rfl ?_
            refine xV (e_as (v := .int _ _) (q0 rfl)) rfl rfl ?_
            refine XN ?_
            exact cutJ_normal (-dvl 0 l) (by repeat (first | exact agree_self | exact agree_over | refine agree_upd rfl ?_ | refine agree_updL rfl ?_ | refine agree_over2 rfl ?_)) ⟨rfl, trivial⟩ (fun w hw => hw) rfl hr.symm
          · have hr : rvL l = dvl 0 l := by
              have h : (decide ((0 : Int) < (s.size : Int)) && decide (((l.headD 0).toNat : Int) = 45)) = false := hneg
              rw [hng] at h
              unfold rvL
              rw [if_neg (of_decide_eq_false h)]
            refine H_skip ?_
            exact cutJ_normal (dvl 0 l) (by repeat (first | exact agree_self | exact agree_over | refine agree_upd rfl ?_ | refine agree_updL rfl ?_ | refine agree_over2 rfl ?_)) ⟨rfl, trivial⟩ (fun w hw => hw) rfl hr.symm
        · intro v g2 hv
          have hv : v = rvL s.data.toList := by rw [hL]; exact hv
          refine thenJ_normal ?_
          refine H_seq ?_
          refine H_seq ?_
          by_cases hok : okN v = true
          · have _ht : True := trivial
            refine R0 ?_
            refine xV (e_mv (v := .int _ _) (q0 rfl)) rfl rfl ?_
            refine xV (e_mv (v := .int _ _) (q0 rfl)) rfl rfl ?_
            refine xC (en Tryz.call26 (ha2 (q0 rfl) (q0 rfl))) (fun _ w _ => rfmtOk_w v w hok) rfl rfl ?_
            refine xV (e_mv (q0 rfl)) rfl rfl ?_
            refine xV (e_ext (q0 rfl) rfl) rfl rfl ?_
            refine xV (e_ext (q0 rfl) rfl) rfl rfl ?_
            refine xV (e_as (v := .string _) (q0 rfl)) rfl rfl ?_
            refine xV (e_as (v := .int _ _) (q0 rfl)) rfl rfl ?_
            refine XN ?_
            refine thenJ_normal ?_
            refine H_seq ?_
            refine R0 ?_
            refine xV (e_mv (v := .int _ _) (q0 rfl)) rfl rfl ?_
            refine xV (e_ne (q0 rfl) (q0 rfl)) rfl rfl ?_
            refine xV (e_mv (v := .bool _) (q0 rfl)) rfl rfl ?_
            refine xVF (e_mv (v := .string _) (q0 rfl)) rfl rfl rfl rfl ?_
            refine xVF (e_mv (v := .string _) (q0 rfl)) rfl rfl rfl rfl ?_
            refine xVF (e_neStr (q1 rfl) (q1 rfl)) rfl rfl rfl rfl ?_
            refine xV (e_or (q0 rfl) rfl (fun h => by first | rfl | (rw [h]; rfl))) rfl rfl ?_
            refine XN ?_
            refine thenJ_normal ?_
            refine H_cond rfl (fun hq => ?_) (fun hq => ?_)
            · have h : (false || !((txt v).toList == s.toList)) = true := hq
              rw [str_eq, txt_data] at h
              have hno : numL s = none := numL_no fun hh => by
                rw [← hv] at hh
                simp [hh.2] at h
              have hno : nv s = 0 ∧ (if (numL s).isSome then (0 : Int) else 3) = 3 := by
                unfold nv
                rw [hno]; exact ⟨rfl, rfl⟩
              rw [hno.1, hno.2]
              refine H_seq ?_
              refine R0 ?_
              refine xV (e_as (v := .int _ _) (q0 rfl)) rfl rfl ?_
              refine xV (e_as (v := .int _ _) (q0 rfl)) rfl rfl ?_
              refine XN ?_
              refine thenJ_normal ?_
              refine H_ret ?_
              refine thenJ_ret ?_
              exact ret2 (v := .int _ _) (x := .int _ _) rfl rfl rfl rfl fun w' hw => ⟨rfl, hw.1⟩
            · have h : (false || !((txt v).toList == s.toList)) = false := hq
              rw [str_eq, txt_data] at h
              have hye : numL s = some v := by
                rw [hv] at hok h ⊢
                exact numL_yes hok (by simpa using h)
              have hye : nv s = v ∧ (if (numL s).isSome then (0 : Int) else 3) = 0 := by
                unfold nv
                rw [hye]; exact ⟨rfl, rfl⟩
              rw [hye.1, hye.2]
              refine H_skip ?_
              refine thenJ_normal ?_
              refine H_seq ?_
              refine R0 ?_
              refine xV (e_mv (v := .int _ _) (q0 rfl)) rfl rfl ?_
              refine xV (e_as (v := .int _ _) (q0 rfl)) rfl rfl ?_
              refine xV (e_as (v := .int _ _) (q0 rfl)) rfl rfl ?_
              refine XN ?_
              refine thenJ_normal ?_
              refine H_ret ?_
              exact ret2 (v := .int _ _) (x := .int _ _) rfl rfl rfl rfl fun w' hw => ⟨rfl, hw.1⟩
          · have _ht : True := trivial
            have hok' : okN v = false := by simpa using hok
            refine R0 ?_
            refine xV (e_mv (v := .int _ _) (q0 rfl)) rfl rfl ?_
            refine xV (e_mv (v := .int _ _) (q0 rfl)) rfl rfl ?_
            refine xC (en Tryz.call26 (ha2 (q0 rfl) (q0 rfl))) (fun _ w _ => rfmtBad_w v w hok') rfl rfl ?_
            refine xV (e_mv (q0 rfl)) rfl rfl ?_
            refine xV (e_ext (q0 rfl) rfl) rfl rfl ?_
            refine xV (e_ext (q0 rfl) rfl) rfl rfl ?_
            refine xV (e_as (v := .string _) (q0 rfl)) rfl rfl ?_
            refine xV (e_as (v := .int _ _) (q0 rfl)) rfl rfl ?_
            refine XN ?_
            refine thenJ_normal ?_
            refine H_seq ?_
            refine R0 ?_
            refine xV (e_mv (v := .int _ _) (q0 rfl)) rfl rfl ?_
            refine xV (e_ne (q0 rfl) (q0 rfl)) rfl rfl ?_
            refine xV (e_mv (v := .bool _) (q0 rfl)) rfl rfl ?_
            refine xVF (e_mv (v := .string _) (q0 rfl)) rfl rfl rfl rfl ?_
            refine xVF (e_mv (v := .string _) (q0 rfl)) rfl rfl rfl rfl ?_
            refine xVF (e_neStr (q1 rfl) (q1 rfl)) rfl rfl rfl rfl ?_
            refine xV (e_or (q0 rfl) rfl (fun h => by first | rfl | (rw [h]; rfl))) rfl rfl ?_
            refine XN ?_
            refine thenJ_normal ?_
            refine H_cond rfl (fun hq => ?_) (fun hq => ?_)
            · have hno : numL s = none := numL_no fun hh => by
                rw [← hv] at hh
                exact hok hh.1
              have hno : nv s = 0 ∧ (if (numL s).isSome then (0 : Int) else 3) = 3 := by
                unfold nv
                rw [hno]; exact ⟨rfl, rfl⟩
              rw [hno.1, hno.2]
              refine H_seq ?_
              refine R0 ?_
              refine xV (e_as (v := .int _ _) (q0 rfl)) rfl rfl ?_
              refine xV (e_as (v := .int _ _) (q0 rfl)) rfl rfl ?_
              refine XN ?_
              refine thenJ_normal ?_
              refine H_ret ?_
              refine thenJ_ret ?_
              exact ret2 (v := .int _ _) (x := .int _ _) rfl rfl rfl rfl fun w' hw => ⟨rfl, hw.1⟩
            · exfalso
              simp at hq
end Go.Proofs.Con

/-
  The walks: the reference's lines split, its commands and acts.
-/
namespace Go.Proofs.Con
open Go Go.RowKit Go.Proofs.E

theorem ext_data (s : ByteArray) (fr i : Nat) : (s.extract fr i).data.toList = (s.data.toList.drop fr).take (i - fr) := by
  rw [cut_data]; simp [toB]
theorem words_of {s : ByteArray} {ws : List ByteArray} (h : spl s.data.toList = ws.map fun x => x.data.toList) : wordsL s = ws := by
  rw [words_spl, h, List.map_map]
  conv => rhs; rw [← List.map_id ws]
  exact List.map_congr_left fun x _ => toB_data x
theorem words_app (ws : List ByteArray) (s : ByteArray) (fr i : Nat) : (ws ++ [s.extract fr i]).map (fun x => x.data.toList) = ws.map (fun x => x.data.toList) ++ [(s.data.toList.drop fr).take (i - fr)] := by
  rw [List.map_append, List.map_singleton, ext_data]
set_option maxRecDepth 20000 in
set_option maxHeartbeats 1000000 in
theorem rsplit_w (s : ByteArray) (w : World) (hs : s.size ≤ 1000) : Calls Tryz.prog 19 #[.string s] w fun e w' => ∃ x : Option Addr × Nat, e = .returned (.slice x.1 (wordsL s).length x.2) ∧ Mem w [rowT 9 1 strC x.1 x.2 (wordsL s)] w' := by
  have hll : s.data.toList.length = s.size := by rw [Array.length_toList]; rfl
  refine H_enter Tryz.func19 rfl Tryz.ntmps19 rfl ?_
  refine H_seq ?_
  refine R0 ?_
  refine xV (e_as (v := .slice _ _ _) (q0 rfl)) rfl rfl ?_
  refine XN ?_
  refine thenJ_normal ?_
  refine H_seq ?_
  refine R0 ?_
  refine X_eff (f_slit0 strC Tryz.underlying39 Tryz.sizeOf9 rfl fun A0 c0 => ?_)
  refine xV (e_as (v := .slice _ _ _) (q0 rfl)) rfl rfl ?_
  refine XN ?_
  refine thenJ_normal ?_
  refine H_seq ?_
  refine R0 ?_
  refine xV (e_as (v := .int _ _) (q0 rfl)) rfl rfl ?_
  refine XN ?_
  refine thenJ_normal ?_
  refine H_seq ?_
  refine H_seq ?_
  refine R0 ?_
  refine xV (e_as (v := .int _ _) (q0 rfl)) rfl rfl ?_
  refine XN ?_
  refine thenJ_normal ?_
  refine H_block ?_
  refine H_loop [3, 4, 5, 7, 8, 9, 10, 11, 12, 13, 14, 15, 16, 17, 18, 19, 20, 21, 22, 23, 24, 25, 26, 27, 28, 29, 30, 31] (fun s : Nat × Nat × List ByteArray × Option Addr × Nat => [(5, .int .i64 s.1), (4, .int .i64 s.2.1), (3, .slice s.2.2.2.1 s.2.2.1.length s.2.2.2.2)]) (fun s => [rowT 9 1 strC s.2.2.2.1 s.2.2.2.2 s.2.2.1]) (fun t => SpI s.data.toList t.1 t.2.1 (t.2.2.1.map fun x => x.data.toList)) (fun t => s.size + 1 - t.1) (0, 0, [], A0, c0) ⟨rfl, rfl, rfl, trivial⟩ (fun w hw => hw) rfl (SpI.start _) ?_
  rintro ⟨i, fr, ws, A, cp⟩ g hsp
  have hsp : SpI s.data.toList i fr (ws.map fun x => x.data.toList) := hsp
  have htop := hsp.top
  have hlen := hsp.len
  rw [List.length_map] at hlen
  rw [hll] at htop
  refine H_seq ?_
  refine H_seq ?_
  refine R0 ?_
  refine xV (e_mv (v := .int _ _) (q0 rfl)) rfl rfl ?_
  refine xV (e_mv (v := .string _) (q0 rfl)) rfl rfl ?_
  refine xV (e_lenStr Tryz.underlying9 (q0 rfl)) rfl rfl ?_
  refine xV (e_le (q0 rfl) (q0 rfl)) rfl rfl ?_
  refine XN ?_
  refine thenJ_normal ?_
  refine H_cond rfl (fun hlt => ?_) (fun hlt => ?_)
  · have hlt' : i ≤ s.size := by simp at hlt; omega
    have hfr := (hsp.le (by omega)).1
    have hc : i < s.size → s.data.toList[i]? = some (s.data.toList.getD i 0) := fun h => by
      rw [List.getD_eq_getElem?_getD, List.getElem?_eq_getElem (by omega)]; rfl
    refine H_skip ?_
    refine thenJ_normal ?_
    refine H_seq ?_
    refine H_block ?_
    refine H_seq ?_
    refine R0 ?_
    refine xV (e_mv (v := .int _ _) (q0 rfl)) rfl rfl ?_
    refine xV (e_mv (v := .string _) (q0 rfl)) rfl rfl ?_
    refine xV (e_lenStr Tryz.underlying9 (q0 rfl)) rfl rfl ?_
    refine xV (e_eq (q0 rfl) (q0 rfl)) rfl rfl ?_
    refine xV (e_mv (v := .bool _) (q0 rfl)) rfl rfl ?_
    refine xVF (e_mv (v := .string _) (q0 rfl)) rfl rfl rfl rfl ?_
    refine xVF (e_mv (v := .int _ _) (q0 rfl)) rfl rfl rfl rfl ?_
    refine xVF (e_ixStr i (s.data.toList.getD i 0) Tryz.underlying9 (q1 rfl) (q1 rfl) (fun h => ⟨rfl, hc (by simp at h; omega)⟩)) rfl rfl rfl rfl ?_
    refine xVF (e_eq (q1 rfl) (q0 rfl)) rfl rfl rfl rfl ?_
    refine xV (e_or (q0 rfl) rfl (fun h => by first | rfl | (rw [h]; rfl))) rfl rfl ?_
    refine XN ?_
    refine thenJ_normal ?_
    refine H_cond rfl (fun hb => ?_) (fun hb => ?_)
    · have hb : (decide ((i : Int) = (s.size : Int)) || decide (((s.data.toList.getD i 0).toNat : Int) = 32)) = true := hb
      have hsp2 : SpI s.data.toList (i + 1) (i + 1) ((ws ++ [s.extract fr i]).map fun x => x.data.toList) := by
        rw [words_app]
        by_cases he : i = s.size
        · rw [← hll] at he
          subst he
          exact hsp.last
        · rw [Bool.or_eq_true] at hb
          rcases hb with h | h
          · exact absurd (of_decide_eq_true h) (by omega)
          · have h := of_decide_eq_true h
            have e : s.data.toList.getD i 0 = 32 := by
              have e1 : (32 : UInt8).toNat = 32 := rfl
              exact UInt8.toNat_inj.1 (by omega)
            exact hsp.blank (by rw [hc (by omega), e])
      refine H_seq ?_
      refine R0 ?_
      refine xV (e_mv (v := .slice _ _ _) (q0 rfl)) rfl rfl ?_
      refine xV (e_mv (v := .string _) (q0 rfl)) rfl rfl ?_
      refine xV (e_mv (v := .int _ _) (q0 rfl)) rfl rfl ?_
      refine xV (e_mv (v := .int _ _) (q0 rfl)) rfl rfl ?_
      refine xV (e_slStr fr i Tryz.underlying9 (q0 rfl) (q0 rfl) (q0 rfl) (fun _ => ⟨rfl, rfl, hfr, by omega⟩)) rfl rfl ?_
      refine X_push (k := 1) (i := Tryz.t9) 0 ((s.extract fr i)) Tryz.underlying39 (by kernel_rfl) rfl rfl rfl rfl Tryz.sizeOf9 Tryz.zeroValue9 rfl rfl rfl rfl rfl rfl ⟨by show ws.length + 1 ≤ 1000000; omega, by decide⟩ rfl rfl fun B A1 c1 => ?_
      refine xV (e_as (v := .slice _ _ _) (q0 rfl)) rfl rfl ?_
      refine XN ?_
      refine thenJ_normal ?_
      refine R0 ?_
      refine xV (e_mv (v := .int _ _) (q0 rfl)) rfl rfl ?_
      refine xV (e_add (q0 rfl) (q0 rfl) (fun _ => ⟨rfl, by omega, by omega⟩)) rfl rfl ?_
      refine xV (e_as (v := .int _ _) (q0 rfl)) rfl rfl ?_
      refine XN ?_
      refine blockJ_normal ?_
      refine thenJ_normal ?_
      refine R0 ?_
      refine xV (e_mv (v := .int _ _) (q0 rfl)) rfl rfl ?_
      refine xV (e_add (q0 rfl) (q0 rfl) (fun _ => ⟨rfl, by omega, by omega⟩)) rfl rfl ?_
      refine xV (e_as (v := .int _ _) (q0 rfl)) rfl rfl ?_
      refine XN ?_
      exact loopJ_normal (i + 1, i + 1, ws ++ [s.extract fr i], A1, c1) (by repeat (first | exact agree_self | exact agree_over | refine agree_upd rfl ?_ | refine agree_updL rfl ?_ | refine agree_over2 rfl ?_)) ⟨rfl, rfl, rfl, trivial⟩ (fun w hw => hw) rfl hsp2 (by show s.size + 1 - (i + 1) < s.size + 1 - i; omega)
    · have hb : (decide ((i : Int) = (s.size : Int)) || decide (((s.data.toList.getD i 0).toNat : Int) = 32)) = false := hb
      rw [Bool.or_eq_false_iff] at hb
      have h1 := of_decide_eq_false hb.1
      have h2 := of_decide_eq_false hb.2
      have hsp2 := hsp.skip (hc (by omega)) (fun e => h2 (by rw [e]; rfl))
      refine H_skip ?_
      refine blockJ_normal ?_
      refine thenJ_normal ?_
      refine R0 ?_
      refine xV (e_mv (v := .int _ _) (q0 rfl)) rfl rfl ?_
      refine xV (e_add (q0 rfl) (q0 rfl) (fun _ => ⟨rfl, by omega, by omega⟩)) rfl rfl ?_
      refine xV (e_as (v := .int _ _) (q0 rfl)) rfl rfl ?_
      refine XN ?_
      exact loopJ_normal (i + 1, fr, ws, A, cp) (by repeat (first | exact agree_self | exact agree_over | refine agree_upd rfl ?_ | refine agree_updL rfl ?_ | refine agree_over2 rfl ?_)) ⟨rfl, rfl, rfl, trivial⟩ (fun w hw => hw) rfl hsp2 (by show s.size + 1 - (i + 1) < s.size + 1 - i; omega)
  · have hie : s.size < i := by simp at hlt; omega
    have hws := words_of (hsp.fin (by omega))
    rw [hws]
    refine H_exit ?_
    refine thenJ_exit ?_
    refine loopJ_exit ?_
    refine blockJ_hit ?_
    refine thenJ_normal ?_
    refine H_seq ?_
    refine R0 ?_
    refine xV (e_mv (v := .slice _ _ _) (q0 rfl)) rfl rfl ?_
    refine xV (e_as (v := .slice _ _ _) (q0 rfl)) rfl rfl ?_
    refine XN ?_
    refine thenJ_normal ?_
    refine H_ret ?_
    exact ret1 (v := .slice _ _ _) rfl rfl rfl fun w' hw => ⟨(A, cp), rfl, hw⟩
theorem arO_of {s : ByteArray} {k : Nat} {c : Co} (hk : cos[k]? = some c) (h : s.data.toList = c.word) : arO s = c.offs.length := by
  have hc := List.mem_of_getElem? hk
  unfold arO
  cases hg : cos.find? (fun c => decide (c.word = s.data.toList)) with
  | none => exact absurd (decide_eq_true h.symm) (List.find?_eq_none.1 hg c hc)
  | some d =>
    have hd : d.word = s.data.toList := of_decide_eq_true (List.find?_some (p := fun c : Co => decide (c.word = s.data.toList)) hg)
    rw [co_word (List.mem_of_find?_eq_some hg) hc (hd.trans h)]
theorem arO_no {s : ByteArray} (h : ∀ c ∈ cos, s.data.toList ≠ c.word) : arO s = -1 := by
  unfold arO
  rw [List.find?_eq_none.2 fun c hc => by simpa using fun e => h c hc e.symm]
theorem eqw {s : ByteArray} {l : List UInt8} (h : (s.toList == (⟨l.toArray⟩ : ByteArray).toList) = true) : s.data.toList = l := by
  rw [str_eq] at h
  simpa using h
theorem new {s : ByteArray} {l : List UInt8} (h : (s.toList == (⟨l.toArray⟩ : ByteArray).toList) = false) : s.data.toList ≠ l := by
  rw [str_eq] at h
  simpa using h
theorem rarity_w (s : ByteArray) (w : World) : Calls Tryz.prog 20 #[.string s] w fun e w' => e = .returned (.int .i64 (arO s)) ∧ Bel w w' := by
  refine H_enter Tryz.func20 rfl Tryz.ntmps20 rfl ?_
  refine H_seq ?_
  refine R0 ?_
  refine xV (e_as (v := .int _ _) (q0 rfl)) rfl rfl ?_
  refine XN ?_
  refine thenJ_normal ?_
  refine H_seq ?_
  refine H_seq ?_
  refine R0 ?_
  refine xV (e_mv (v := .string _) (q0 rfl)) rfl rfl ?_
  refine XN ?_
  refine thenJ_normal ?_
  refine H_block ?_
  refine H_seq ?_
  refine R0 ?_
  refine xV (e_eqStr (q0 rfl) (q0 rfl)) rfl rfl ?_
  refine xV (e_as (v := .bool _) (q0 rfl)) rfl rfl ?_
  refine XN ?_
  refine thenJ_normal ?_
  refine H_cond rfl (fun h0 => ?_) (fun h0 => ?_)
  · have _ht : True := trivial
    have ha : arO s = 9 := arO_of (k := 0) rfl (eqw (l := [101, 118, 101, 110, 116]) h0)
    rw [ha]
    refine H_seq ?_
    refine R0 ?_
    refine xV (e_as (v := .int _ _) (q0 rfl)) rfl rfl ?_
    refine XN ?_
    refine thenJ_normal ?_
    refine H_ret ?_
    refine blockJ_ret ?_
    refine thenJ_ret ?_
    exact ret1 (v := .int _ _) rfl rfl rfl fun w' hw => ⟨rfl, hw.1⟩
  · have _ht : True := trivial
    refine H_seq ?_
    refine H_seq ?_
    refine R0 ?_
    refine xV (e_eqStr (q0 rfl) (q0 rfl)) rfl rfl ?_
    refine xV (e_as (v := .bool _) (q0 rfl)) rfl rfl ?_
    refine XN ?_
    refine thenJ_normal ?_
    refine H_cond rfl (fun h1 => ?_) (fun h1 => ?_)
    · have _ht : True := trivial
      refine H_skip ?_
      refine thenJ_normal ?_
      refine H_cond rfl (fun h1b => ?_) (fun h1b => ?_)
      · have _ht : True := trivial
        have ha : arO s = 4 := arO_of (k := 1) rfl (eqw (l := [118, 101, 114, 100, 105, 99, 116]) h1)
        rw [ha]
        refine H_seq ?_
        refine R0 ?_
        refine xV (e_as (v := .int _ _) (q0 rfl)) rfl rfl ?_
        refine XN ?_
        refine thenJ_normal ?_
        refine H_ret ?_
        refine blockJ_ret ?_
        refine thenJ_ret ?_
        exact ret1 (v := .int _ _) rfl rfl rfl fun w' hw => ⟨rfl, hw.1⟩
      · exact absurd (h1.symm.trans h1b) (by decide)
    · have _ht : True := trivial
      refine R0 ?_
      refine xV (e_eqStr (q0 rfl) (q0 rfl)) rfl rfl ?_
      refine xV (e_as (v := .bool _) (q0 rfl)) rfl rfl ?_
      refine XN ?_
      refine thenJ_normal ?_
      refine H_cond rfl (fun h2 => ?_) (fun h2 => ?_)
      · have _ht : True := trivial
        have ha : arO s = 4 := arO_of (k := 2) rfl (eqw (l := [114, 101, 102, 117, 110, 100]) h2)
        rw [ha]
        refine H_seq ?_
        refine R0 ?_
        refine xV (e_as (v := .int _ _) (q0 rfl)) rfl rfl ?_
        refine XN ?_
        refine thenJ_normal ?_
        refine H_ret ?_
        refine blockJ_ret ?_
        refine thenJ_ret ?_
        exact ret1 (v := .int _ _) rfl rfl rfl fun w' hw => ⟨rfl, hw.1⟩
      · have _ht : True := trivial
        refine H_seq ?_
        refine H_seq ?_
        refine R0 ?_
        refine xV (e_eqStr (q0 rfl) (q0 rfl)) rfl rfl ?_
        refine xV (e_as (v := .bool _) (q0 rfl)) rfl rfl ?_
        refine XN ?_
        refine thenJ_normal ?_
        refine H_cond rfl (fun h3 => ?_) (fun h3 => ?_)
        · have _ht : True := trivial
          refine H_skip ?_
          refine thenJ_normal ?_
          refine H_cond rfl (fun h3b => ?_) (fun h3b => ?_)
          · have _ht : True := trivial
            have ha : arO s = 0 := arO_of (k := 3) rfl (eqw (l := [99, 104, 97, 114, 103, 101]) h3)
            rw [ha]
            refine H_seq ?_
            refine R0 ?_
            refine xV (e_as (v := .int _ _) (q0 rfl)) rfl rfl ?_
            refine XN ?_
            refine thenJ_normal ?_
            refine H_ret ?_
            refine blockJ_ret ?_
            refine thenJ_ret ?_
            exact ret1 (v := .int _ _) rfl rfl rfl fun w' hw => ⟨rfl, hw.1⟩
          · exact absurd (h3.symm.trans h3b) (by decide)
        · have _ht : True := trivial
          refine R0 ?_
          refine xV (e_eqStr (q0 rfl) (q0 rfl)) rfl rfl ?_
          refine xV (e_as (v := .bool _) (q0 rfl)) rfl rfl ?_
          refine XN ?_
          refine thenJ_normal ?_
          refine H_cond rfl (fun h4 => ?_) (fun h4 => ?_)
          · have _ht : True := trivial
            have ha : arO s = 0 := arO_of (k := 5) rfl (eqw (l := [112, 108, 97, 110]) h4)
            rw [ha]
            refine H_seq ?_
            refine R0 ?_
            refine xV (e_as (v := .int _ _) (q0 rfl)) rfl rfl ?_
            refine XN ?_
            refine thenJ_normal ?_
            refine H_ret ?_
            refine blockJ_ret ?_
            refine thenJ_ret ?_
            exact ret1 (v := .int _ _) rfl rfl rfl fun w' hw => ⟨rfl, hw.1⟩
          · have _ht : True := trivial
            refine H_seq ?_
            refine R0 ?_
            refine xV (e_eqStr (q0 rfl) (q0 rfl)) rfl rfl ?_
            refine xV (e_as (v := .bool _) (q0 rfl)) rfl rfl ?_
            refine XN ?_
            refine thenJ_normal ?_
            refine H_cond rfl (fun h5 => ?_) (fun h5 => ?_)
            · have _ht : True := trivial
              have ha : arO s = 2 := arO_of (k := 4) rfl (eqw (l := [112, 117, 98, 108, 105, 115, 104]) h5)
              rw [ha]
              refine H_seq ?_
              refine R0 ?_
              refine xV (e_as (v := .int _ _) (q0 rfl)) rfl rfl ?_
              refine XN ?_
              refine thenJ_normal ?_
              refine H_ret ?_
              refine blockJ_ret ?_
              refine thenJ_ret ?_
              exact ret1 (v := .int _ _) rfl rfl rfl fun w' hw => ⟨rfl, hw.1⟩
            · have ha : arO s = -1 := arO_no fun c hc => by
                have e0 := new (l := [101, 118, 101, 110, 116]) h0
                have e1 := new (l := [118, 101, 114, 100, 105, 99, 116]) h1
                have e2 := new (l := [114, 101, 102, 117, 110, 100]) h2
                have e3 := new (l := [99, 104, 97, 114, 103, 101]) h3
                have e4 := new (l := [112, 108, 97, 110]) h4
                have e5 := new (l := [112, 117, 98, 108, 105, 115, 104]) h5
                simp only [cos, List.mem_cons, List.not_mem_nil, or_false] at hc
                rcases hc with rfl | rfl | rfl | rfl | rfl | rfl <;> assumption
              rw [ha]
              refine H_skip ?_
              refine blockJ_normal ?_
              refine thenJ_normal ?_
              refine H_seq ?_
              refine R0 ?_
              refine xV (e_as (v := .int _ _) (q0 rfl)) rfl rfl ?_
              refine XN ?_
              refine thenJ_normal ?_
              refine H_ret ?_
              exact ret1 (v := .int _ _) rfl rfl rfl fun w' hw => ⟨rfl, hw.1⟩
def intC (n : Int) : List Value := [.int .i64 n]
theorem e_buildV {c : Cx} {w0 : World} {L : List E.Item} {f : Fr} {ty t : TypeId} {fs : Array Field} {pl : List (Nat × Nat)} {parts : List (Nat × Operand)} {vs : List (Nat × Value)} {z : Value} (cs : List Value) (ht : c.P.underlying t = some (.struct fs)) (hf : FieldsLie c.P fs pl) (hz : ∀ w, (zeroValue t).run c.P w = .ok z w)
    (hp : Parts f parts vs) (hok : bldOk pl z.cells.toList.length vs = true) (hv : bld pl z.cells.toList vs = cs) : EvG true c w0 L f (.build t parts.toArray) ty (.agg cs.toArray) := hv ▸ e_build ht hf hz hp hok
theorem XL_box0 {c : Cx} {PQ : PJ} {f : Fr} {ops rest : List Oper} {b : Nat} {t : TypeId} {cs cs2 : List Value} {w0 : World} {L : List E.Item} (e : cs = cs2) (h : XL false c ops rest PQ w0 (box b t cs2 :: L) f) : XL false c ops rest PQ w0 (box b t cs :: L) f := e ▸ h
set_option maxRecDepth 20000 in
set_option maxHeartbeats 1000000 in
theorem ract1_w (A : Option Addr) (cp : Nat) (n0 n1 n2 n3 n4 n5 n6 n7 n8 : Int) {w0 w : World} {L : List E.Item} (hL : marks L = []) (hw : Mem w0 (rowT 3 1 intC A cp [n0, n1, n2, n3, n4, n5, n6, n7, n8] :: L) w) : Calls Tryz.prog 22 #[.string ⟨[101, 118, 101, 110, 116].toArray⟩, .slice A 9 cp] w fun e w' => ∃ _x : Unit, e = .returned (.agg ((puts (cos[0].offs) [n0, n1, n2, n3, n4, n5, n6, n7, n8] (zs.set 0 1)).map I64).toArray) ∧ Mem w0 (rowT 3 1 intC A cp [n0, n1, n2, n3, n4, n5, n6, n7, n8] :: L) w' := by
  refine H_enterM hw hL Tryz.func22 rfl Tryz.ntmps22 rfl ?_
  refine H_know (fun w hw => rowT_at (j := 0) hw rfl (by simp)) fun ⟨pb, hpb⟩ => ?_
  subst hpb
  refine H_seq ?_
  refine R0 ?_
  refine X_alloc Tryz.zeroValue30 rfl fun b4 => ?_
  refine XN ?_
  refine thenJ_normal ?_
  refine H_seq ?_
  refine H_seq ?_
  refine R0 ?_
  refine xV (e_mv (v := .string _) (q0 rfl)) rfl rfl ?_
  refine XN ?_
  refine thenJ_normal ?_
  refine H_block ?_
  refine H_seq ?_
  refine R0 ?_
  refine xV (e_eqStr (q0 rfl) (q0 rfl)) rfl rfl ?_
  refine xV (e_as (v := .bool _) (q0 rfl)) rfl rfl ?_
  refine XN ?_
  refine thenJ_normal ?_
  refine H_cond rfl (fun h0 => ?_) (fun h0 => ?_)
  · have _ht : True := trivial
    refine H_seq ?_
    refine E.RT rfl rfl (by decide +kernel) ?_
    refine xV (e_mv (v := .slice _ _ _) (q0 rfl)) rfl rfl ?_
    refine xV (e_idx 0 Tryz.underlying42 Tryz.sizeOf3 (q0 rfl) (q0 rfl) (fun _ => ⟨rfl, by decide⟩)) rfl rfl ?_
    refine xV (eL Tryz.isAgg3 (q0 rfl) (rr0 (i := 0) 1 rfl rfl rfl)) rfl rfl ?_
    refine xV (e_mv (v := .slice _ _ _) (q0 rfl)) rfl rfl ?_
    refine xV (e_idx 1 Tryz.underlying42 Tryz.sizeOf3 (q0 rfl) (q0 rfl) (fun _ => ⟨rfl, by decide⟩)) rfl rfl ?_
    refine xV (eL Tryz.isAgg3 (q0 rfl) (rr0 (i := 1) 1 rfl rfl rfl)) rfl rfl ?_
    refine xV (e_mv (v := .slice _ _ _) (q0 rfl)) rfl rfl ?_
    refine xV (e_idx 2 Tryz.underlying42 Tryz.sizeOf3 (q0 rfl) (q0 rfl) (fun _ => ⟨rfl, by decide⟩)) rfl rfl ?_
    refine xV (eL Tryz.isAgg3 (q0 rfl) (rr0 (i := 2) 1 rfl rfl rfl)) rfl rfl ?_
    refine xV (e_mv (v := .slice _ _ _) (q0 rfl)) rfl rfl ?_
    refine xV (e_idx 3 Tryz.underlying42 Tryz.sizeOf3 (q0 rfl) (q0 rfl) (fun _ => ⟨rfl, by decide⟩)) rfl rfl ?_
    refine xV (eL Tryz.isAgg3 (q0 rfl) (rr0 (i := 3) 1 rfl rfl rfl)) rfl rfl ?_
    refine xV (e_mv (v := .slice _ _ _) (q0 rfl)) rfl rfl ?_
    refine xV (e_idx 4 Tryz.underlying42 Tryz.sizeOf3 (q0 rfl) (q0 rfl) (fun _ => ⟨rfl, by decide⟩)) rfl rfl ?_
    refine xV (eL Tryz.isAgg3 (q0 rfl) (rr0 (i := 4) 1 rfl rfl rfl)) rfl rfl ?_
    refine xV (e_mv (v := .slice _ _ _) (q0 rfl)) rfl rfl ?_
    refine xV (e_idx 5 Tryz.underlying42 Tryz.sizeOf3 (q0 rfl) (q0 rfl) (fun _ => ⟨rfl, by decide⟩)) rfl rfl ?_
    refine xV (eL Tryz.isAgg3 (q0 rfl) (rr0 (i := 5) 1 rfl rfl rfl)) rfl rfl ?_
    refine xV (e_mv (v := .slice _ _ _) (q0 rfl)) rfl rfl ?_
    refine xV (e_idx 6 Tryz.underlying42 Tryz.sizeOf3 (q0 rfl) (q0 rfl) (fun _ => ⟨rfl, by decide⟩)) rfl rfl ?_
    refine xV (eL Tryz.isAgg3 (q0 rfl) (rr0 (i := 6) 1 rfl rfl rfl)) rfl rfl ?_
    refine xV (e_mv (v := .slice _ _ _) (q0 rfl)) rfl rfl ?_
    refine xV (e_idx 7 Tryz.underlying42 Tryz.sizeOf3 (q0 rfl) (q0 rfl) (fun _ => ⟨rfl, by decide⟩)) rfl rfl ?_
    refine xV (eL Tryz.isAgg3 (q0 rfl) (rr0 (i := 7) 1 rfl rfl rfl)) rfl rfl ?_
    refine xV (e_mv (v := .slice _ _ _) (q0 rfl)) rfl rfl ?_
    refine xV (e_idx 8 Tryz.underlying42 Tryz.sizeOf3 (q0 rfl) (q0 rfl) (fun _ => ⟨rfl, by decide⟩)) rfl rfl ?_
    refine xV (eL Tryz.isAgg3 (q0 rfl) (rr0 (i := 8) 1 rfl rfl rfl)) rfl rfl ?_
    refine xV (e_buildV [.int .i64 n0, .int .i64 n1, .int .i64 n2, .int .i64 n3, .int .i64 n4, .int .i64 n5, .int .i64 n6, .int .i64 n7, .int .i64 n8] Tryz.underlying24 fl24 Tryz.zeroValue24 (pt (v := .int _ _) rfl (pt (v := .int _ _) rfl (pt (v := .int _ _) rfl (pt (v := .int _ _) rfl (pt (v := .int _ _) rfl (pt (v := .int _ _) rfl (pt (v := .int _ _) rfl (pt (v := .int _ _) rfl (pt (v := .int _ _) rfl E.p0))))))))) (by kernel_rfl) (by kernel_rfl)) rfl rfl ?_
    refine xV (e_buildV [.int .i64 1, .int .i64 0, .int .i64 0, .int .i64 n0, .int .i64 n1, .int .i64 n2, .int .i64 n3, .int .i64 n4, .int .i64 n5, .int .i64 n6, .int .i64 n7, .int .i64 n8, .int .i64 0, .int .i64 0, .int .i64 0, .int .i64 0, .int .i64 0, .int .i64 0, .int .i64 0, .int .i64 0] Tryz.underlying30 fl30 Tryz.zeroValue30 (pt (v := .int _ _) rfl (pt (v := .agg _) rfl E.p0)) (by kernel_rfl) (by kernel_rfl)) rfl rfl ?_
    refine XN ?_
    refine thenJ_normal ?_
    refine X_st (v := .agg _) rfl rfl Tryz.sizeOf30 ?_; refine XL_box0 (cs2 := [.int .i64 1, .int .i64 0, .int .i64 0, .int .i64 n0, .int .i64 n1, .int .i64 n2, .int .i64 n3, .int .i64 n4, .int .i64 n5, .int .i64 n6, .int .i64 n7, .int .i64 n8, .int .i64 0, .int .i64 0, .int .i64 0, .int .i64 0, .int .i64 0, .int .i64 0, .int .i64 0, .int .i64 0]) (by kernel_rfl) ?_
    refine XN ?_
    refine thenJ_normal ?_
    refine H_ret ?_
    refine blockJ_ret ?_
    refine thenJ_ret ?_
    exact ret_of (by exact hL) (resC rfl rfl Tryz.isAgg30 Tryz.sizeOf30 (bxs 0 rfl)) fun w' hw => ⟨(), by kernel_rfl, hw.tail⟩
  · exact absurd h0 (by rw [str_eq]; decide)
set_option maxRecDepth 20000 in
set_option maxHeartbeats 1000000 in
theorem ract2_w (A : Option Addr) (cp : Nat) (n0 n1 n2 n3 : Int) {w0 w : World} {L : List E.Item} (hL : marks L = []) (hw : Mem w0 (rowT 3 1 intC A cp [n0, n1, n2, n3] :: L) w) : Calls Tryz.prog 22 #[.string ⟨[118, 101, 114, 100, 105, 99, 116].toArray⟩, .slice A 4 cp] w fun e w' => ∃ _x : Unit, e = .returned (.agg ((puts (cos[1].offs) [n0, n1, n2, n3] (zs.set 0 2)).map I64).toArray) ∧ Mem w0 (rowT 3 1 intC A cp [n0, n1, n2, n3] :: L) w' := by
  refine H_enterM hw hL Tryz.func22 rfl Tryz.ntmps22 rfl ?_
  refine H_know (fun w hw => rowT_at (j := 0) hw rfl (by simp)) fun ⟨pb, hpb⟩ => ?_
  subst hpb
  refine H_seq ?_
  refine R0 ?_
  refine X_alloc Tryz.zeroValue30 rfl fun b4 => ?_
  refine XN ?_
  refine thenJ_normal ?_
  refine H_seq ?_
  refine H_seq ?_
  refine R0 ?_
  refine xV (e_mv (v := .string _) (q0 rfl)) rfl rfl ?_
  refine XN ?_
  refine thenJ_normal ?_
  refine H_block ?_
  refine H_seq ?_
  refine R0 ?_
  refine xV (e_eqStr (q0 rfl) (q0 rfl)) rfl rfl ?_
  refine xV (e_as (v := .bool _) (q0 rfl)) rfl rfl ?_
  refine XN ?_
  refine thenJ_normal ?_
  refine H_cond rfl (fun h0 => ?_) (fun h0 => ?_)
  · exact absurd h0 (by rw [str_eq]; decide)
  · have _ht : True := trivial
    refine H_seq ?_
    refine R0 ?_
    refine xV (e_eqStr (q0 rfl) (q0 rfl)) rfl rfl ?_
    refine xV (e_as (v := .bool _) (q0 rfl)) rfl rfl ?_
    refine XN ?_
    refine thenJ_normal ?_
    refine H_cond rfl (fun h1 => ?_) (fun h1 => ?_)
    · have _ht : True := trivial
      refine H_seq ?_
      refine E.RT rfl rfl (by decide +kernel) ?_
      refine xV (e_mv (v := .slice _ _ _) (q0 rfl)) rfl rfl ?_
      refine xV (e_idx 0 Tryz.underlying42 Tryz.sizeOf3 (q0 rfl) (q0 rfl) (fun _ => ⟨rfl, by decide⟩)) rfl rfl ?_
      refine xV (eL Tryz.isAgg3 (q0 rfl) (rr0 (i := 0) 1 rfl rfl rfl)) rfl rfl ?_
      refine xV (e_mv (v := .slice _ _ _) (q0 rfl)) rfl rfl ?_
      refine xV (e_idx 1 Tryz.underlying42 Tryz.sizeOf3 (q0 rfl) (q0 rfl) (fun _ => ⟨rfl, by decide⟩)) rfl rfl ?_
      refine xV (eL Tryz.isAgg3 (q0 rfl) (rr0 (i := 1) 1 rfl rfl rfl)) rfl rfl ?_
      refine xV (e_mv (v := .slice _ _ _) (q0 rfl)) rfl rfl ?_
      refine xV (e_idx 2 Tryz.underlying42 Tryz.sizeOf3 (q0 rfl) (q0 rfl) (fun _ => ⟨rfl, by decide⟩)) rfl rfl ?_
      refine xV (eL Tryz.isAgg3 (q0 rfl) (rr0 (i := 2) 1 rfl rfl rfl)) rfl rfl ?_
      refine xV (e_mv (v := .slice _ _ _) (q0 rfl)) rfl rfl ?_
      refine xV (e_idx 3 Tryz.underlying42 Tryz.sizeOf3 (q0 rfl) (q0 rfl) (fun _ => ⟨rfl, by decide⟩)) rfl rfl ?_
      refine xV (eL Tryz.isAgg3 (q0 rfl) (rr0 (i := 3) 1 rfl rfl rfl)) rfl rfl ?_
      refine xV (e_buildV [.int .i64 n0, .int .i64 n1, .int .i64 n2, .int .i64 n3] Tryz.underlying26 fl26 Tryz.zeroValue26 (pt (v := .int _ _) rfl (pt (v := .int _ _) rfl (pt (v := .int _ _) rfl (pt (v := .int _ _) rfl E.p0)))) (by kernel_rfl) (by kernel_rfl)) rfl rfl ?_
      refine xV (e_buildV [.int .i64 2, .int .i64 0, .int .i64 0, .int .i64 0, .int .i64 0, .int .i64 0, .int .i64 0, .int .i64 0, .int .i64 0, .int .i64 0, .int .i64 0, .int .i64 0, .int .i64 n0, .int .i64 n1, .int .i64 n2, .int .i64 n3, .int .i64 0, .int .i64 0, .int .i64 0, .int .i64 0] Tryz.underlying30 fl30 Tryz.zeroValue30 (pt (v := .int _ _) rfl (pt (v := .agg _) rfl E.p0)) (by kernel_rfl) (by kernel_rfl)) rfl rfl ?_
      refine XN ?_
      refine thenJ_normal ?_
      refine X_st (v := .agg _) rfl rfl Tryz.sizeOf30 ?_; refine XL_box0 (cs2 := [.int .i64 2, .int .i64 0, .int .i64 0, .int .i64 0, .int .i64 0, .int .i64 0, .int .i64 0, .int .i64 0, .int .i64 0, .int .i64 0, .int .i64 0, .int .i64 0, .int .i64 n0, .int .i64 n1, .int .i64 n2, .int .i64 n3, .int .i64 0, .int .i64 0, .int .i64 0, .int .i64 0]) (by kernel_rfl) ?_
      refine XN ?_
      refine thenJ_normal ?_
      refine H_ret ?_
      refine blockJ_ret ?_
      refine thenJ_ret ?_
      exact ret_of (by exact hL) (resC rfl rfl Tryz.isAgg30 Tryz.sizeOf30 (bxs 0 rfl)) fun w' hw => ⟨(), by kernel_rfl, hw.tail⟩
    · exact absurd h1 (by rw [str_eq]; decide)
set_option maxRecDepth 20000 in
set_option maxHeartbeats 1000000 in
theorem ract3_w (A : Option Addr) (cp : Nat) (n0 n1 n2 n3 : Int) {w0 w : World} {L : List E.Item} (hL : marks L = []) (hw : Mem w0 (rowT 3 1 intC A cp [n0, n1, n2, n3] :: L) w) : Calls Tryz.prog 22 #[.string ⟨[114, 101, 102, 117, 110, 100].toArray⟩, .slice A 4 cp] w fun e w' => ∃ _x : Unit, e = .returned (.agg ((puts (cos[2].offs) [n0, n1, n2, n3] (zs.set 0 3)).map I64).toArray) ∧ Mem w0 (rowT 3 1 intC A cp [n0, n1, n2, n3] :: L) w' := by
  refine H_enterM hw hL Tryz.func22 rfl Tryz.ntmps22 rfl ?_
  refine H_know (fun w hw => rowT_at (j := 0) hw rfl (by simp)) fun ⟨pb, hpb⟩ => ?_
  subst hpb
  refine H_seq ?_
  refine R0 ?_
  refine X_alloc Tryz.zeroValue30 rfl fun b4 => ?_
  refine XN ?_
  refine thenJ_normal ?_
  refine H_seq ?_
  refine H_seq ?_
  refine R0 ?_
  refine xV (e_mv (v := .string _) (q0 rfl)) rfl rfl ?_
  refine XN ?_
  refine thenJ_normal ?_
  refine H_block ?_
  refine H_seq ?_
  refine R0 ?_
  refine xV (e_eqStr (q0 rfl) (q0 rfl)) rfl rfl ?_
  refine xV (e_as (v := .bool _) (q0 rfl)) rfl rfl ?_
  refine XN ?_
  refine thenJ_normal ?_
  refine H_cond rfl (fun h0 => ?_) (fun h0 => ?_)
  · exact absurd h0 (by rw [str_eq]; decide)
  · have _ht : True := trivial
    refine H_seq ?_
    refine R0 ?_
    refine xV (e_eqStr (q0 rfl) (q0 rfl)) rfl rfl ?_
    refine xV (e_as (v := .bool _) (q0 rfl)) rfl rfl ?_
    refine XN ?_
    refine thenJ_normal ?_
    refine H_cond rfl (fun h1 => ?_) (fun h1 => ?_)
    · exact absurd h1 (by rw [str_eq]; decide)
    · have _ht : True := trivial
      refine H_seq ?_
      refine R0 ?_
      refine xV (e_eqStr (q0 rfl) (q0 rfl)) rfl rfl ?_
      refine xV (e_as (v := .bool _) (q0 rfl)) rfl rfl ?_
      refine XN ?_
      refine thenJ_normal ?_
      refine H_cond rfl (fun h2 => ?_) (fun h2 => ?_)
      · have _ht : True := trivial
        refine H_seq ?_
        refine E.RT rfl rfl (by decide +kernel) ?_
        refine xV (e_mv (v := .slice _ _ _) (q0 rfl)) rfl rfl ?_
        refine xV (e_idx 0 Tryz.underlying42 Tryz.sizeOf3 (q0 rfl) (q0 rfl) (fun _ => ⟨rfl, by decide⟩)) rfl rfl ?_
        refine xV (eL Tryz.isAgg3 (q0 rfl) (rr0 (i := 0) 1 rfl rfl rfl)) rfl rfl ?_
        refine xV (e_mv (v := .slice _ _ _) (q0 rfl)) rfl rfl ?_
        refine xV (e_idx 1 Tryz.underlying42 Tryz.sizeOf3 (q0 rfl) (q0 rfl) (fun _ => ⟨rfl, by decide⟩)) rfl rfl ?_
        refine xV (eL Tryz.isAgg3 (q0 rfl) (rr0 (i := 1) 1 rfl rfl rfl)) rfl rfl ?_
        refine xV (e_mv (v := .slice _ _ _) (q0 rfl)) rfl rfl ?_
        refine xV (e_idx 2 Tryz.underlying42 Tryz.sizeOf3 (q0 rfl) (q0 rfl) (fun _ => ⟨rfl, by decide⟩)) rfl rfl ?_
        refine xV (eL Tryz.isAgg3 (q0 rfl) (rr0 (i := 2) 1 rfl rfl rfl)) rfl rfl ?_
        refine xV (e_mv (v := .slice _ _ _) (q0 rfl)) rfl rfl ?_
        refine xV (e_idx 3 Tryz.underlying42 Tryz.sizeOf3 (q0 rfl) (q0 rfl) (fun _ => ⟨rfl, by decide⟩)) rfl rfl ?_
        refine xV (eL Tryz.isAgg3 (q0 rfl) (rr0 (i := 3) 1 rfl rfl rfl)) rfl rfl ?_
        refine xV (e_buildV [.int .i64 n0, .int .i64 n1, .int .i64 n2, .int .i64 n3] Tryz.underlying28 fl28 Tryz.zeroValue28 (pt (v := .int _ _) rfl (pt (v := .int _ _) rfl (pt (v := .int _ _) rfl (pt (v := .int _ _) rfl E.p0)))) (by kernel_rfl) (by kernel_rfl)) rfl rfl ?_
        refine xV (e_buildV [.int .i64 3, .int .i64 0, .int .i64 0, .int .i64 0, .int .i64 0, .int .i64 0, .int .i64 0, .int .i64 0, .int .i64 0, .int .i64 0, .int .i64 0, .int .i64 0, .int .i64 0, .int .i64 0, .int .i64 0, .int .i64 0, .int .i64 n0, .int .i64 n1, .int .i64 n2, .int .i64 n3] Tryz.underlying30 fl30 Tryz.zeroValue30 (pt (v := .int _ _) rfl (pt (v := .agg _) rfl E.p0)) (by kernel_rfl) (by kernel_rfl)) rfl rfl ?_
        refine XN ?_
        refine thenJ_normal ?_
        refine X_st (v := .agg _) rfl rfl Tryz.sizeOf30 ?_; refine XL_box0 (cs2 := [.int .i64 3, .int .i64 0, .int .i64 0, .int .i64 0, .int .i64 0, .int .i64 0, .int .i64 0, .int .i64 0, .int .i64 0, .int .i64 0, .int .i64 0, .int .i64 0, .int .i64 0, .int .i64 0, .int .i64 0, .int .i64 0, .int .i64 n0, .int .i64 n1, .int .i64 n2, .int .i64 n3]) (by kernel_rfl) ?_
        refine XN ?_
        refine thenJ_normal ?_
        refine H_ret ?_
        refine blockJ_ret ?_
        refine thenJ_ret ?_
        exact ret_of (by exact hL) (resC rfl rfl Tryz.isAgg30 Tryz.sizeOf30 (bxs 0 rfl)) fun w' hw => ⟨(), by kernel_rfl, hw.tail⟩
      · exact absurd h2 (by rw [str_eq]; decide)
set_option maxRecDepth 20000 in
set_option maxHeartbeats 1000000 in
theorem ract4_w (A : Option Addr) (cp : Nat) {w0 w : World} {L : List E.Item} (hL : marks L = []) (hw : Mem w0 (rowT 3 1 intC A cp [] :: L) w) : Calls Tryz.prog 22 #[.string ⟨[99, 104, 97, 114, 103, 101].toArray⟩, .slice A 0 cp] w fun e w' => ∃ _x : Unit, e = .returned (.agg ((puts (cos[3].offs) [] (zs.set 0 4)).map I64).toArray) ∧ Mem w0 (rowT 3 1 intC A cp [] :: L) w' := by
  refine H_enterM hw hL Tryz.func22 rfl Tryz.ntmps22 rfl ?_
  refine H_seq ?_
  refine R0 ?_
  refine X_alloc Tryz.zeroValue30 rfl fun b4 => ?_
  refine XN ?_
  refine thenJ_normal ?_
  refine H_seq ?_
  refine H_seq ?_
  refine R0 ?_
  refine xV (e_mv (v := .string _) (q0 rfl)) rfl rfl ?_
  refine XN ?_
  refine thenJ_normal ?_
  refine H_block ?_
  refine H_seq ?_
  refine R0 ?_
  refine xV (e_eqStr (q0 rfl) (q0 rfl)) rfl rfl ?_
  refine xV (e_as (v := .bool _) (q0 rfl)) rfl rfl ?_
  refine XN ?_
  refine thenJ_normal ?_
  refine H_cond rfl (fun h0 => ?_) (fun h0 => ?_)
  · exact absurd h0 (by rw [str_eq]; decide)
  · have _ht : True := trivial
    refine H_seq ?_
    refine R0 ?_
    refine xV (e_eqStr (q0 rfl) (q0 rfl)) rfl rfl ?_
    refine xV (e_as (v := .bool _) (q0 rfl)) rfl rfl ?_
    refine XN ?_
    refine thenJ_normal ?_
    refine H_cond rfl (fun h1 => ?_) (fun h1 => ?_)
    · exact absurd h1 (by rw [str_eq]; decide)
    · have _ht : True := trivial
      refine H_seq ?_
      refine R0 ?_
      refine xV (e_eqStr (q0 rfl) (q0 rfl)) rfl rfl ?_
      refine xV (e_as (v := .bool _) (q0 rfl)) rfl rfl ?_
      refine XN ?_
      refine thenJ_normal ?_
      refine H_cond rfl (fun h2 => ?_) (fun h2 => ?_)
      · exact absurd h2 (by rw [str_eq]; decide)
      · have _ht : True := trivial
        refine H_seq ?_
        refine R0 ?_
        refine xV (e_eqStr (q0 rfl) (q0 rfl)) rfl rfl ?_
        refine xV (e_as (v := .bool _) (q0 rfl)) rfl rfl ?_
        refine XN ?_
        refine thenJ_normal ?_
        refine H_cond rfl (fun h3 => ?_) (fun h3 => ?_)
        · have _ht : True := trivial
          refine H_seq ?_
          refine R0 ?_
          refine xV (e_buildV [.int .i64 4, .int .i64 0, .int .i64 0, .int .i64 0, .int .i64 0, .int .i64 0, .int .i64 0, .int .i64 0, .int .i64 0, .int .i64 0, .int .i64 0, .int .i64 0, .int .i64 0, .int .i64 0, .int .i64 0, .int .i64 0, .int .i64 0, .int .i64 0, .int .i64 0, .int .i64 0] Tryz.underlying30 fl30 Tryz.zeroValue30 (pt (v := .int _ _) rfl E.p0) (by kernel_rfl) (by kernel_rfl)) rfl rfl ?_
          refine X_st (v := .agg _) rfl rfl Tryz.sizeOf30 ?_; refine XL_box0 (cs2 := [.int .i64 4, .int .i64 0, .int .i64 0, .int .i64 0, .int .i64 0, .int .i64 0, .int .i64 0, .int .i64 0, .int .i64 0, .int .i64 0, .int .i64 0, .int .i64 0, .int .i64 0, .int .i64 0, .int .i64 0, .int .i64 0, .int .i64 0, .int .i64 0, .int .i64 0, .int .i64 0]) (by kernel_rfl) ?_
          refine XN ?_
          refine thenJ_normal ?_
          refine H_ret ?_
          refine blockJ_ret ?_
          refine thenJ_ret ?_
          exact ret_of (by exact hL) (resC rfl rfl Tryz.isAgg30 Tryz.sizeOf30 (bxs 0 rfl)) fun w' hw => ⟨(), by kernel_rfl, hw.tail⟩
        · exact absurd h3 (by rw [str_eq]; decide)
set_option maxRecDepth 20000 in
set_option maxHeartbeats 1000000 in
theorem ract5_w (A : Option Addr) (cp : Nat) (n0 n1 : Int) {w0 w : World} {L : List E.Item} (hL : marks L = []) (hw : Mem w0 (rowT 3 1 intC A cp [n0, n1] :: L) w) : Calls Tryz.prog 22 #[.string ⟨[112, 117, 98, 108, 105, 115, 104].toArray⟩, .slice A 2 cp] w fun e w' => ∃ _x : Unit, e = .returned (.agg ((puts (cos[4].offs) [n0, n1] (zs.set 0 5)).map I64).toArray) ∧ Mem w0 (rowT 3 1 intC A cp [n0, n1] :: L) w' := by
  refine H_enterM hw hL Tryz.func22 rfl Tryz.ntmps22 rfl ?_
  refine H_know (fun w hw => rowT_at (j := 0) hw rfl (by simp)) fun ⟨pb, hpb⟩ => ?_
  subst hpb
  refine H_seq ?_
  refine R0 ?_
  refine X_alloc Tryz.zeroValue30 rfl fun b4 => ?_
  refine XN ?_
  refine thenJ_normal ?_
  refine H_seq ?_
  refine H_seq ?_
  refine R0 ?_
  refine xV (e_mv (v := .string _) (q0 rfl)) rfl rfl ?_
  refine XN ?_
  refine thenJ_normal ?_
  refine H_block ?_
  refine H_seq ?_
  refine R0 ?_
  refine xV (e_eqStr (q0 rfl) (q0 rfl)) rfl rfl ?_
  refine xV (e_as (v := .bool _) (q0 rfl)) rfl rfl ?_
  refine XN ?_
  refine thenJ_normal ?_
  refine H_cond rfl (fun h0 => ?_) (fun h0 => ?_)
  · exact absurd h0 (by rw [str_eq]; decide)
  · have _ht : True := trivial
    refine H_seq ?_
    refine R0 ?_
    refine xV (e_eqStr (q0 rfl) (q0 rfl)) rfl rfl ?_
    refine xV (e_as (v := .bool _) (q0 rfl)) rfl rfl ?_
    refine XN ?_
    refine thenJ_normal ?_
    refine H_cond rfl (fun h1 => ?_) (fun h1 => ?_)
    · exact absurd h1 (by rw [str_eq]; decide)
    · have _ht : True := trivial
      refine H_seq ?_
      refine R0 ?_
      refine xV (e_eqStr (q0 rfl) (q0 rfl)) rfl rfl ?_
      refine xV (e_as (v := .bool _) (q0 rfl)) rfl rfl ?_
      refine XN ?_
      refine thenJ_normal ?_
      refine H_cond rfl (fun h2 => ?_) (fun h2 => ?_)
      · exact absurd h2 (by rw [str_eq]; decide)
      · have _ht : True := trivial
        refine H_seq ?_
        refine R0 ?_
        refine xV (e_eqStr (q0 rfl) (q0 rfl)) rfl rfl ?_
        refine xV (e_as (v := .bool _) (q0 rfl)) rfl rfl ?_
        refine XN ?_
        refine thenJ_normal ?_
        refine H_cond rfl (fun h3 => ?_) (fun h3 => ?_)
        · exact absurd h3 (by rw [str_eq]; decide)
        · have _ht : True := trivial
          refine H_seq ?_
          refine R0 ?_
          refine xV (e_eqStr (q0 rfl) (q0 rfl)) rfl rfl ?_
          refine xV (e_as (v := .bool _) (q0 rfl)) rfl rfl ?_
          refine XN ?_
          refine thenJ_normal ?_
          refine H_cond rfl (fun h4 => ?_) (fun h4 => ?_)
          · have _ht : True := trivial
            refine H_seq ?_
            refine E.RT rfl rfl (by decide +kernel) ?_
            refine xV (e_mv (v := .slice _ _ _) (q0 rfl)) rfl rfl ?_
            refine xV (e_idx 0 Tryz.underlying42 Tryz.sizeOf3 (q0 rfl) (q0 rfl) (fun _ => ⟨rfl, by decide⟩)) rfl rfl ?_
            refine xV (eL Tryz.isAgg3 (q0 rfl) (rr0 (i := 0) 1 rfl rfl rfl)) rfl rfl ?_
            refine xV (e_mv (v := .slice _ _ _) (q0 rfl)) rfl rfl ?_
            refine xV (e_idx 1 Tryz.underlying42 Tryz.sizeOf3 (q0 rfl) (q0 rfl) (fun _ => ⟨rfl, by decide⟩)) rfl rfl ?_
            refine xV (eL Tryz.isAgg3 (q0 rfl) (rr0 (i := 1) 1 rfl rfl rfl)) rfl rfl ?_
            refine xV (e_buildV [.int .i64 5, .int .i64 n0, .int .i64 n1, .int .i64 0, .int .i64 0, .int .i64 0, .int .i64 0, .int .i64 0, .int .i64 0, .int .i64 0, .int .i64 0, .int .i64 0, .int .i64 0, .int .i64 0, .int .i64 0, .int .i64 0, .int .i64 0, .int .i64 0, .int .i64 0, .int .i64 0] Tryz.underlying30 fl30 Tryz.zeroValue30 (pt (v := .int _ _) rfl (pt (v := .int _ _) rfl (pt (v := .int _ _) rfl E.p0))) (by kernel_rfl) (by kernel_rfl)) rfl rfl ?_
            refine XN ?_
            refine thenJ_normal ?_
            refine X_st (v := .agg _) rfl rfl Tryz.sizeOf30 ?_; refine XL_box0 (cs2 := [.int .i64 5, .int .i64 n0, .int .i64 n1, .int .i64 0, .int .i64 0, .int .i64 0, .int .i64 0, .int .i64 0, .int .i64 0, .int .i64 0, .int .i64 0, .int .i64 0, .int .i64 0, .int .i64 0, .int .i64 0, .int .i64 0, .int .i64 0, .int .i64 0, .int .i64 0, .int .i64 0]) (by kernel_rfl) ?_
            refine XN ?_
            refine thenJ_normal ?_
            refine H_ret ?_
            refine blockJ_ret ?_
            refine thenJ_ret ?_
            exact ret_of (by exact hL) (resC rfl rfl Tryz.isAgg30 Tryz.sizeOf30 (bxs 0 rfl)) fun w' hw => ⟨(), by kernel_rfl, hw.tail⟩
          · exact absurd h4 (by rw [str_eq]; decide)
set_option maxRecDepth 20000 in
set_option maxHeartbeats 1000000 in
theorem ract6_w (A : Option Addr) (cp : Nat) {w0 w : World} {L : List E.Item} (hL : marks L = []) (hw : Mem w0 (rowT 3 1 intC A cp [] :: L) w) : Calls Tryz.prog 22 #[.string ⟨[112, 108, 97, 110].toArray⟩, .slice A 0 cp] w fun e w' => ∃ _x : Unit, e = .returned (.agg ((puts (cos[5].offs) [] (zs.set 0 6)).map I64).toArray) ∧ Mem w0 (rowT 3 1 intC A cp [] :: L) w' := by
  refine H_enterM hw hL Tryz.func22 rfl Tryz.ntmps22 rfl ?_
  refine H_seq ?_
  refine R0 ?_
  refine X_alloc Tryz.zeroValue30 rfl fun b4 => ?_
  refine XN ?_
  refine thenJ_normal ?_
  refine H_seq ?_
  refine H_seq ?_
  refine R0 ?_
  refine xV (e_mv (v := .string _) (q0 rfl)) rfl rfl ?_
  refine XN ?_
  refine thenJ_normal ?_
  refine H_block ?_
  refine H_seq ?_
  refine R0 ?_
  refine xV (e_eqStr (q0 rfl) (q0 rfl)) rfl rfl ?_
  refine xV (e_as (v := .bool _) (q0 rfl)) rfl rfl ?_
  refine XN ?_
  refine thenJ_normal ?_
  refine H_cond rfl (fun h0 => ?_) (fun h0 => ?_)
  · exact absurd h0 (by rw [str_eq]; decide)
  · have _ht : True := trivial
    refine H_seq ?_
    refine R0 ?_
    refine xV (e_eqStr (q0 rfl) (q0 rfl)) rfl rfl ?_
    refine xV (e_as (v := .bool _) (q0 rfl)) rfl rfl ?_
    refine XN ?_
    refine thenJ_normal ?_
    refine H_cond rfl (fun h1 => ?_) (fun h1 => ?_)
    · exact absurd h1 (by rw [str_eq]; decide)
    · have _ht : True := trivial
      refine H_seq ?_
      refine R0 ?_
      refine xV (e_eqStr (q0 rfl) (q0 rfl)) rfl rfl ?_
      refine xV (e_as (v := .bool _) (q0 rfl)) rfl rfl ?_
      refine XN ?_
      refine thenJ_normal ?_
      refine H_cond rfl (fun h2 => ?_) (fun h2 => ?_)
      · exact absurd h2 (by rw [str_eq]; decide)
      · have _ht : True := trivial
        refine H_seq ?_
        refine R0 ?_
        refine xV (e_eqStr (q0 rfl) (q0 rfl)) rfl rfl ?_
        refine xV (e_as (v := .bool _) (q0 rfl)) rfl rfl ?_
        refine XN ?_
        refine thenJ_normal ?_
        refine H_cond rfl (fun h3 => ?_) (fun h3 => ?_)
        · exact absurd h3 (by rw [str_eq]; decide)
        · have _ht : True := trivial
          refine H_seq ?_
          refine R0 ?_
          refine xV (e_eqStr (q0 rfl) (q0 rfl)) rfl rfl ?_
          refine xV (e_as (v := .bool _) (q0 rfl)) rfl rfl ?_
          refine XN ?_
          refine thenJ_normal ?_
          refine H_cond rfl (fun h4 => ?_) (fun h4 => ?_)
          · exact absurd h4 (by rw [str_eq]; decide)
          · have _ht : True := trivial
            refine H_skip ?_
            refine blockJ_normal ?_
            refine thenJ_normal ?_
            refine H_seq ?_
            refine R0 ?_
            refine xV (e_buildV [.int .i64 6, .int .i64 0, .int .i64 0, .int .i64 0, .int .i64 0, .int .i64 0, .int .i64 0, .int .i64 0, .int .i64 0, .int .i64 0, .int .i64 0, .int .i64 0, .int .i64 0, .int .i64 0, .int .i64 0, .int .i64 0, .int .i64 0, .int .i64 0, .int .i64 0, .int .i64 0] Tryz.underlying30 fl30 Tryz.zeroValue30 (pt (v := .int _ _) rfl E.p0) (by kernel_rfl) (by kernel_rfl)) rfl rfl ?_
            refine X_st (v := .agg _) rfl rfl Tryz.sizeOf30 ?_; refine XL_box0 (cs2 := [.int .i64 6, .int .i64 0, .int .i64 0, .int .i64 0, .int .i64 0, .int .i64 0, .int .i64 0, .int .i64 0, .int .i64 0, .int .i64 0, .int .i64 0, .int .i64 0, .int .i64 0, .int .i64 0, .int .i64 0, .int .i64 0, .int .i64 0, .int .i64 0, .int .i64 0, .int .i64 0]) (by kernel_rfl) ?_
            refine XN ?_
            refine thenJ_normal ?_
            refine H_ret ?_
            exact ret_of (by exact hL) (resC rfl rfl Tryz.isAgg30 Tryz.sizeOf30 (bxs 0 rfl)) fun w' hw => ⟨(), by kernel_rfl, hw.tail⟩
theorem ract_w {k : Nat} {c : Co} (hk : cos[k]? = some c) {s : ByteArray} (hs : s.data.toList = c.word) (A : Option Addr) (cp : Nat) (ns : List Int) (hn : ns.length = c.offs.length) {w0 w : World} {L : List E.Item} (hL : marks L = []) (hw : Mem w0 (rowT 3 1 intC A cp ns :: L) w) : Calls Tryz.prog 22 #[.string s, .slice A ns.length cp] w fun e w' => ∃ _x : Unit, e = .returned (.agg ((puts c.offs ns (zs.set 0 c.kind)).map I64).toArray) ∧ Mem w0 (rowT 3 1 intC A cp ns :: L) w' := by
  have hs2 : s = toB c.word := by rw [← toB_data s, hs]
  subst hs2
  match k, hk with
  | 0, hk =>
    cases hk
    match ns, hn with
    | [n0, n1, n2, n3, n4, n5, n6, n7, n8], _ => exact ract1_w A cp n0 n1 n2 n3 n4 n5 n6 n7 n8 hL hw
  | 1, hk =>
    cases hk
    match ns, hn with
    | [n0, n1, n2, n3], _ => exact ract2_w A cp n0 n1 n2 n3 hL hw
  | 2, hk =>
    cases hk
    match ns, hn with
    | [n0, n1, n2, n3], _ => exact ract3_w A cp n0 n1 n2 n3 hL hw
  | 3, hk =>
    cases hk
    match ns, hn with
    | [], _ => exact ract4_w A cp hL hw
  | 4, hk =>
    cases hk
    match ns, hn with
    | [n0, n1], _ => exact ract5_w A cp n0 n1 hL hw
  | 5, hk =>
    cases hk
    match ns, hn with
    | [], _ => exact ract6_w A cp hL hw
  | k + 6, hk => cases hk
end Go.Proofs.Con

/-
  The law ConsoleParses.
-/
namespace Go.Proofs.Con
open Go Go.RowKit Go.Proofs.E

theorem XL_all {c : Cx} {PQ : PJ} {f : Fr} {ops rest : List Oper} {b0 : Nat} {t : TypeId} {P : List Int} (hP : P.length = 20) {w0 : World} (i : Nat) {L : List E.Item} (hk : L[i]? = some (box b0 t (setAt zAct 0 (P.map I64)))) (h : XL false c ops rest PQ w0 (L.set i (box b0 t (P.map I64))) f) : XL false c ops rest PQ w0 L f := by
  rw [setAt_all (len0 P hP)] at hk
  have hlt : i < L.length := (List.getElem?_eq_some_iff.1 hk).1
  have : L.set i (box b0 t (P.map I64)) = L := by
    rw [← (List.getElem?_eq_some_iff.1 hk).2]; exact List.set_getElem_self hlt
  rwa [this] at h
set_option maxRecDepth 20000 in
set_option maxHeartbeats 1000000 in
theorem rparse_w (s : ByteArray) (w : World) (hs : s.size ≤ 1000) : Calls Tryz.prog 8 #[.string s] w fun e w' => e = .returned (.tuple #[.agg ((parseS s).1.map I64).toArray, .int .i64 (parseS s).2]) ∧ Bel w w' := by
  have hwl := words_len s
  have hwz := words_size s
  refine H_enter Tryz.func8 rfl Tryz.ntmps8 rfl ?_
  refine H_seq ?_
  refine R0 ?_
  refine X_alloc Tryz.zeroValue30 rfl fun b2 => ?_
  refine xV (e_as (v := .int _ _) (q0 rfl)) rfl rfl ?_
  refine XN ?_
  refine thenJ_normal ?_
  refine H_seq ?_
  refine R0 ?_
  refine xV (e_mv (v := .string _) (q0 rfl)) rfl rfl ?_
  refine xCX (en Tryz.call19 (ha1 (q0 rfl))) (fun w _ => rsplit_w s w hs) rfl (fun _ => rfl) fun x => ?_
  obtain ⟨A, cp⟩ := x
  unfold parseS
  generalize hws : wordsL s = ws at *
  cases ws with
  | nil => exfalso; simp at hwl
  | cons x0 r =>
  have hrl : r.length ≤ 1000 := by have := hwl.1; simp only [List.length_cons] at this; omega
  refine xV (e_as (v := .slice _ _ _) (q0 rfl)) rfl rfl ?_
  refine XN ?_
  refine thenJ_normal ?_
  refine H_seq ?_
  refine H_seq ?_
  refine H_know (fun w hw => rowT_at (j := 0) hw rfl (by simp)) fun ⟨pb, hpb⟩ => ?_
  have hpb : A = some ⟨pb, 0, none⟩ := hpb
  subst hpb
  refine R0 ?_
  refine xV (e_as (v := .int _ _) (q0 rfl)) rfl rfl ?_
  refine XN ?_
  refine thenJ_normal ?_
  refine H_block ?_
  refine H_loop [3, 5, 12, 13, 14, 15, 16, 17, 18, 19, 20, 21, 22, 23] (fun j : Nat => [(5, .int .i64 j)]) (fun _ => [rowT 9 1 strC (some ⟨pb, 0, none⟩) cp (x0 :: r), box b2 30 zAct]) (fun j => j ≤ (x0 :: r).length ∧ ((x0 :: r).take j).any (fun x => x.size == 0) = false) (fun j => (x0 :: r).length - j) 0 ⟨rfl, trivial⟩ (fun w hw => hw) rfl ⟨Nat.zero_le _, rfl⟩ ?_
  rintro j g ⟨hjn, hjz⟩
  refine H_seq ?_
  refine H_seq ?_
  refine R0 ?_
  refine xV (e_mv (v := .int _ _) (q0 rfl)) rfl rfl ?_
  refine xV (e_mv (v := .slice _ _ _) (q0 rfl)) rfl rfl ?_
  refine xV (e_len Tryz.underlying39 (q0 rfl)) rfl rfl ?_
  refine xV (e_lt (q0 rfl) (q0 rfl)) rfl rfl ?_
  refine XN ?_
  refine thenJ_normal ?_
  refine H_cond rfl (fun hlj => ?_) (fun hlj => ?_)
  · have hlj' : j < (x0 :: r).length := by simp only [decide_eq_true_eq] at hlj; omega
    obtain ⟨y, hyj⟩ : ∃ y, (x0 :: r)[j]? = some y := ⟨_, List.getElem?_eq_getElem hlj'⟩
    have hs1 := snoc (x0 :: r) j y hyj
    refine H_skip ?_
    refine thenJ_normal ?_
    refine H_seq ?_
    refine H_block ?_
    refine H_seq ?_
    refine R0 ?_
    refine xV (e_mv (v := .slice _ _ _) (q0 rfl)) rfl rfl ?_
    refine xV (e_mv (v := .int _ _) (q0 rfl)) rfl rfl ?_
    refine xV (e_idx j Tryz.underlying39 Tryz.sizeOf9 (q0 rfl) (q0 rfl) (fun _ => ⟨rfl, hlj'⟩)) rfl rfl ?_
    refine xV (eL Tryz.isAgg9 (q0 rfl) (rr0 0 rfl hyj rfl)) rfl rfl ?_
    refine xV (e_eqStr (q0 rfl) (q0 rfl)) rfl rfl ?_
    refine XN ?_
    refine thenJ_normal ?_
    refine H_cond rfl (fun he => ?_) (fun he => ?_)
    · have hy0 : y.size = 0 := by rw [str_eq] at he; exact size0 he
      rw [pl_empty (ws := x0 :: r) (List.any_eq_true.2 ⟨y, List.mem_of_getElem? hyj, by simp [hy0]⟩)]
      refine H_seq ?_
      refine R0 ?_
      refine xV (e_build Tryz.underlying30 fl30 Tryz.zeroValue30 E.p0 rfl) rfl rfl ?_
      refine X_st (v := .agg _) rfl rfl Tryz.sizeOf30 ?_
      refine xV (e_as (v := .int _ _) (q0 rfl)) rfl rfl ?_
      refine XN ?_
      refine thenJ_normal ?_
      refine H_ret ?_
      refine blockJ_ret ?_
      refine thenJ_ret ?_
      refine loopJ_ret ?_
      refine blockJ_ret ?_
      refine thenJ_ret ?_
      exact ret_of rfl (resCt 1 rfl rfl rfl Tryz.isAgg30 Tryz.sizeOf30 rfl rfl) fun w' hw => ⟨rfl, hw.1⟩
    · have hy0 : y.size ≠ 0 := by rw [str_eq] at he; exact size1 he
      refine H_skip ?_
      refine blockJ_normal ?_
      refine thenJ_normal ?_
      refine R0 ?_
      refine xV (e_mv (v := .int _ _) (q0 rfl)) rfl rfl ?_
      refine xV (e_add (q0 rfl) (q0 rfl) (fun _ => ⟨rfl, by omega, by omega⟩)) rfl rfl ?_
      refine xV (e_as (v := .int _ _) (q0 rfl)) rfl rfl ?_
      refine XN ?_
      exact loopJ_normal (j + 1) (by repeat (first | exact agree_self | exact agree_over | refine agree_upd rfl ?_ | refine agree_updL rfl ?_ | refine agree_over2 rfl ?_)) ⟨rfl, trivial⟩ (fun w hw => hw) rfl ⟨by omega, by rw [hs1, List.any_append, hjz]; simp [hy0]⟩ (by show (x0 :: r).length - (j + 1) < (x0 :: r).length - j; omega)
  · have hje : j = (x0 :: r).length := by simp only [decide_eq_false_iff_not] at hlj; omega
    subst hje
    rw [List.take_length] at hjz
    refine H_exit ?_
    refine thenJ_exit ?_
    refine loopJ_exit ?_
    refine blockJ_hit ?_
    refine thenJ_normal ?_
    refine H_seq ?_
    refine H_seq ?_
    refine R0 ?_
    refine xV (e_mv (v := .slice _ _ _) (q0 rfl)) rfl rfl ?_
    refine xV (e_idx 0 Tryz.underlying39 Tryz.sizeOf9 (q0 rfl) (q0 rfl) (fun _ => ⟨rfl, by simp⟩)) rfl rfl ?_
    refine xV (eL Tryz.isAgg9 (q0 rfl) (rr0 (i := 0) 0 rfl rfl rfl)) rfl rfl ?_
    refine xC (en Tryz.call20 (ha1 (q0 rfl))) (fun _ w _ => rarity_w x0 w) rfl rfl ?_
    refine xV (e_mv (v := .slice _ _ _) (q0 rfl)) rfl rfl ?_
    refine xV (e_len Tryz.underlying39 (q0 rfl)) rfl rfl ?_
    refine xV (e_sub (r := (r.length : Int)) (q0 rfl) (q0 rfl) (fun _ => ⟨by simp only [List.length_cons]; omega, by omega, by omega⟩)) rfl rfl ?_
    refine xV (e_ne (q0 rfl) (q0 rfl)) rfl rfl ?_
    refine XN ?_
    refine thenJ_normal ?_
    refine H_cond rfl (fun har => ?_) (fun har => ?_)
    · have har' : arO x0 ≠ r.length := by simpa using har
      rw [pl_arity har']
      refine H_seq ?_
      refine R0 ?_
      refine xV (e_build Tryz.underlying30 fl30 Tryz.zeroValue30 E.p0 rfl) rfl rfl ?_
      refine X_st (v := .agg _) rfl rfl Tryz.sizeOf30 ?_
      refine xV (e_as (v := .int _ _) (q0 rfl)) rfl rfl ?_
      refine XN ?_
      refine thenJ_normal ?_
      refine H_ret ?_
      refine thenJ_ret ?_
      exact ret_of rfl (resCt 1 rfl rfl rfl Tryz.isAgg30 Tryz.sizeOf30 rfl rfl) fun w' hw => ⟨rfl, hw.1⟩
    · have har' : arO x0 = r.length := by simpa using har
      obtain ⟨k, c, hck, hcw, hcl, hp⟩ := pl_find har'
      have hp := hp hjz
      refine H_skip ?_
      refine thenJ_normal ?_
      refine H_seq ?_
      refine R0 ?_
      refine X_eff (f_slit0 intC Tryz.underlying42 Tryz.sizeOf3 rfl fun A1 c1 => ?_)
      refine xV (e_as (v := .slice _ _ _) (q0 rfl)) rfl rfl ?_
      refine XN ?_
      refine thenJ_normal ?_
      refine H_seq ?_
      refine H_seq ?_
      refine R0 ?_
      refine xV (e_as (v := .int _ _) (q0 rfl)) rfl rfl ?_
      refine XN ?_
      refine thenJ_normal ?_
      refine H_block ?_
      refine H_loop [3, 6, 7, 8, 9, 34, 35, 36, 37, 38, 39, 40, 41, 42, 43, 44, 45, 46, 47, 48, 49, 50, 51, 52, 53, 54] (fun t : Nat × List Int × Option Addr × Nat => [(7, .int .i64 ((t.1 + 1 : Nat) : Int)), (6, .slice t.2.2.1 t.2.1.length t.2.2.2)]) (fun t => [rowT 3 1 intC t.2.2.1 t.2.2.2 t.2.1, rowT 9 1 strC (some ⟨pb, 0, none⟩) cp (x0 :: r), box b2 30 zAct]) (fun t => t.1 ≤ r.length ∧ t.2.1 = (r.take t.1).map nv ∧ (r.take t.1).all (fun x => (numL x).isSome) = true) (fun t => r.length - t.1) (0, [], A1, c1) ⟨rfl, rfl, trivial⟩ (fun w hw => hw) rfl ⟨Nat.zero_le _, rfl, rfl⟩ ?_
      rintro ⟨i, ns, A2, c2⟩ g2 ⟨hin, hns, hsm⟩
      have hin : i ≤ r.length := hin
      have hns : ns = (r.take i).map nv := hns
      have hsm : (r.take i).all (fun x => (numL x).isSome) = true := hsm
      have hnl : ns.length = i := by rw [hns, List.length_map, List.length_take]; omega
      refine H_seq ?_
      refine H_seq ?_
      refine R0 ?_
      refine xV (e_mv (v := .int _ _) (q0 rfl)) rfl rfl ?_
      refine xV (e_mv (v := .slice _ _ _) (q0 rfl)) rfl rfl ?_
      refine xV (e_len Tryz.underlying39 (q0 rfl)) rfl rfl ?_
      refine xV (e_lt (q0 rfl) (q0 rfl)) rfl rfl ?_
      refine XN ?_
      refine thenJ_normal ?_
      refine H_cond rfl (fun hlt => ?_) (fun hlt => ?_)
      · have hlt' : i < r.length := by simp only [decide_eq_true_eq, List.length_cons] at hlt; omega
        obtain ⟨y, hyj⟩ : ∃ y, r[i]? = some y := ⟨_, List.getElem?_eq_getElem hlt'⟩
        have hyj2 : (x0 :: r)[i + 1]? = some y := hyj
        have hs1 := snoc r i y hyj
        have hyz : y.size ≤ 1000 := by have := hwz y (List.mem_of_getElem? hyj2); omega
        refine H_skip ?_
        refine thenJ_normal ?_
        refine H_seq ?_
        refine H_block ?_
        refine H_seq ?_
        refine R0 ?_
        refine xV (e_mv (v := .slice _ _ _) (q0 rfl)) rfl rfl ?_
        refine xV (e_mv (v := .int _ _) (q0 rfl)) rfl rfl ?_
        refine xV (e_idx (i + 1) Tryz.underlying39 Tryz.sizeOf9 (q0 rfl) (q0 rfl) (fun _ => ⟨rfl, by simp only [List.length_cons]; omega⟩)) rfl rfl ?_
        refine xV (eL Tryz.isAgg9 (q0 rfl) (rr0 1 rfl hyj2 rfl)) rfl rfl ?_
        refine xC (en Tryz.call21 (ha2 (q0 rfl) (q0 rfl))) (fun _ w _ => rnum_w y w hyz) rfl rfl ?_
        refine xV (e_mv (q0 rfl)) rfl rfl ?_
        refine xV (e_ext (q0 rfl) rfl) rfl rfl ?_
        refine xV (e_ext (q0 rfl) rfl) rfl rfl ?_
        refine xV (e_as (v := .int _ _) (q0 rfl)) rfl rfl ?_
        refine xV (e_as (v := .int _ _) (q0 rfl)) rfl rfl ?_
        refine XN ?_
        refine thenJ_normal ?_
        refine H_seq ?_
        refine H_seq ?_
        refine R0 ?_
        refine xV (e_mv (v := .int _ _) (q0 rfl)) rfl rfl ?_
        refine xV (e_ne (q0 rfl) (q0 rfl)) rfl rfl ?_
        refine XN ?_
        refine thenJ_normal ?_
        refine H_cond rfl (fun hq => ?_) (fun hq => ?_)
        · have hq' : (numL y).isSome = false := by
            cases hb : (numL y).isSome with
            | false => rfl
            | true => rw [hb] at hq; simp at hq
          rw [hp, if_neg (fun h => by have := List.all_eq_true.1 h y (List.mem_of_getElem? hyj); rw [hq'] at this; cases this)]
          refine H_seq ?_
          refine R0 ?_
          refine xV (e_build Tryz.underlying30 fl30 Tryz.zeroValue30 E.p0 rfl) rfl rfl ?_
          refine X_st (v := .agg _) rfl rfl Tryz.sizeOf30 ?_
          refine xV (e_as (v := .int _ _) (q0 rfl)) rfl rfl ?_
          refine XN ?_
          refine thenJ_normal ?_
          refine H_ret ?_
          refine thenJ_ret ?_
          refine blockJ_ret ?_
          refine thenJ_ret ?_
          refine loopJ_ret ?_
          refine blockJ_ret ?_
          refine thenJ_ret ?_
          exact ret_of rfl (resCt 2 rfl rfl rfl Tryz.isAgg30 Tryz.sizeOf30 rfl rfl) fun w' hw => ⟨rfl, hw.1⟩
        · have hq' : (numL y).isSome = true := by
            cases hb : (numL y).isSome with
            | true => rfl
            | false => rw [hb] at hq; simp at hq
          refine H_skip ?_
          refine thenJ_normal ?_
          refine R0 ?_
          refine xV (e_mv (v := .slice _ _ _) (q0 rfl)) rfl rfl ?_
          refine xV (e_mv (v := .int _ _) (q0 rfl)) rfl rfl ?_
          refine X_push (k := 1) (i := Tryz.t3) 0 ((nv y)) Tryz.underlying42 (by kernel_rfl) rfl rfl rfl rfl Tryz.sizeOf3 Tryz.zeroValue3 rfl rfl rfl rfl rfl rfl ⟨by show ns.length + 1 ≤ 1000000; omega, by decide⟩ rfl rfl fun B A3 c3 => ?_
          refine xV (e_as (v := .slice _ _ _) (q0 rfl)) rfl rfl ?_
          refine XN ?_
          refine blockJ_normal ?_
          refine thenJ_normal ?_
          refine R0 ?_
          refine xV (e_mv (v := .int _ _) (q0 rfl)) rfl rfl ?_
          refine xV (e_add (q0 rfl) (q0 rfl) (fun _ => ⟨rfl, by omega, by omega⟩)) rfl rfl ?_
          refine xV (e_as (v := .int _ _) (q0 rfl)) rfl rfl ?_
          refine XN ?_
          exact loopJ_normal (i + 1, ns ++ [nv y], A3, c3) (by repeat (first | exact agree_self | exact agree_over | refine agree_upd rfl ?_ | refine agree_updL rfl ?_ | refine agree_over2 rfl ?_)) ⟨rfl, rfl, trivial⟩ (fun w hw => hw) rfl ⟨by show i + 1 ≤ r.length; omega, by show ns ++ [nv y] = (r.take (i + 1)).map nv; rw [hs1, List.map_append, ← hns]; rfl, by show (r.take (i + 1)).all _ = true; rw [hs1, List.all_append, hsm]; simp [hq']⟩ (by show r.length - (i + 1) < r.length - i; omega)
      · have hie : i = r.length := by simp only [decide_eq_false_iff_not, List.length_cons] at hlt; omega
        subst hie
        rw [List.take_length] at hns hsm
        rw [hp, if_pos hsm, ← hns]
        have hP : (puts c.offs ns (zs.set 0 c.kind)).length = 20 := by rw [puts_len]; rfl
        have hact : ∀ w0 w, Mem w0 [rowT 3 1 intC A2 c2 ns, rowT 9 1 strC (some ⟨pb, 0, none⟩) cp (x0 :: r), box b2 30 zAct] w → _ := fun w0 w hw => ract_w hck hcw.symm A2 c2 ns (hnl.trans hcl.symm) (L := [rowT 9 1 strC (some ⟨pb, 0, none⟩) cp (x0 :: r), box b2 30 zAct]) rfl hw
        generalize hPe : puts c.offs ns (zs.set 0 c.kind) = P at *
        have hPl : (P.map I64).length = 20 := by rw [List.length_map, hP]
        refine H_exit ?_
        refine thenJ_exit ?_
        refine loopJ_exit ?_
        refine blockJ_hit ?_
        refine thenJ_normal ?_
        refine H_seq ?_
        refine R0 ?_
        refine xV (e_mv (v := .slice _ _ _) (q0 rfl)) rfl rfl ?_
        refine xV (e_idx 0 Tryz.underlying39 Tryz.sizeOf9 (q0 rfl) (q0 rfl) (fun _ => ⟨rfl, by simp⟩)) rfl rfl ?_
        refine xV (eL Tryz.isAgg9 (q0 rfl) (rr0 (i := 0) 1 rfl rfl rfl)) rfl rfl ?_
        refine xV (e_mv (v := .slice _ _ _) (q0 rfl)) rfl rfl ?_
        refine X_eff (f_callM (en Tryz.call22 (ha2 (q0 rfl) (q0 rfl))) (fun w hw => hact _ w hw) rfl (fun _ => rfl) fun u => ?_)
        refine X_store (v := .agg (P.map I64).toArray) 2 rfl rfl Tryz.sizeOf30 (by simp [Value.cells, hP]) (one_map _) rfl (by rw [cells_map, hPl]; rfl) ?_; refine XL_all hP 2 rfl ?_
        refine xV (e_as (v := .int _ _) (q0 rfl)) rfl rfl ?_
        refine XN ?_
        refine thenJ_normal ?_
        refine H_ret ?_
        exact ret_of rfl (resCt 2 rfl rfl rfl Tryz.isAgg30 Tryz.sizeOf30 rfl hPl) fun w' hw => ⟨rfl, hw.1⟩
set_option maxRecDepth 20000 in
set_option maxHeartbeats 1000000 in
theorem parsesLaw_w (line : ByteArray) (w : World) (hl : Lw w) : Calls Tryz.prog 3 #[.string line] w fun e w' => e = .returned (.bool true) ∧ Blw w w' := by
  refine H_enterP0 Tryz.func3 rfl Tryz.ntmps3 rfl ?_
  refine H_seq ?_
  refine R0 ?_
  refine xV (e_as (v := .bool _) (q0 rfl)) rfl rfl ?_
  refine XN ?_
  refine thenJ_normal ?_
  refine H_seq ?_
  refine H_seq ?_
  refine R0 ?_
  refine xV (e_mv (v := .string _) (q0 rfl)) rfl rfl ?_
  refine xV (e_lenStr Tryz.underlying9 (q0 rfl)) rfl rfl ?_
  refine xV (e_gt (q0 rfl) (q0 rfl)) rfl rfl ?_
  refine XN ?_
  refine thenJ_normal ?_
  refine H_cond rfl (fun hg => ?_) (fun hg => ?_)
  · refine H_seq ?_
    refine R0 ?_
    refine xC0 rfl (en Tryz.call6 (ha0)) (fun w hw => O.awake_w w (hl.und.mem hw)) rfl rfl ?_
    refine xV (e_as (v := .bool _) (q0 rfl)) rfl rfl ?_
    refine XN ?_
    refine thenJ_normal ?_
    refine H_ret ?_
    refine thenJ_ret ?_
    exact retP_of rfl (res1 (v := .bool _) rfl rfl) fun w' hw => ⟨rfl, blw_of hw⟩
  · have hsz : line.size ≤ 400 := by simp at hg; omega
    have hpl := parse_len line
    have h1 : ∀ w, Lw w → Calls Tryz.prog 7 #[.string line] w fun e w' => e = .returned (.tuple #[.agg ((parseS line).1.map I64).toArray, .int .i64 (parseS line).2]) ∧ Blw w w' := fun w hw => parseS_w line w hw (by omega)
    have h2 : ∀ w, Calls Tryz.prog 8 #[.string line] w fun e w' => e = .returned (.tuple #[.agg ((parseS line).1.map I64).toArray, .int .i64 (parseS line).2]) ∧ Bel w w' := fun w => rparse_w line w (by omega)
    generalize hP : parseS line = P at *
    obtain ⟨b, e⟩ := P
    have hpl : b.length = 20 := hpl
    have hbl : (b.map I64).length = 20 := by rw [List.length_map, hpl]
    refine H_skip ?_
    refine thenJ_normal ?_
    refine H_seq ?_
    refine R0 ?_
    refine xV (e_mv (v := .string _) (q0 rfl)) rfl rfl ?_
    refine xC0 rfl (en Tryz.call7 (ha1 (q0 rfl))) (fun w hw => h1 w (hl.und.mem hw)) rfl rfl ?_
    refine xV (e_mv (q0 rfl)) rfl rfl ?_
    refine xV (e_ext (q0 rfl) rfl) rfl rfl ?_
    refine xV (e_ext (q0 rfl) rfl) rfl rfl ?_
    refine X_alloc Tryz.zeroValue30 rfl fun b3 => ?_
    refine X_store (v := .agg (b.map I64).toArray) 0 rfl rfl Tryz.sizeOf30 (by simp [Value.cells, hpl]) (one_map _) rfl (by rw [cells_map, hbl]; rfl) ?_; refine XL_all hpl 0 rfl ?_
    refine xV (e_as (v := .int _ _) (q0 rfl)) rfl rfl ?_
    refine XN ?_
    refine thenJ_normal ?_
    refine H_seq ?_
    refine R0 ?_
    refine xV (e_mv (v := .string _) (q0 rfl)) rfl rfl ?_
    refine xC (en Tryz.call8 (ha1 (q0 rfl))) (fun _ w _ => h2 w) rfl rfl ?_
    refine xV (e_mv (q0 rfl)) rfl rfl ?_
    refine xV (e_ext (q0 rfl) rfl) rfl rfl ?_
    refine xV (e_ext (q0 rfl) rfl) rfl rfl ?_
    refine X_alloc Tryz.zeroValue30 rfl fun b5 => ?_
    refine X_store (v := .agg (b.map I64).toArray) 0 rfl rfl Tryz.sizeOf30 (by simp [Value.cells, hpl]) (one_map _) rfl (by rw [cells_map, hbl]; rfl) ?_; refine XL_all hpl 0 rfl ?_
    refine xV (e_as (v := .int _ _) (q0 rfl)) rfl rfl ?_
    refine XN ?_
    refine thenJ_normal ?_
    refine H_seq ?_
    refine R0 ?_
    refine xV (eS Tryz.isAgg30 Tryz.sizeOf30 (q0 rfl) (bxs 1 rfl) (hl := hbl)) rfl rfl ?_
    refine xV (eS Tryz.isAgg30 Tryz.sizeOf30 (q0 rfl) (bxs 0 rfl) (hl := hbl)) rfl rfl ?_
    refine xV (e_eqS (act_eq b b hpl hpl) act_gd (q0 rfl) (q0 rfl)) rfl rfl ?_
    refine xV (e_mv (v := .bool _) (q0 rfl)) rfl rfl ?_
    refine xVT (e_mv (v := .int _ _) (q0 rfl)) rfl rfl rfl rfl ?_
    refine xVT (e_mv (v := .int _ _) (q0 rfl)) rfl rfl rfl rfl ?_
    refine xVT (e_eq (q1 rfl) (q1 rfl)) rfl rfl rfl rfl ?_
    refine xV (e_and (q0 rfl) rfl (fun h => by first | rfl | (rw [h]; rfl))) rfl rfl ?_
    refine xV (e_mv (v := .bool _) (q0 rfl)) rfl rfl ?_
    refine xCT0 rfl (en Tryz.call6 ha0) (fun _ w hw => O.awake_w w (hl.und.mem hw)) rfl rfl rfl rfl ?_
    refine xV (e_and (q0 rfl) rfl (fun h => by first | rfl | (rw [h]; rfl))) rfl rfl ?_
    refine xV (e_as (v := .bool _) (q0 rfl)) rfl rfl ?_
    refine XN ?_
    refine thenJ_normal ?_
    refine H_ret ?_
    exact retP_of rfl (res1 (v := .bool _) rfl rfl) fun w' hw => ⟨by simp, blw_of hw⟩
end Go.Proofs.Con
