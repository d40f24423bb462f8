import Derived.Test.YticakimgoedknaaGreatSysC
import Derived.Test.YticakimgoedknaaGreatSysEb
import Derived.Lib.AppendZerosOnto
import Derived.Test.YticakimgoedknaaGreatSysP
set_option linter.unusedVariables false
set_option linter.unusedSimpArgs false
/-
  Plain functions: versions of the tariff, passes, limits of the day (no program in sight).
-/
namespace Go.Proofs.Far

/-! versions -/
structure Tf where
  from_ : Int
  unlock : Int
  step : Int
  free : Int
  price : Int
  pause : Int
deriving DecidableEq, Inhabited
def inI (n lo hi : Int) : Bool := decide (lo ≤ n) && decide (n ≤ hi)
def tfOk (t : Tf) : Bool := ((((inI t.from_ 0 4294943999 && inI t.unlock 0 1000000) && inI t.price 0 1000000) && inI t.pause 0 1000000) && inI t.step 1 86400) && inI t.free 0 86400
def tfOrd : Option Tf → Tf → Bool
  | none, t => decide (t.from_ ≠ 0)
  | some q, t => decide (t.from_ ≤ q.from_)
/-- the error of the versions from one on; p is the version before it -/
def tfErrL : Option Tf → List Tf → Int
  | _, [] => 0
  | p, t :: l =>
    if tfOk t = false then 1
    else if tfOrd p t = true then 9
    else tfErrL (some t) l
def tfErr (l : List Tf) : Int := if l.length = 0 then 10 else if 8 < l.length then 8 else tfErrL none l
/-- the last version that has begun -/
def atL (t : Int) : Nat → Nat → List Tf → Nat
  | a, _, [] => a
  | a, k, x :: l => atL t (if x.from_ ≤ t then k else a) (k + 1) l
def atP (l : List Tf) (t : Int) : Nat := atL t 0 0 l
def stepsP (t : Tf) (secs : Int) : Int := (max secs 0 + t.step - 1) / t.step
def ridP (t : Tf) (secs : Int) : Int := t.price * stepsP t (secs - t.free)
def pauP (t : Tf) (secs : Int) : Int := t.pause * stepsP t secs
def money (n : Int) : Int × Int := if 1000000000000 < n then (0, 2) else (n, 0)
theorem inI_iff {n lo hi : Int} : inI n lo hi = true ↔ lo ≤ n ∧ n ≤ hi := by unfold inI; simp
theorem tfOk_iff {t : Tf} : tfOk t = true ↔ (0 ≤ t.from_ ∧ t.from_ ≤ 4294943999) ∧ (0 ≤ t.unlock ∧ t.unlock ≤ 1000000) ∧ (0 ≤ t.price ∧ t.price ≤ 1000000) ∧ (0 ≤ t.pause ∧ t.pause ≤ 1000000) ∧ (1 ≤ t.step ∧ t.step ≤ 86400) ∧ (0 ≤ t.free ∧ t.free ≤ 86400) := by
  unfold tfOk
  simp only [Bool.and_eq_true, inI_iff, and_assoc]
theorem steps_le {t : Tf} (h : 1 ≤ t.step ∧ t.step ≤ 86400) {s : Int} (hs : s ≤ 4294944000) : 0 ≤ stepsP t s ∧ stepsP t s ≤ 4294944000 := by
  unfold stepsP
  have h0 : 0 ≤ max s 0 := by omega
  have h1 : max s 0 ≤ 4294944000 := by omega
  constructor
  · exact Int.ediv_nonneg (by omega) (by omega)
  · have hq : (max s 0 + t.step - 1) / t.step ≤ max s 0 := by
      rw [Int.ediv_le_iff_le_mul (by omega)]
      have : max s 0 * 1 ≤ max s 0 * t.step := Int.mul_le_mul_of_nonneg_left h.1 h0
      have : max s 0 * t.step + (t.step - 1) ≥ max s 0 + t.step - 1 := by omega
      omega
    omega
/-- the version before the k-th -/
def tfPre (l : List Tf) : Nat → Option Tf
  | 0 => none
  | k + 1 => l[k]?
theorem tfErrL_step {l : List Tf} {k : Nat} {t : Tf} (h : l[k]? = some t) (h0 : tfOk t = true) (h1 : tfOrd (tfPre l k) t = false) : tfErrL (tfPre l k) (l.drop k) = tfErrL (tfPre l (k + 1)) (l.drop (k + 1)) := by
  obtain ⟨hk, e⟩ := List.getElem?_eq_some_iff.1 h
  rw [List.drop_eq_getElem_cons hk, e]
  show tfErrL _ (t :: _) = tfErrL (l[k]?) _
  rw [h]
  conv => lhs; unfold tfErrL
  rw [if_neg (by rw [h0]; decide), if_neg (by rw [h1]; decide)]
theorem tfErrL_bad {l : List Tf} {k : Nat} {t : Tf} (h : l[k]? = some t) (h0 : tfOk t = false) : tfErrL (tfPre l k) (l.drop k) = 1 := by
  obtain ⟨hk, e⟩ := List.getElem?_eq_some_iff.1 h
  rw [List.drop_eq_getElem_cons hk, e]
  unfold tfErrL
  rw [if_pos h0]
theorem tfErrL_ord {l : List Tf} {k : Nat} {t : Tf} (h : l[k]? = some t) (h0 : tfOk t = true) (h1 : tfOrd (tfPre l k) t = true) : tfErrL (tfPre l k) (l.drop k) = 9 := by
  obtain ⟨hk, e⟩ := List.getElem?_eq_some_iff.1 h
  rw [List.drop_eq_getElem_cons hk, e]
  unfold tfErrL
  rw [if_neg (by rw [h0]; decide), if_pos h1]
theorem tfErrL_ok : ∀ {l : List Tf} {p : Option Tf}, tfErrL p l = 0 → ∀ t ∈ l, tfOk t = true
  | [], _, _, t, ht => by cases ht
  | x :: l, p, h, t, ht => by
    unfold tfErrL at h
    split at h
    · cases h
    · rename_i h1
      split at h
      · cases h
      · rcases List.mem_cons.1 ht with rfl | ht
        · simpa using h1
        · exact tfErrL_ok h t ht
theorem tfErr_ok {l : List Tf} (h : tfErr l = 0) : 0 < l.length ∧ l.length ≤ 8 ∧ ∀ t ∈ l, tfOk t = true := by
  unfold tfErr at h
  split at h
  · cases h
  · split at h
    · cases h
    · exact ⟨by omega, by omega, tfErrL_ok h⟩
theorem atL_lt (t : Int) : ∀ (l : List Tf) (a k : Nat), a < k + l.length → 0 < l.length ∨ a < k → atL t a k l < k + l.length
  | [], a, k, h, _ => h
  | x :: l, a, k, h, h2 => by
    unfold atL
    rw [List.length_cons] at h ⊢
    have := atL_lt t l (if x.from_ ≤ t then k else a) (k + 1) (by split <;> omega) (by
      by_cases hl : 0 < l.length
      · exact .inl hl
      · right
        split
        · omega
        · omega)
    omega
theorem atP_lt {l : List Tf} (h : 0 < l.length) (t : Int) : atP l t < l.length := by
  have := atL_lt t l 0 0 (by omega) (.inl h)
  unfold atP
  omega

end Go.Proofs.Far

/-
  Plain functions: passes and the rides that they pay; what is paid of a day's amounts (no program in sight).
-/
namespace Go.Proofs.Far

structure Pas where
  id : Int
  rider : Int
  from_ : Int
  to_ : Int
  perDay : Int
  secs : Int
deriving DecidableEq, Inhabited
def pasBad1 (p : Pas) : Bool := ((!inI p.id 1 1000000 || !inI p.rider 0 127) || !inI p.perDay 1 256) || !inI p.secs 0 86400
def pasBad2 (p : Pas) : Bool := (decide (p.from_ < 0) || decide (p.to_ ≤ p.from_)) || decide (49710 < p.to_)
def pasBad (p : Pas) : Bool := pasBad1 p || pasBad2 p
/-- is a number in the list, but for the first time -/
def twiceI : List Int → List Int → Bool
  | _, [] => false
  | seen, x :: l => seen.any (fun y => y == x) || twiceI (seen ++ [x]) l
def pasErr (l : List Pas) : Int := if 64 < l.length then 8 else if l.any pasBad = true then 1 else if twiceI [] (l.map (·.id)) = true then 6 else 0

/-! what pays a ride: the rides in their order, each with its rider and its day -/
structure Rq where
  rider : Int
  day : Int
deriving DecidableEq, Inhabited
def validP (p : Pas) (q : Rq) : Bool := decide (p.rider = q.rider) && (decide (p.from_ ≤ q.day) && decide (q.day < p.to_))
/-- used: the passes that have paid, with the day -/
def paidN (used : List (Int × Int)) (k d : Int) : Nat := used.countP fun u => u.1 == k && u.2 == d
def pickP (l : List Pas) (used : List (Int × Int)) (q : Rq) : Int :=
  match (List.range l.length).find? fun k => validP (l.getD k default) q && decide ((paidN used k q.day : Int) < (l.getD k default).perDay) with
  | none => -1
  | some k => k
def useStep (l : List Pas) (s : List Int × List (Int × Int)) (q : Rq) : List Int × List (Int × Int) :=
  (s.1 ++ [pickP l s.2 q], if 0 ≤ pickP l s.2 q then s.2 ++ [(pickP l s.2 q, q.day)] else s.2)
def useS (l : List Pas) (qs : List Rq) : List Int × List (Int × Int) := qs.foldl (useStep l) ([], [])
theorem pick_range (l : List Pas) (used : List (Int × Int)) (q : Rq) : -1 ≤ pickP l used q ∧ pickP l used q < l.length := by
  unfold pickP
  cases h : (List.range l.length).find? fun k => validP (l.getD k default) q && decide ((paidN used k q.day : Int) < (l.getD k default).perDay) with
  | none => simp only; omega
  | some k =>
    have := List.mem_range.1 (List.mem_of_find?_eq_some h)
    simp only; omega
theorem useS_fst : ∀ (l : List Pas) (qs : List Rq) (s : List Int × List (Int × Int)), (qs.foldl (useStep l) s).1.length = s.1.length + qs.length
  | _, [], s => by simp
  | l, q :: qs, s => by
    rw [List.foldl_cons, useS_fst l qs]
    unfold useStep
    simp only [List.length_append, List.length_cons, List.length_nil]
    omega

/-! what is paid of the amounts of a day -/
structure Dy where
  rider : Int
  day : Int
  amount : Int
deriving DecidableEq, Inhabited
def dyBad (x : Dy) : Bool := (!inI x.rider 0 127 || !inI x.day 0 49709) || !inI x.amount 0 1000000000000
def sumD (l : List (Dy × Int)) (r d : Int) : Int := ((l.filter fun x => x.1.rider == r && x.1.day == d).map (·.2)).sum
def payD (limit : Int) (l : List (Dy × Int)) (x : Dy) : Int := if 0 < limit then min x.amount (limit - sumD l x.rider x.day) else x.amount
def dayS (limit : Int) (xs : List Dy) : List (Dy × Int) := xs.foldl (fun l x => l ++ [(x, payD limit l x)]) []
def dyErr (limit : Int) (xs : List Dy) : Int := if inI limit 0 1000000000000 = false then 1 else if 256 < xs.length then 8 else if xs.any dyBad = true then 1 else 0
theorem day_fold_len (limit : Int) : ∀ (xs : List Dy) (l : List (Dy × Int)), (xs.foldl (fun l x => l ++ [(x, payD limit l x)]) l).length = l.length + xs.length
  | [], l => by simp
  | x :: xs, l => by
    rw [List.foldl_cons, day_fold_len limit xs, List.length_append]
    simp only [List.length_cons, List.length_nil]
    omega

end Go.Proofs.Far

/-
  The walks: versions of the tariff, checked (the program's way).
-/
namespace Go.Proofs.Far
open Go Go.RowKit Go.Proofs.E

def Tf.cells (t : Tf) : List Value := [.int .i64 t.from_, .int .i64 t.unlock, .int .i64 t.step, .int .i64 t.free, .int .i64 t.price, .int .i64 t.pause]
abbrev TfsAt (w : World) (A : Option Addr) (n : Nat) (ts : List Tf) : Prop := SlAt w 6 Tf.cells A n ts
theorem fl140 {fs : Array Field} (h : Tryz.prog.underlying 140 = some (.struct fs) := by exact Tryz.underlying140) : FieldsLie Tryz.prog fs [(0, 1), (1, 1), (2, 1), (3, 1), (4, 1), (5, 1)] := by
  rw [Tryz.underlying140] at h
  cases h
  intro w
  kernel_rfl
theorem fl238 {fs : Array Field} (h : Tryz.prog.underlying 238 = some (.struct fs) := by exact Tryz.underlying238) : FieldsLie Tryz.prog fs [(0, 1), (1, 1), (2, 1), (3, 1), (4, 1), (5, 1)] := by
  rw [Tryz.underlying238] at h
  cases h
  intro w
  kernel_rfl
theorem tin_w (n lo hi : Int) (w : World) : Calls Tryz.prog 149 #[.int .i64 n, .int .i64 lo, .int .i64 hi] w fun e w' => e = .returned (.bool (inI n lo hi)) ∧ Bel w w' := by
  refine H_enter Tryz.func149 rfl Tryz.ntmps149 rfl ?_
  refine H_seq ?_
  refine R0 ?_
  refine xV (e_as (v := .bool _) (q0 rfl)) rfl rfl ?_
  refine XN ?_
  refine thenJ_normal ?_
  refine H_seq ?_
  refine R0 ?_
  refine xV (e_mv (v := .int _ _) (q0 rfl)) rfl rfl ?_
  refine xV (e_mv (v := .int _ _) (q0 rfl)) rfl rfl ?_
  refine xV (e_ge (q0 rfl) (q0 rfl)) rfl rfl ?_
  refine xV (e_mv (v := .bool _) (q0 rfl)) rfl rfl ?_
  refine xVT (e_mv (v := .int _ _) (q0 rfl)) rfl rfl rfl rfl ?_
  refine xVT (e_mv (v := .int _ _) (q0 rfl)) rfl rfl rfl rfl ?_
  refine xVT (e_le (q1 rfl) (q1 rfl)) rfl rfl rfl rfl ?_
  refine xV (e_and (q0 rfl) rfl (fun h => by first | rfl | (rw [h]; rfl))) rfl rfl ?_
  refine xV (e_as (v := .bool _) (q0 rfl)) rfl rfl ?_
  refine XN ?_
  refine thenJ_normal ?_
  refine H_ret ?_
  exact ret1 (v := .bool _) rfl rfl rfl fun w' hw => ⟨rfl, hw.1⟩
theorem tranged_w (t : Tf) (w : World) : Calls Tryz.prog 111 #[.agg t.cells.toArray] w fun e w' => e = .returned (.bool (tfOk t)) ∧ Bel w w' := by
  refine H_enter Tryz.func111 rfl Tryz.ntmps111 rfl ?_
  refine H_seq ?_
  refine R0 ?_
  refine X_box (v := .agg _) rfl rfl fun b1 => ?_
  refine xV (e_as (v := .bool _) (q0 rfl)) rfl rfl ?_
  refine XN ?_
  refine thenJ_normal ?_
  refine H_seq ?_
  refine R0 ?_
  refine xV (e_as (q0 rfl)) rfl rfl ?_
  refine XN ?_
  refine thenJ_normal ?_
  refine H_seq ?_
  refine R0 ?_
  refine xV (e_mv (q0 rfl)) rfl rfl ?_
  refine xV (e_fld Tryz.underlying238 rfl Tryz.sizeOf3 rfl (q0 rfl)) rfl rfl ?_
  refine xV (eL Tryz.isAgg3 (q0 rfl)) rfl rfl ?_
  refine xC (enV (cap := []) (al := [.int .i64 t.from_, .int .i64 0, .int .i64 4294943999]) Tryz.call149 (q0 rfl) (fun _ => rfl)) (fun _ w _ => tin_w t.from_ 0 4294943999 w) rfl rfl ?_
  refine xV (e_mv (v := .bool _) (q0 rfl)) rfl rfl ?_
  refine xVT (e_mv (q0 rfl)) rfl rfl rfl rfl ?_
  refine xVT (e_fld Tryz.underlying238 rfl Tryz.sizeOf3 rfl (q0 rfl)) rfl rfl rfl rfl ?_
  refine xVT (eL Tryz.isAgg3 (q1 rfl)) rfl rfl rfl rfl ?_
  refine xCT (enV (cap := []) (al := [.int .i64 t.unlock, .int .i64 0, .int .i64 1000000]) Tryz.call149 (q1 rfl) (fun hg => by rw [ha3 (q1 (v := .int _ _) rfl) (q0 rfl) (q0 rfl) hg]; rfl)) (fun _ w _ => tin_w t.unlock 0 1000000 w) rfl rfl rfl rfl ?_
  refine xV (e_and (q0 rfl) rfl (fun h => by first | rfl | (rw [h]; rfl))) rfl rfl ?_
  refine xV (e_mv (v := .bool _) (q0 rfl)) rfl rfl ?_
  refine xVT (e_mv (q0 rfl)) rfl rfl rfl rfl ?_
  refine xVT (e_fld Tryz.underlying238 rfl Tryz.sizeOf3 rfl (q0 rfl)) rfl rfl rfl rfl ?_
  refine xVT (eL Tryz.isAgg3 (q1 rfl)) rfl rfl rfl rfl ?_
  refine xCT (enV (cap := []) (al := [.int .i64 t.price, .int .i64 0, .int .i64 1000000]) Tryz.call149 (q1 rfl) (fun hg => by rw [ha3 (q1 (v := .int _ _) rfl) (q0 rfl) (q0 rfl) hg]; rfl)) (fun _ w _ => tin_w t.price 0 1000000 w) rfl rfl rfl rfl ?_
  refine xV (e_and (q0 rfl) rfl (fun h => by first | rfl | (rw [h]; rfl))) rfl rfl ?_
  refine xV (e_mv (v := .bool _) (q0 rfl)) rfl rfl ?_
  refine xVT (e_mv (q0 rfl)) rfl rfl rfl rfl ?_
  refine xVT (e_fld Tryz.underlying238 rfl Tryz.sizeOf3 rfl (q0 rfl)) rfl rfl rfl rfl ?_
  refine xVT (eL Tryz.isAgg3 (q1 rfl)) rfl rfl rfl rfl ?_
  refine xCT (enV (cap := []) (al := [.int .i64 t.pause, .int .i64 0, .int .i64 1000000]) Tryz.call149 (q1 rfl) (fun hg => by rw [ha3 (q1 (v := .int _ _) rfl) (q0 rfl) (q0 rfl) hg]; rfl)) (fun _ w _ => tin_w t.pause 0 1000000 w) rfl rfl rfl rfl ?_
  refine xV (e_and (q0 rfl) rfl (fun h => by first | rfl | (rw [h]; rfl))) rfl rfl ?_
  refine xV (e_mv (v := .bool _) (q0 rfl)) rfl rfl ?_
  refine xVT (e_mv (q0 rfl)) rfl rfl rfl rfl ?_
  refine xVT (e_fld Tryz.underlying238 rfl Tryz.sizeOf3 rfl (q0 rfl)) rfl rfl rfl rfl ?_
  refine xVT (eL Tryz.isAgg3 (q1 rfl)) rfl rfl rfl rfl ?_
  refine xCT (enV (cap := []) (al := [.int .i64 t.step, .int .i64 1, .int .i64 86400]) Tryz.call149 (q1 rfl) (fun hg => by rw [ha3 (q1 (v := .int _ _) rfl) (q0 rfl) (q0 rfl) hg]; rfl)) (fun _ w _ => tin_w t.step 1 86400 w) rfl rfl rfl rfl ?_
  refine xV (e_and (q0 rfl) rfl (fun h => by first | rfl | (rw [h]; rfl))) rfl rfl ?_
  refine xV (e_mv (v := .bool _) (q0 rfl)) rfl rfl ?_
  refine xVT (e_mv (q0 rfl)) rfl rfl rfl rfl ?_
  refine xVT (e_fld Tryz.underlying238 rfl Tryz.sizeOf3 rfl (q0 rfl)) rfl rfl rfl rfl ?_
  refine xVT (eL Tryz.isAgg3 (q1 rfl)) rfl rfl rfl rfl ?_
  refine xCT (enV (cap := []) (al := [.int .i64 t.free, .int .i64 0, .int .i64 86400]) Tryz.call149 (q1 rfl) (fun hg => by rw [ha3 (q1 (v := .int _ _) rfl) (q0 rfl) (q0 rfl) hg]; rfl)) (fun _ w _ => tin_w t.free 0 86400 w) rfl rfl rfl rfl ?_
  refine xV (e_and (q0 rfl) rfl (fun h => by first | rfl | (rw [h]; rfl))) rfl rfl ?_
  refine xV (e_as (v := .bool _) (q0 rfl)) rfl rfl ?_
  refine XN ?_
  refine thenJ_normal ?_
  refine H_ret ?_
  exact ret1 (v := .bool _) rfl rfl rfl fun w' hw => ⟨rfl, hw.1⟩
attribute [local irreducible] tfOk
set_option maxRecDepth 20000 in
theorem tcheck_w (A : Option Addr) (n c : Nat) (ts : List Tf) (w : World) (hx : TfsAt w A n ts) : Calls Tryz.prog 74 #[.slice A n c] w fun e w' => e = .returned (.int .i64 (tfErr ts)) ∧ Bel w w' := by
  have hl := hx.1
  have hn := hx.2.1
  refine H_enter Tryz.func74 rfl Tryz.ntmps74 rfl ?_
  refine H_seq ?_
  refine R0 ?_
  refine xV (e_as (v := .int _ _) (q0 rfl)) rfl rfl ?_
  refine XN ?_
  refine thenJ_normal ?_
  refine H_seq ?_
  refine H_block ?_
  refine H_seq ?_
  refine R0 ?_
  refine xV (e_mv (v := .slice _ _ _) (q0 rfl)) rfl rfl ?_
  refine xV (e_len Tryz.underlying25 (q0 rfl)) rfl rfl ?_
  refine xV (e_eq (q0 rfl) (q0 rfl)) rfl rfl ?_
  refine xV (e_as (v := .bool _) (q0 rfl)) rfl rfl ?_
  refine XN ?_
  refine thenJ_normal ?_
  refine H_cond rfl (fun h1 => ?_) (fun h1 => ?_)
  · have h1' : tfErr ts = 10 := by unfold tfErr; rw [if_pos (by simp at h1; omega)]
    refine H_seq ?_
    refine R0 ?_
    refine xV (e_as (v := .int _ _) (q0 rfl)) rfl rfl ?_
    refine XN ?_
    refine thenJ_normal ?_
    refine H_ret ?_
    refine blockJ_ret ?_
    refine thenJ_ret ?_
    exact ret1 (v := .int _ _) rfl rfl rfl fun w' hw => ⟨ret_int h1'.symm, hw.1⟩
  · refine H_seq ?_
    refine R0 ?_
    refine xV (e_mv (v := .slice _ _ _) (q0 rfl)) rfl rfl ?_
    refine xV (e_len Tryz.underlying25 (q0 rfl)) rfl rfl ?_
    refine xV (e_gt (q0 rfl) (q0 rfl)) rfl rfl ?_
    refine xV (e_as (v := .bool _) (q0 rfl)) rfl rfl ?_
    refine XN ?_
    refine thenJ_normal ?_
    refine H_cond rfl (fun h2 => ?_) (fun h2 => ?_)
    · have h2' : tfErr ts = 8 := by unfold tfErr; rw [if_neg (by simp at h1; omega), if_pos (by simp at h2; omega)]
      refine H_seq ?_
      refine R0 ?_
      refine xV (e_as (v := .int _ _) (q0 rfl)) rfl rfl ?_
      refine XN ?_
      refine thenJ_normal ?_
      refine H_ret ?_
      refine blockJ_ret ?_
      refine thenJ_ret ?_
      exact ret1 (v := .int _ _) rfl rfl rfl fun w' hw => ⟨ret_int h2'.symm, hw.1⟩
    · have h2' : tfErr ts = tfErrL (tfPre ts 0) (ts.drop 0) := by unfold tfErr; rw [if_neg (by simp at h1; omega), if_neg (by simp at h2; omega)]; rfl
      rw [h2']
      clear h2'
      refine H_skip ?_
      refine blockJ_normal ?_
      refine thenJ_normal ?_
      refine H_seq ?_
      refine H_seq ?_
      refine R0 ?_
      refine xV (e_mv (v := .slice _ _ _) (q0 rfl)) rfl rfl ?_
      refine xV (e_len Tryz.underlying25 (q0 rfl)) rfl rfl ?_
      refine xV (e_mv (v := .int _ _) (q0 rfl)) rfl rfl ?_
      refine XN ?_
      refine thenJ_normal ?_
      refine H_block ?_
      refine H_loop [2, 3, 4, 15, 16, 17, 18, 19, 20, 21, 22, 23, 24, 25, 26, 27, 28, 29, 30, 31, 32, 33, 34, 35, 36, 37, 38, 39, 40, 41, 42, 43, 44, 45] (fun k : Nat => [(15, .int .i64 k)]) (fun _ => []) (fun k => k ≤ n ∧ tfErrL (tfPre ts 0) (ts.drop 0) = tfErrL (tfPre ts k) (ts.drop k)) (fun k => n - k) 0 ⟨rfl, trivial⟩ (fun w hw => hw) rfl ⟨Nat.zero_le _, rfl⟩ ?_
      rintro k g ⟨hk, hall⟩
      refine H_seq ?_
      refine R0 ?_
      refine xV (e_lt (q0 rfl) (q0 rfl)) rfl rfl ?_
      refine XN ?_
      refine thenJ_normal ?_
      refine H_seq ?_
      refine H_cond rfl (fun hlt => ?_) (fun hlt => ?_)
      · have hlt' : k < n := by simpa using hlt
        obtain ⟨b, off, t, rfl, hbl, ht, hrt⟩ := hx.at_ hlt'
        refine H_skip ?_
        refine thenJ_normal ?_
        refine H_seq ?_
        refine H_block ?_
        refine H_seq ?_
        refine R0 ?_
        refine xV (e_mv (v := .int _ _) (q0 rfl)) rfl rfl ?_
        refine xV (e_idx _ Tryz.underlying25 Tryz.sizeOf140 (q0 rfl) (q0 rfl) (fun _ => ⟨rfl, by omega⟩)) rfl rfl ?_
        refine xV (eS Tryz.isAgg140 Tryz.sizeOf140 (q0 rfl)) rfl rfl ?_
        refine X_alloc Tryz.zeroValue140 rfl fun b4 => ?_
        refine xV (e_as (v := .int _ _) (q0 rfl)) rfl rfl ?_
        refine X_st (v := .agg _) rfl rfl Tryz.sizeOf140 ?_
        refine XN ?_
        refine thenJ_normal ?_
        refine H_seq ?_
        refine H_seq ?_
        refine R0 ?_
        refine xV (eS Tryz.isAgg140 Tryz.sizeOf140 (q0 rfl)) rfl rfl ?_
        refine xC (en Tryz.call111 (ha1 (q0 rfl))) (fun _ w _ => tranged_w t w) rfl rfl ?_
        refine xV (e_not (q0 rfl)) rfl rfl ?_
        refine XN ?_
        refine thenJ_normal ?_
        refine H_cond rfl (fun hb => ?_) (fun hb => ?_)
        · have hb' : tfOk t = false := by simpa using hb
          refine H_seq ?_
          refine R0 ?_
          refine xV (e_as (v := .int _ _) (q0 rfl)) rfl rfl ?_
          refine XN ?_
          refine thenJ_normal ?_
          refine H_ret ?_
          refine thenJ_ret ?_
          refine blockJ_ret ?_
          refine thenJ_ret ?_
          refine loopJ_ret ?_
          refine blockJ_ret ?_
          refine thenJ_ret ?_
          exact ret1 (v := .int _ _) rfl rfl rfl fun w' hw => ⟨ret_int (by rw [hall, tfErrL_bad ht hb']), hw.1⟩
        · have hb' : tfOk t = true := by simpa using hb
          refine H_skip ?_
          refine thenJ_normal ?_
          refine H_seq ?_
          refine H_cut [23, 24, 25, 26, 27, 28, 29, 30, 31, 32, 33, 34, 35, 36, 37, 38, 39, 40, 41, 42, 43, 44] (fun o : Bool => [(44, .bool o)]) (fun _ => [box b4 140 t.cells]) (fun o => o = tfOrd (tfPre ts k) t) ?_ ?_
          · rcases Nat.eq_zero_or_pos k with h00 | h00
            · subst h00
              refine R1 rfl (by decide +kernel) ?_
              refine xV (e_mv (v := .int _ _) (q0 rfl)) rfl rfl ?_
              refine xV (e_eq (q0 rfl) (q0 rfl)) rfl rfl ?_
              refine xV (e_mv (v := .bool _) (q0 rfl)) rfl rfl ?_
              refine xVT (e_fld Tryz.underlying140 rfl Tryz.sizeOf3 rfl (q0 rfl)) rfl rfl rfl rfl ?_
              refine xVT (eL Tryz.isAgg3 (q1 rfl)) rfl rfl rfl rfl ?_
              refine xVT (e_ne (q1 rfl) (q0 rfl)) rfl rfl rfl rfl ?_
              refine xV (e_and (q0 rfl) rfl (fun h => by first | rfl | (rw [h]; rfl))) rfl rfl ?_
              refine xV (e_mv (v := .bool _) (q0 rfl)) rfl rfl ?_
              refine xVF (e_mv (v := .int _ _) (q0 rfl)) rfl rfl rfl rfl ?_
              refine xVF (e_gt (q1 rfl) (q0 rfl)) rfl rfl rfl rfl ?_
              refine xVF (e_mv (v := .bool _) (q1 rfl)) rfl rfl rfl rfl ?_
              refine xVT2 (e_dead (v := .pointer none) (by simp)) rfl rfl rfl rfl ?_
              refine xVT2 (e_dead (v := .int .i64 0) (by simp)) rfl rfl rfl rfl ?_
              refine xVT2 (e_dead (v := .slice none 0 0) (by simp)) rfl rfl rfl rfl ?_
              refine xVT2 (e_dead (v := .int .i64 0) (by simp)) rfl rfl rfl rfl ?_
              refine xVT2 (e_dead (v := .int .i64 0) (by simp)) rfl rfl rfl rfl ?_
              refine xVT2 (e_dead (v := .pointer none) (by simp)) rfl rfl rfl rfl ?_
              refine xVT2 (e_dead (v := .pointer none) (by simp)) rfl rfl rfl rfl ?_
              refine xVT2 (e_dead (v := .int .i64 0) (by simp)) rfl rfl rfl rfl ?_
              refine xVT2 (e_dead (v := .bool false) (by simp)) rfl rfl rfl rfl ?_
              refine xVF (e_and (q1 rfl) rfl (fun h => by first | rfl | (rw [h]; rfl))) rfl rfl rfl rfl ?_
              refine xV (e_or (q0 rfl) rfl (fun h => by first | rfl | (rw [h]; rfl))) rfl rfl ?_
              refine XN ?_
              exact cutJ_normal _ (by repeat (first | exact agree_self | exact agree_over | refine agree_upd rfl ?_ | refine agree_updL rfl ?_ | refine agree_over2 rfl ?_)) ⟨rfl, trivial⟩ (fun w hw => hw) rfl (by simp [tfPre, tfOrd])
            · obtain ⟨j, rfl⟩ : ∃ j, k = j + 1 := ⟨k - 1, by omega⟩
              have hjn : j < n := by omega
              obtain ⟨q, hq, hrq⟩ := hx.row hjn
              refine R1 rfl (by decide +kernel) ?_
              refine xV (e_mv (v := .int _ _) (q0 rfl)) rfl rfl ?_
              refine xV (e_eq (q0 rfl) (q0 rfl)) rfl rfl ?_
              refine xV (e_mv (v := .bool _) (q0 rfl)) rfl rfl ?_
              refine xVT (e_fld Tryz.underlying140 rfl Tryz.sizeOf3 rfl (q0 rfl)) rfl rfl rfl rfl ?_
              refine xVT (eL Tryz.isAgg3 (q1 rfl)) rfl rfl rfl rfl ?_
              refine xVT (e_ne (q1 rfl) (q0 rfl)) rfl rfl rfl rfl ?_
              refine xV (e_and (q0 rfl) rfl (fun h => by first | rfl | (rw [h]; rfl))) rfl rfl ?_
              refine xV (e_mv (v := .bool _) (q0 rfl)) rfl rfl ?_
              refine xVF (e_mv (v := .int _ _) (q0 rfl)) rfl rfl rfl rfl ?_
              refine xVF (e_gt (q1 rfl) (q0 rfl)) rfl rfl rfl rfl ?_
              refine xVF (e_mv (v := .bool _) (q1 rfl)) rfl rfl rfl rfl ?_
              refine xVT2 (e_fld Tryz.underlying140 rfl Tryz.sizeOf3 rfl (q0 rfl)) rfl rfl rfl rfl ?_
              refine xVT2 (eL Tryz.isAgg3 (q1 rfl)) rfl rfl rfl rfl ?_
              refine xVT2 (e_mv (v := .slice _ _ _) (q0 rfl)) rfl rfl rfl rfl ?_
              refine xVT2 (e_mv (v := .int _ _) (q0 rfl)) rfl rfl rfl rfl ?_
              refine xVT2 (e_sub (r := ((j : Nat) : Int)) (q1 rfl) (q0 rfl) (fun _ => ⟨by omega, by omega, by omega⟩)) rfl rfl rfl rfl ?_
              refine xVT2 (e_idx j Tryz.underlying25 Tryz.sizeOf140 (q1 rfl) (q1 rfl) (fun _ => ⟨rfl, hjn⟩)) rfl rfl rfl rfl ?_
              refine xVT2 (e_fld Tryz.underlying140 rfl Tryz.sizeOf3 rfl (q1 rfl)) rfl rfl rfl rfl ?_
              refine xVT2 (e_ld (v := .int .i64 q.from_) Tryz.isAgg3 (q1 rfl) (by first | exact rc (j := 0) hrq ‹_› rfl | exact rc0 hrq ‹_› rfl)) rfl rfl rfl rfl ?_
              refine xVT2 (e_le (q1 rfl) (q1 rfl)) rfl rfl rfl rfl ?_
              refine xVF (e_and (q1 rfl) rfl (fun h => by first | rfl | (rw [h]; rfl))) rfl rfl rfl rfl ?_
              refine xV (e_or (q0 rfl) rfl (fun h => by first | rfl | (rw [h]; rfl))) rfl rfl ?_
              refine XN ?_
              exact cutJ_normal _ (by repeat (first | exact agree_self | exact agree_over | refine agree_upd rfl ?_ | refine agree_updL rfl ?_ | refine agree_over2 rfl ?_)) ⟨rfl, trivial⟩ (fun w hw => hw) rfl (by
                simp only [tfPre, hq, tfOrd]
                have h3 : decide (((j + 1 : Nat) : Int) = 0) = false := decide_eq_false (by omega)
                have h4 : decide ((0 : Int) < ((j + 1 : Nat) : Int)) = true := decide_eq_true (by omega)
                rw [h3, h4]; simp)
          · rintro o g2 ho
            subst ho
            refine thenJ_normal ?_
            refine H_cond rfl (fun ho => ?_) (fun ho => ?_)
            · refine H_seq ?_
              refine R0 ?_
              refine xV (e_as (v := .int _ _) (q0 rfl)) rfl rfl ?_
              refine XN ?_
              refine thenJ_normal ?_
              refine H_ret ?_
              refine blockJ_ret ?_
              refine thenJ_ret ?_
              refine loopJ_ret ?_
              refine blockJ_ret ?_
              refine thenJ_ret ?_
              exact ret1 (v := .int _ _) rfl rfl rfl fun w' hw => ⟨ret_int (by rw [hall, tfErrL_ord ht hb' ho]), hw.1⟩
            · have hst := tfErrL_step ht hb' ho
              refine H_skip ?_
              refine blockJ_normal ?_
              refine thenJ_normal ?_
              refine R0 ?_
              refine xV (e_add (q0 rfl) (q0 rfl) (fun _ => ⟨rfl, by omega, by omega⟩)) rfl rfl ?_
              refine xV (e_mv (v := .int _ _) (q0 rfl)) rfl rfl ?_
              refine XN ?_
              exact loopJ_normal (k + 1) (by repeat (first | exact agree_self | exact agree_over | refine agree_upd rfl ?_ | refine agree_updL rfl ?_ | refine agree_over2 rfl ?_)) ⟨rfl, trivial⟩ (fun w hw => hw.tail) rfl ⟨by omega, by rw [hall, hst]⟩ (by show n - (k + 1) < n - k; omega)
      · have hend : k = n := by simp at hlt; omega
        have hall2 : tfErrL (tfPre ts 0) (ts.drop 0) = 0 := by
          rw [hall, List.drop_of_length_le (by omega)]
          unfold tfErrL; rfl
        refine H_exit ?_
        refine thenJ_exit ?_
        refine loopJ_exit ?_
        refine blockJ_hit ?_
        refine thenJ_normal ?_
        refine H_seq ?_
        refine R0 ?_
        refine xV (e_as (v := .int _ _) (q0 rfl)) rfl rfl ?_
        refine XN ?_
        refine thenJ_normal ?_
        refine H_ret ?_
        exact ret1 (v := .int _ _) rfl rfl rfl fun w' hw => ⟨ret_int hall2.symm, hw.1⟩

end Go.Proofs.Far

/-
  The walks: the version at a moment, prices of seconds (the program's way).
-/
namespace Go.Proofs.Far
open Go Go.RowKit Go.Proofs.E

theorem toU1 {k : FuncId} {args : Array Value} {w : World} {r : Value} (h : Calls Tryz.prog k args w fun e w' => e = .returned r ∧ Bel w w') : Calls Tryz.prog k args w fun e w' => ∃ _ : Unit, e = .returned r ∧ Mem w [] w' :=
  h.mono fun _ _ h => ⟨(), h.1, mem_nil.2 h.2⟩
theorem drop_at {α : Type} {l : List α} {k : Nat} {x : α} (h : l[k]? = some x) : l.drop k = x :: l.drop (k + 1) := by
  obtain ⟨h1, h2⟩ := List.getElem?_eq_some_iff.1 h
  rw [List.drop_eq_getElem_cons h1, h2]
theorem atL_cons (t : Int) (a k : Nat) (x : Tf) (l : List Tf) : atL t a k (x :: l) = atL t (if x.from_ ≤ t then k else a) (k + 1) l := rfl
def atR (l : List Tf) (t : Int) : Int × Int := if tfErr l ≠ 0 then (0, tfErr l) else if t < 0 ∨ 4294943999 < t then (0, 1) else ((atP l t : Nat), 0)
set_option maxRecDepth 20000 in
theorem tat_w (A : Option Addr) (n c : Nat) (ts : List Tf) (t : Int) (w : World) (hx : TfsAt w A n ts) : Calls Tryz.prog 154 #[.slice A n c, .int .i64 t] w fun e w' => e = .returned (.tuple #[.int .i64 (atR ts t).1, .int .i64 (atR ts t).2]) ∧ Bel w w' := by
  have hl := hx.1
  have hn := hx.2.1
  refine H_enter Tryz.func154 rfl Tryz.ntmps154 rfl ?_
  refine H_seq ?_
  refine R0 ?_
  refine xV (e_as (v := .int _ _) (q0 rfl)) rfl rfl ?_
  refine xV (e_as (v := .int _ _) (q0 rfl)) rfl rfl ?_
  refine XN ?_
  refine thenJ_normal ?_
  refine H_seq ?_
  refine H_seq ?_
  refine R0 ?_
  refine xV (e_mv (v := .slice _ _ _) (q0 rfl)) rfl rfl ?_
  refine xC (en Tryz.call74 (ha1 (q0 rfl))) (fun _ w hw => tcheck_w A n c ts w (hx.mem hw)) rfl rfl ?_
  refine xV (e_as (v := .int _ _) (q0 rfl)) rfl rfl ?_
  refine XN ?_
  refine thenJ_normal ?_
  refine H_seq ?_
  refine R0 ?_
  refine xV (e_mv (v := .int _ _) (q0 rfl)) rfl rfl ?_
  refine xV (e_ne (q0 rfl) (q0 rfl)) rfl rfl ?_
  refine XN ?_
  refine thenJ_normal ?_
  refine H_cond rfl (fun h1 => ?_) (fun h1 => ?_)
  · have h1' : tfErr ts ≠ 0 := by simpa using h1
    have hr : atR ts t = (0, tfErr ts) := by unfold atR; rw [if_pos h1']
    rw [hr]
    refine H_seq ?_
    refine R0 ?_
    refine xV (e_mv (v := .int _ _) (q0 rfl)) rfl rfl ?_
    refine xV (e_as (v := .int _ _) (q0 rfl)) rfl rfl ?_
    refine xV (e_as (v := .int _ _) (q0 rfl)) rfl rfl ?_
    refine XN ?_
    refine thenJ_normal ?_
    refine H_ret ?_
    refine thenJ_ret ?_
    exact ret2 (v := .int _ _) (x := .int _ _) rfl rfl rfl rfl fun w' hw => ⟨rfl, hw.1⟩
  · have h1' : tfErr ts = 0 := by simpa using h1
    refine H_skip ?_
    refine thenJ_normal ?_
    refine H_seq ?_
    refine H_seq ?_
    refine R0 ?_
    refine xV (e_mv (v := .int _ _) (q0 rfl)) rfl rfl ?_
    refine xV (e_lt (q0 rfl) (q0 rfl)) rfl rfl ?_
    refine xV (e_mv (v := .bool _) (q0 rfl)) rfl rfl ?_
    refine xVF (e_mv (v := .int _ _) (q0 rfl)) rfl rfl rfl rfl ?_
    refine xVF (e_gt (q1 rfl) (q0 rfl)) rfl rfl rfl rfl ?_
    refine xV (e_or (q0 rfl) rfl (fun h => by first | rfl | (rw [h]; rfl))) rfl rfl ?_
    refine XN ?_
    refine thenJ_normal ?_
    refine H_cond rfl (fun h2 => ?_) (fun h2 => ?_)
    · have hr : atR ts t = (0, 1) := by unfold atR; rw [if_neg (by simp [h1']), if_pos (by simp at h2; omega)]
      rw [hr]
      refine H_seq ?_
      refine R0 ?_
      refine xV (e_as (v := .int _ _) (q0 rfl)) rfl rfl ?_
      refine xV (e_as (v := .int _ _) (q0 rfl)) rfl rfl ?_
      refine XN ?_
      refine thenJ_normal ?_
      refine H_ret ?_
      refine thenJ_ret ?_
      exact ret2 (v := .int _ _) (x := .int _ _) rfl rfl rfl rfl fun w' hw => ⟨rfl, hw.1⟩
    · have hr : atR ts t = (((atL t 0 0 (ts.drop 0) : Nat) : Int), 0) := by unfold atR; rw [if_neg (by simp [h1']), if_neg (by simp at h2; omega)]; rfl
      rw [hr]
      refine H_skip ?_
      refine thenJ_normal ?_
      refine H_seq ?_
      refine R0 ?_
      refine xV (e_as (v := .int _ _) (q0 rfl)) rfl rfl ?_
      refine XN ?_
      refine thenJ_normal ?_
      refine H_seq ?_
      refine H_seq ?_
      refine R0 ?_
      refine xV (e_mv (v := .slice _ _ _) (q0 rfl)) rfl rfl ?_
      refine xV (e_len Tryz.underlying25 (q0 rfl)) rfl rfl ?_
      refine xV (e_mv (v := .int _ _) (q0 rfl)) rfl rfl ?_
      refine XN ?_
      refine thenJ_normal ?_
      refine H_block ?_
      refine H_loop [7, 8, 9, 23, 24, 25, 26, 27, 28, 29, 30, 31, 32, 33] (fun q : Nat × Nat => [(23, .int .i64 q.1), (7, .int .i64 q.2)]) (fun _ => []) (fun q => q.1 ≤ n ∧ atL t 0 0 (ts.drop 0) = atL t q.2 q.1 (ts.drop q.1)) (fun q => n - q.1) (0, 0) ⟨rfl, rfl, trivial⟩ (fun w hw => hw) rfl ⟨Nat.zero_le _, rfl⟩ ?_
      rintro ⟨k, a⟩ g ⟨hk, hall⟩
      simp only at hk hall
      refine H_seq ?_
      refine R0 ?_
      refine xV (e_lt (q0 rfl) (q0 rfl)) rfl rfl ?_
      refine XN ?_
      refine thenJ_normal ?_
      refine H_seq ?_
      refine H_cond rfl (fun hlt => ?_) (fun hlt => ?_)
      · have hlt' : k < n := by simpa using hlt
        obtain ⟨b, off, x, rfl, hbl, hxk, hrx⟩ := hx.at_ hlt'
        rw [drop_at hxk, atL_cons] at hall
        refine H_skip ?_
        refine thenJ_normal ?_
        refine H_seq ?_
        refine H_block ?_
        refine H_seq ?_
        refine R0 ?_
        refine xV (e_mv (v := .int _ _) (q0 rfl)) rfl rfl ?_
        refine xV (e_idx _ Tryz.underlying25 Tryz.sizeOf140 (q0 rfl) (q0 rfl) (fun _ => ⟨rfl, by omega⟩)) rfl rfl ?_
        refine xV (eS Tryz.isAgg140 Tryz.sizeOf140 (q0 rfl)) rfl rfl ?_
        refine X_alloc Tryz.zeroValue140 rfl fun b9 => ?_
        refine xV (e_as (v := .int _ _) (q0 rfl)) rfl rfl ?_
        refine X_st (v := .agg _) rfl rfl Tryz.sizeOf140 ?_
        refine XN ?_
        refine thenJ_normal ?_
        refine H_seq ?_
        refine R0 ?_
        refine xV (e_fld Tryz.underlying140 rfl Tryz.sizeOf3 rfl (q0 rfl)) rfl rfl ?_
        refine xV (eL Tryz.isAgg3 (q0 rfl)) rfl rfl ?_
        refine xV (e_mv (v := .int _ _) (q0 rfl)) rfl rfl ?_
        refine xV (e_le (q0 rfl) (q0 rfl)) rfl rfl ?_
        refine XN ?_
        refine thenJ_normal ?_
        refine H_cond rfl (fun hb => ?_) (fun hb => ?_)
        · have hb' : x.from_ ≤ t := by simpa using hb
          rw [if_pos hb'] at hall
          refine R0 ?_
          refine xV (e_mv (v := .int _ _) (q0 rfl)) rfl rfl ?_
          refine xV (e_as (v := .int _ _) (q0 rfl)) rfl rfl ?_
          refine XN ?_
          refine blockJ_normal ?_
          refine thenJ_normal ?_
          refine R0 ?_
          refine xV (e_add (q0 rfl) (q0 rfl) (fun _ => ⟨rfl, by omega, by omega⟩)) rfl rfl ?_
          refine xV (e_mv (v := .int _ _) (q0 rfl)) rfl rfl ?_
          refine XN ?_
          exact loopJ_normal (k + 1, k) (by repeat (first | exact agree_self | exact agree_over | refine agree_upd rfl ?_ | refine agree_updL rfl ?_ | refine agree_over2 rfl ?_)) ⟨rfl, rfl, trivial⟩ (fun w hw => hw.tail) rfl ⟨by show k + 1 ≤ n; omega, hall⟩ (by show n - (k + 1) < n - k; omega)
        · have hb' : ¬ x.from_ ≤ t := by simpa using hb
          rw [if_neg hb'] at hall
          refine H_skip ?_
          refine blockJ_normal ?_
          refine thenJ_normal ?_
          refine R0 ?_
          refine xV (e_add (q0 rfl) (q0 rfl) (fun _ => ⟨rfl, by omega, by omega⟩)) rfl rfl ?_
          refine xV (e_mv (v := .int _ _) (q0 rfl)) rfl rfl ?_
          refine XN ?_
          exact loopJ_normal (k + 1, a) (by repeat (first | exact agree_self | exact agree_over | refine agree_upd rfl ?_ | refine agree_updL rfl ?_ | refine agree_over2 rfl ?_)) ⟨rfl, rfl, trivial⟩ (fun w hw => hw.tail) rfl ⟨by show k + 1 ≤ n; omega, hall⟩ (by show n - (k + 1) < n - k; omega)
      · have hend : k = n := by simp at hlt; omega
        have hfin : atL t 0 0 (ts.drop 0) = a := by rw [hall, hend, List.drop_of_length_le (by omega)]; rfl
        rw [hfin]
        refine H_exit ?_
        refine thenJ_exit ?_
        refine loopJ_exit ?_
        refine blockJ_hit ?_
        refine thenJ_normal ?_
        refine H_seq ?_
        refine R0 ?_
        refine xV (e_mv (v := .int _ _) (q0 rfl)) rfl rfl ?_
        refine xV (e_as (v := .int _ _) (q0 rfl)) rfl rfl ?_
        refine xV (e_as (v := .int _ _) (q0 rfl)) rfl rfl ?_
        refine XN ?_
        refine thenJ_normal ?_
        refine H_ret ?_
        exact ret2 (v := .int _ _) (x := .int _ _) rfl rfl rfl rfl fun w' hw => ⟨rfl, hw.1⟩
def Tf.zero (t : Tf) : Tf := { t with from_ := 0 }
theorem zero_ok {t : Tf} (h : tfOk t = true) : tfOk t.zero = true := by
  rw [tfOk_iff] at h ⊢
  unfold Tf.zero
  simp only
  omega
theorem alone_err {t : Tf} (h : tfOk t = true) : tfErr [t.zero] = 0 := by
  unfold tfErr
  simp only [List.length_cons, List.length_nil]
  rw [if_neg (by decide), if_neg (by decide)]
  unfold tfErrL
  rw [if_neg (by rw [zero_ok h]; decide), if_neg (by simp [tfOrd, Tf.zero])]
  rfl
attribute [local irreducible] tfErr tfOk
set_option maxRecDepth 20000 in
theorem alone_w (t : Tf) (ht : tfOk t = true) (w : World) : Calls Tryz.prog 258 #[.agg t.cells.toArray] w fun e w' => e = .returned (.tuple #[.agg t.zero.cells.toArray, .int .i64 0]) ∧ Bel w w' := by
  have he := alone_err ht
  obtain ⟨a, b, c, d, e, f⟩ := t
  refine H_enter Tryz.func258 rfl Tryz.ntmps258 rfl ?_
  refine H_seq ?_
  refine R0 ?_
  refine X_box (v := .agg _) rfl rfl fun b1 => ?_
  refine X_alloc Tryz.zeroValue238 rfl fun b2 => ?_
  refine xV (e_as (v := .int _ _) (q0 rfl)) rfl rfl ?_
  refine XN ?_
  refine thenJ_normal ?_
  refine H_seq ?_
  refine R0 ?_
  refine xV (e_fld Tryz.underlying140 rfl Tryz.sizeOf3 rfl (q0 rfl)) rfl rfl ?_
  refine X_st (v := .int _ _) rfl rfl Tryz.sizeOf3 ?_
  refine XN ?_
  refine thenJ_normal ?_
  refine H_seq ?_
  refine H_mem (L' := [box b2 238 [.int .i64 0, .int .i64 0, .int .i64 0, .int .i64 0, .int .i64 0, .int .i64 0], box b1 140 (Tf.cells ⟨0, b, c, d, e, f⟩)]) (fun w hw => hw) rfl ?_
  have hch := fun (bb : Nat) (w : World) (h : TfsAt w (some ⟨bb, 0, none⟩) 1 [⟨0, b, c, d, e, f⟩]) => by
    have h2 := tcheck_w (some ⟨bb, 0, none⟩) 1 1 [⟨0, b, c, d, e, f⟩] w h
    rw [show tfErr [⟨0, b, c, d, e, f⟩] = 0 from he] at h2
    exact h2
  refine RAd 1 rfl (by decide +kernel) ?_
  refine aV 0 (by decide +kernel) rfl (eS Tryz.isAgg140 Tryz.sizeOf140 (q0 rfl)) rfl ?_
  refine aV 1 (by decide +kernel) rfl (eS Tryz.isAgg140 Tryz.sizeOf140 (q0 rfl)) rfl ?_
  refine rdy1 (i := 2) (by decide +kernel) (sub_drop 1) ?_
  refine aL rfl (f_slit [(.int .i64 0), (.int .i64 0), (.int .i64 0), (.int .i64 0), (.int .i64 0), (.int .i64 0)] Tryz.underlying25 Tryz.sizeOf140 Tryz.zeroValue140 rfl (by kernel_rfl) (pt (v := .agg _) rfl E.p0) rfl rfl fun b7 => ?_)
  refine rdy1 (i := 3) (by decide +kernel) (sub_drop 2) ?_
  refine aL rfl (f_callx (en Tryz.call74 (ha1 (q0 rfl))) (fun w hw => toU1 (hch b7 w (slAt_box (enc := Tf.cells) (xs := [⟨0, b, c, d, e, f⟩]) hw (j := 0) rfl (fun _ => rfl) (by simp)))) rfl (fun _ => rfl) fun u3 => ?_)
  refine rdy1 (i := 4) (by decide +kernel) (sub_drop 2) ?_
  refine aL rfl (f_st (v := .agg _) rfl rfl Tryz.sizeOf238 ?_)
  refine aV 5 (by decide +kernel) rfl (e_as (v := .int _ _) (q0 rfl)) rfl ?_
  refine aZ (by decide +kernel) (sub_drop 2) ?_
  refine thenJ_normal ?_
  refine H_ret ?_
  exact ret_of rfl (resc2 1 rfl rfl rfl Tryz.isAgg238 Tryz.sizeOf238 rfl rfl) fun w' hw => ⟨rfl, hw.1⟩
theorem steps_w (t : Tf) (secs : Int) (w : World) (ht : 1 ≤ t.step ∧ t.step ≤ 86400) (hs : -1000000 ≤ secs ∧ secs ≤ 4294944000) : Calls Tryz.prog 259 #[.agg t.cells.toArray, .int .i64 secs] w fun e w' => e = .returned (.int .i64 (stepsP t secs)) ∧ Bel w w' := by
  refine H_enter Tryz.func259 rfl Tryz.ntmps259 rfl ?_
  have hmx : (if secs < 0 then 0 else secs) = max secs 0 := by split <;> omega
  refine H_seq ?_
  refine R0 ?_
  refine X_box (v := .agg _) rfl rfl fun b2 => ?_
  refine xV (e_as (v := .int _ _) (q0 rfl)) rfl rfl ?_
  refine XN ?_
  refine thenJ_normal ?_
  refine H_seq ?_
  refine R0 ?_
  refine xV (e_mv (v := .int _ _) (q0 rfl)) rfl rfl ?_
  refine xV (e_max (q0 rfl) (q0 rfl)) rfl rfl ?_
  refine xV (e_fld Tryz.underlying238 rfl Tryz.sizeOf3 rfl (q0 rfl)) rfl rfl ?_
  refine xV (eL Tryz.isAgg3 (q0 rfl)) rfl rfl ?_
  refine xV (e_add (q0 rfl) (q0 rfl) (fun _ => ⟨rfl, by omega, by omega⟩)) rfl rfl ?_
  refine xV (e_sub (q0 rfl) (q0 rfl) (fun _ => ⟨rfl, by omega, by omega⟩)) rfl rfl ?_
  refine xV (e_fld Tryz.underlying238 rfl Tryz.sizeOf3 rfl (q0 rfl)) rfl rfl ?_
  refine xV (eL Tryz.isAgg3 (q0 rfl)) rfl rfl ?_
  refine xV (e_quo (q0 rfl) (q0 rfl) (fun _ => ⟨by omega, by omega, by omega⟩)) rfl rfl ?_
  refine xV (e_as (v := .int _ _) (q0 rfl)) rfl rfl ?_
  refine XN ?_
  refine thenJ_normal ?_
  refine H_ret ?_
  exact ret1 (v := .int _ _) rfl rfl rfl fun w' hw => ⟨by unfold stepsP; rw [← hmx], hw.1⟩
theorem riding_w (t : Tf) (secs : Int) (w : World) (ht : tfOk t = true) (hs : 0 ≤ secs ∧ secs ≤ 4294944000) : Calls Tryz.prog 220 #[.agg t.cells.toArray, .int .i64 secs] w fun e w' => e = .returned (.int .i64 (ridP t secs)) ∧ Bel w w' := by
  obtain ⟨-, -, hp, -, hst, hfr⟩ := tfOk_iff.1 ht
  have hsl := steps_le hst (s := secs - t.free) (by omega)
  have hm : 0 ≤ ridP t secs ∧ ridP t secs ≤ 4294944000000000 := by
    unfold ridP
    constructor
    · exact Int.mul_nonneg hp.1 hsl.1
    · have h1 : t.price * stepsP t (secs - t.free) ≤ 1000000 * stepsP t (secs - t.free) := Int.mul_le_mul_of_nonneg_right hp.2 hsl.1
      omega
  refine H_enter Tryz.func220 rfl Tryz.ntmps220 rfl ?_
  refine H_seq ?_
  refine R0 ?_
  refine X_box (v := .agg _) rfl rfl fun b2 => ?_
  refine xV (e_as (v := .int _ _) (q0 rfl)) rfl rfl ?_
  refine XN ?_
  refine thenJ_normal ?_
  refine H_seq ?_
  refine R1 rfl (by decide +kernel) ?_
  refine xV (e_fld Tryz.underlying238 rfl Tryz.sizeOf3 rfl (q0 rfl)) rfl rfl ?_
  refine xV (eL Tryz.isAgg3 (q0 rfl)) rfl rfl ?_
  refine xV (eS Tryz.isAgg238 Tryz.sizeOf238 (q0 rfl)) rfl rfl ?_
  refine xV (e_mv (v := .int _ _) (q0 rfl)) rfl rfl ?_
  refine xV (e_fld Tryz.underlying238 rfl Tryz.sizeOf3 rfl (q0 rfl)) rfl rfl ?_
  refine xV (eL Tryz.isAgg3 (q0 rfl)) rfl rfl ?_
  refine xV (e_sub (q0 rfl) (q0 rfl) (fun _ => ⟨rfl, by omega, by omega⟩)) rfl rfl ?_
  refine xC (en Tryz.call259 (ha2 (q0 rfl) (q0 rfl))) (fun _ w _ => steps_w t (secs - t.free) w hst (by omega)) rfl rfl ?_
  refine xV (e_mul (r := ridP t secs) (q0 rfl) (q0 rfl) (fun _ => ⟨rfl, by omega, by omega⟩)) rfl rfl ?_
  refine xV (e_as (v := .int _ _) (q0 rfl)) rfl rfl ?_
  refine XN ?_
  refine thenJ_normal ?_
  refine H_ret ?_
  exact ret1 (v := .int _ _) rfl rfl rfl fun w' hw => ⟨rfl, hw.1⟩
theorem pausing_w (t : Tf) (secs : Int) (w : World) (ht : tfOk t = true) (hs : 0 ≤ secs ∧ secs ≤ 4294944000) : Calls Tryz.prog 221 #[.agg t.cells.toArray, .int .i64 secs] w fun e w' => e = .returned (.int .i64 (pauP t secs)) ∧ Bel w w' := by
  obtain ⟨-, -, -, hp, hst, hfr⟩ := tfOk_iff.1 ht
  have hsl := steps_le hst (s := secs) (by omega)
  have hm : 0 ≤ pauP t secs ∧ pauP t secs ≤ 4294944000000000 := by
    unfold pauP
    constructor
    · exact Int.mul_nonneg hp.1 hsl.1
    · have h1 : t.pause * stepsP t secs ≤ 1000000 * stepsP t secs := Int.mul_le_mul_of_nonneg_right hp.2 hsl.1
      omega
  refine H_enter Tryz.func221 rfl Tryz.ntmps221 rfl ?_
  refine H_seq ?_
  refine R0 ?_
  refine X_box (v := .agg _) rfl rfl fun b2 => ?_
  refine xV (e_as (v := .int _ _) (q0 rfl)) rfl rfl ?_
  refine XN ?_
  refine thenJ_normal ?_
  refine H_seq ?_
  refine R1 rfl (by decide +kernel) ?_
  refine xV (e_fld Tryz.underlying238 rfl Tryz.sizeOf3 rfl (q0 rfl)) rfl rfl ?_
  refine xV (eL Tryz.isAgg3 (q0 rfl)) rfl rfl ?_
  refine xV (eS Tryz.isAgg238 Tryz.sizeOf238 (q0 rfl)) rfl rfl ?_
  refine xV (e_mv (v := .int _ _) (q0 rfl)) rfl rfl ?_
  refine xC (en Tryz.call259 (ha2 (q0 rfl) (q0 rfl))) (fun _ w _ => steps_w t secs w hst (by omega)) rfl rfl ?_
  refine xV (e_mul (r := pauP t secs) (q0 rfl) (q0 rfl) (fun _ => ⟨rfl, by omega, by omega⟩)) rfl rfl ?_
  refine xV (e_as (v := .int _ _) (q0 rfl)) rfl rfl ?_
  refine XN ?_
  refine thenJ_normal ?_
  refine H_ret ?_
  exact ret1 (v := .int _ _) rfl rfl rfl fun w' hw => ⟨rfl, hw.1⟩
set_option maxRecDepth 20000 in
theorem price_w (k : FuncId) (hen : ∀ args w, (callFunc k args).run Tryz.prog w = .ok (.enter k args) w) (t : Tf) (ht : tfOk t = true) (secs v : Int) (hs : 0 ≤ secs ∧ secs ≤ 4294944000) (hc : ∀ w, Calls Tryz.prog k #[.agg t.zero.cells.toArray, .int .i64 secs] w fun e w' => e = .returned (.int .i64 v) ∧ Bel w w') (w : World) :
    Calls Tryz.prog 219 #[.func (.func k) #[] #[], .agg t.cells.toArray, .int .i64 secs] w fun e w' => e = .returned (.tuple #[.int .i64 (money v).1, .int .i64 (money v).2]) ∧ Bel w w' := by
  refine H_enter Tryz.func219 rfl Tryz.ntmps219 rfl ?_
  refine H_seq ?_
  refine R0 ?_
  refine X_box (v := .agg _) rfl rfl fun b4 => ?_
  refine xV (e_as (v := .int _ _) (q0 rfl)) rfl rfl ?_
  refine xV (e_as (v := .int _ _) (q0 rfl)) rfl rfl ?_
  refine XN ?_
  refine thenJ_normal ?_
  refine H_seq ?_
  refine R0 ?_
  refine xV (eS Tryz.isAgg140 Tryz.sizeOf140 (q0 rfl)) rfl rfl ?_
  refine xC (en Tryz.call258 (ha1 (q0 rfl))) (fun _ w _ => alone_w t ht w) rfl rfl ?_
  refine xV (e_mv (q0 rfl)) rfl rfl ?_
  refine xV (e_ext (q0 rfl) rfl) rfl rfl ?_
  refine xV (e_ext (q0 rfl) rfl) rfl rfl ?_
  refine X_alloc Tryz.zeroValue238 rfl fun b8 => ?_
  refine X_st (v := .agg _) rfl rfl Tryz.sizeOf238 ?_
  refine xV (e_as (v := .int _ _) (q0 rfl)) rfl rfl ?_
  refine XN ?_
  refine thenJ_normal ?_
  refine H_seq ?_
  refine H_seq ?_
  refine R0 ?_
  refine xV (e_mv (v := .int _ _) (q0 rfl)) rfl rfl ?_
  refine xV (e_ne (q0 rfl) (q0 rfl)) rfl rfl ?_
  refine XN ?_
  refine thenJ_normal ?_
  refine H_cond rfl (fun h1 => ?_) (fun h1 => ?_)
  · exact absurd h1 (by decide)
  · refine H_skip ?_
    refine thenJ_normal ?_
    refine H_seq ?_
    refine H_seq ?_
    refine R0 ?_
    refine xV (e_mv (v := .int _ _) (q0 rfl)) rfl rfl ?_
    refine xV (e_lt (q0 rfl) (q0 rfl)) rfl rfl ?_
    refine xV (e_mv (v := .bool _) (q0 rfl)) rfl rfl ?_
    refine xVF (e_mv (v := .int _ _) (q0 rfl)) rfl rfl rfl rfl ?_
    refine xVF (e_gt (q1 rfl) (q0 rfl)) rfl rfl rfl rfl ?_
    refine xV (e_or (q0 rfl) rfl (fun h => by first | rfl | (rw [h]; rfl))) rfl rfl ?_
    refine XN ?_
    refine thenJ_normal ?_
    refine H_cond rfl (fun h2 => ?_) (fun h2 => ?_)
    · exfalso; simp at h2; omega
    · refine H_skip ?_
      refine thenJ_normal ?_
      refine H_seq ?_
      refine R0 ?_
      refine xV (e_mv (q0 rfl)) rfl rfl ?_
      refine xV (eS Tryz.isAgg238 Tryz.sizeOf238 (q0 rfl)) rfl rfl ?_
      refine xV (e_mv (v := .int _ _) (q0 rfl)) rfl rfl ?_
      refine xC (enV (cap := []) (al := [.agg t.zero.cells.toArray, .int .i64 secs]) hen (q0 rfl) (fun hg => by rw [ha2 (q0 (v := .agg _) rfl) (q0 (v := .int _ _) rfl) hg]; rfl)) (fun _ w _ => hc w) rfl rfl ?_
      refine xV (e_as (v := .int _ _) (q0 rfl)) rfl rfl ?_
      refine XN ?_
      refine thenJ_normal ?_
      refine H_seq ?_
      refine H_seq ?_
      refine R0 ?_
      refine xV (e_mv (v := .int _ _) (q0 rfl)) rfl rfl ?_
      refine xV (e_gt (q0 rfl) (q0 rfl)) rfl rfl ?_
      refine XN ?_
      refine thenJ_normal ?_
      refine H_cond rfl (fun h3 => ?_) (fun h3 => ?_)
      · have h3' : money v = (0, 2) := by unfold money; rw [if_pos (by simpa using h3)]
        rw [h3']
        refine H_seq ?_
        refine R0 ?_
        refine xV (e_as (v := .int _ _) (q0 rfl)) rfl rfl ?_
        refine xV (e_as (v := .int _ _) (q0 rfl)) rfl rfl ?_
        refine XN ?_
        refine thenJ_normal ?_
        refine H_ret ?_
        refine thenJ_ret ?_
        exact ret2 (v := .int _ _) (x := .int _ _) rfl rfl rfl rfl fun w' hw => ⟨rfl, hw.1⟩
      · have h3' : money v = (v, 0) := by unfold money; rw [if_neg (by simpa using h3)]
        rw [h3']
        refine H_skip ?_
        refine thenJ_normal ?_
        refine H_seq ?_
        refine R0 ?_
        refine xV (e_mv (v := .int _ _) (q0 rfl)) rfl rfl ?_
        refine xV (e_as (v := .int _ _) (q0 rfl)) rfl rfl ?_
        refine xV (e_as (v := .int _ _) (q0 rfl)) rfl rfl ?_
        refine XN ?_
        refine thenJ_normal ?_
        refine H_ret ?_
        exact ret2 (v := .int _ _) (x := .int _ _) rfl rfl rfl rfl fun w' hw => ⟨rfl, hw.1⟩
theorem time_w (t : Tf) (ht : tfOk t = true) (secs : Int) (hs : 0 ≤ secs ∧ secs ≤ 4294944000) (w : World) : Calls Tryz.prog 156 #[.agg t.cells.toArray, .int .i64 secs] w fun e w' => e = .returned (.tuple #[.int .i64 (money (ridP t secs)).1, .int .i64 (money (ridP t secs)).2]) ∧ Bel w w' := by
  refine H_enter Tryz.func156 rfl Tryz.ntmps156 rfl ?_
  refine H_seq ?_
  refine R0 ?_
  refine X_box (v := .agg _) rfl rfl fun b2 => ?_
  refine xV (e_as (v := .int _ _) (q0 rfl)) rfl rfl ?_
  refine xV (e_as (v := .int _ _) (q0 rfl)) rfl rfl ?_
  refine XN ?_
  refine thenJ_normal ?_
  refine H_seq ?_
  refine R0 ?_
  refine xV (eS Tryz.isAgg140 Tryz.sizeOf140 (q0 rfl)) rfl rfl ?_
  refine xV (e_mv (v := .int _ _) (q0 rfl)) rfl rfl ?_
  refine xC (en Tryz.call219 (ha3 (q0 rfl) (q0 rfl) (q0 rfl))) (fun _ w _ => price_w 220 Tryz.call220 t ht secs (ridP t secs) hs (fun w => riding_w t.zero secs w (zero_ok ht) hs) w) rfl rfl ?_
  refine xV (e_ext (q0 rfl) rfl) rfl rfl ?_
  refine xV (e_ext (q0 rfl) rfl) rfl rfl ?_
  refine xV (e_as (v := .int _ _) (q0 rfl)) rfl rfl ?_
  refine xV (e_as (v := .int _ _) (q0 rfl)) rfl rfl ?_
  refine XN ?_
  refine thenJ_normal ?_
  refine H_ret ?_
  exact ret2 (v := .int _ _) (x := .int _ _) rfl rfl rfl rfl fun w' hw => ⟨rfl, hw.1⟩
theorem pauses_w (t : Tf) (ht : tfOk t = true) (secs : Int) (hs : 0 ≤ secs ∧ secs ≤ 4294944000) (w : World) : Calls Tryz.prog 157 #[.agg t.cells.toArray, .int .i64 secs] w fun e w' => e = .returned (.tuple #[.int .i64 (money (pauP t secs)).1, .int .i64 (money (pauP t secs)).2]) ∧ Bel w w' := by
  refine H_enter Tryz.func157 rfl Tryz.ntmps157 rfl ?_
  refine H_seq ?_
  refine R0 ?_
  refine X_box (v := .agg _) rfl rfl fun b2 => ?_
  refine xV (e_as (v := .int _ _) (q0 rfl)) rfl rfl ?_
  refine xV (e_as (v := .int _ _) (q0 rfl)) rfl rfl ?_
  refine XN ?_
  refine thenJ_normal ?_
  refine H_seq ?_
  refine R0 ?_
  refine xV (eS Tryz.isAgg140 Tryz.sizeOf140 (q0 rfl)) rfl rfl ?_
  refine xV (e_mv (v := .int _ _) (q0 rfl)) rfl rfl ?_
  refine xC (en Tryz.call219 (ha3 (q0 rfl) (q0 rfl) (q0 rfl))) (fun _ w _ => price_w 221 Tryz.call221 t ht secs (pauP t secs) hs (fun w => pausing_w t.zero secs w (zero_ok ht) hs) w) rfl rfl ?_
  refine xV (e_ext (q0 rfl) rfl) rfl rfl ?_
  refine xV (e_ext (q0 rfl) rfl) rfl rfl ?_
  refine xV (e_as (v := .int _ _) (q0 rfl)) rfl rfl ?_
  refine xV (e_as (v := .int _ _) (q0 rfl)) rfl rfl ?_
  refine XN ?_
  refine thenJ_normal ?_
  refine H_ret ?_
  exact ret2 (v := .int _ _) (x := .int _ _) rfl rfl rfl rfl fun w' hw => ⟨rfl, hw.1⟩

end Go.Proofs.Far

/-
  The walks: versions of the tariff, prices of seconds (the reference's way).
-/
namespace Go.Proofs.Far
open Go Go.RowKit Go.Proofs.E

theorem rtin_w (n lo hi : Int) (w : World) : Calls Tryz.prog 106 #[.int .i64 n, .int .i64 lo, .int .i64 hi] w fun e w' => e = .returned (.bool (inI n lo hi)) ∧ Bel w w' := by
  refine H_enter Tryz.func106 rfl Tryz.ntmps106 rfl ?_
  refine H_seq ?_
  refine R0 ?_
  refine xV (e_as (v := .bool _) (q0 rfl)) rfl rfl ?_
  refine XN ?_
  refine thenJ_normal ?_
  refine H_seq ?_
  refine R0 ?_
  refine xV (e_mv (v := .int _ _) (q0 rfl)) rfl rfl ?_
  refine xV (e_mv (v := .int _ _) (q0 rfl)) rfl rfl ?_
  refine xV (e_ge (q0 rfl) (q0 rfl)) rfl rfl ?_
  refine xV (e_mv (v := .bool _) (q0 rfl)) rfl rfl ?_
  refine xVT (e_mv (v := .int _ _) (q0 rfl)) rfl rfl rfl rfl ?_
  refine xVT (e_mv (v := .int _ _) (q0 rfl)) rfl rfl rfl rfl ?_
  refine xVT (e_le (q1 rfl) (q1 rfl)) rfl rfl rfl rfl ?_
  refine xV (e_and (q0 rfl) rfl (fun h => by first | rfl | (rw [h]; rfl))) rfl rfl ?_
  refine xV (e_as (v := .bool _) (q0 rfl)) rfl rfl ?_
  refine XN ?_
  refine thenJ_normal ?_
  refine H_ret ?_
  exact ret1 (v := .bool _) rfl rfl rfl fun w' hw => ⟨rfl, hw.1⟩
set_option maxHeartbeats 1000000 in
set_option maxRecDepth 20000 in
theorem rtcheck_w (A : Option Addr) (n c : Nat) (ts : List Tf) (w : World) (hx : TfsAt w A n ts) : Calls Tryz.prog 60 #[.slice A n c] w fun e w' => e = .returned (.int .i64 (tfErr ts)) ∧ Bel w w' := by
  have hl := hx.1
  have hn := hx.2.1
  refine H_enter Tryz.func60 rfl Tryz.ntmps60 rfl ?_
  refine H_seq ?_
  refine R0 ?_
  refine xV (e_as (v := .int _ _) (q0 rfl)) rfl rfl ?_
  refine XN ?_
  refine thenJ_normal ?_
  refine H_seq ?_
  refine H_seq ?_
  refine R0 ?_
  refine xV (e_mv (v := .slice _ _ _) (q0 rfl)) rfl rfl ?_
  refine xV (e_len Tryz.underlying25 (q0 rfl)) rfl rfl ?_
  refine xV (e_eq (q0 rfl) (q0 rfl)) rfl rfl ?_
  refine XN ?_
  refine thenJ_normal ?_
  refine H_cond rfl (fun h1 => ?_) (fun h1 => ?_)
  · have h1' : tfErr ts = 10 := by unfold tfErr; rw [if_pos (by simp at h1; omega)]
    refine H_seq ?_
    refine R0 ?_
    refine xV (e_as (v := .int _ _) (q0 rfl)) rfl rfl ?_
    refine XN ?_
    refine thenJ_normal ?_
    refine H_ret ?_
    refine thenJ_ret ?_
    exact ret1 (v := .int _ _) rfl rfl rfl fun w' hw => ⟨ret_int h1'.symm, hw.1⟩
  · refine H_skip ?_
    refine thenJ_normal ?_
    refine H_seq ?_
    refine H_seq ?_
    refine R0 ?_
    refine xV (e_mv (v := .slice _ _ _) (q0 rfl)) rfl rfl ?_
    refine xV (e_len Tryz.underlying25 (q0 rfl)) rfl rfl ?_
    refine xV (e_gt (q0 rfl) (q0 rfl)) rfl rfl ?_
    refine XN ?_
    refine thenJ_normal ?_
    refine H_cond rfl (fun h2 => ?_) (fun h2 => ?_)
    · have h2' : tfErr ts = 8 := by unfold tfErr; rw [if_neg (by simp at h1; omega), if_pos (by simp at h2; omega)]
      refine H_seq ?_
      refine R0 ?_
      refine xV (e_as (v := .int _ _) (q0 rfl)) rfl rfl ?_
      refine XN ?_
      refine thenJ_normal ?_
      refine H_ret ?_
      refine thenJ_ret ?_
      exact ret1 (v := .int _ _) rfl rfl rfl fun w' hw => ⟨ret_int h2'.symm, hw.1⟩
    · have h2' : tfErr ts = tfErrL (tfPre ts 0) (ts.drop 0) := by unfold tfErr; rw [if_neg (by simp at h1; omega), if_neg (by simp at h2; omega)]; rfl
      rw [h2']
      clear h2'
      refine H_skip ?_
      refine thenJ_normal ?_
      refine H_seq ?_
      refine H_seq ?_
      refine R0 ?_
      refine xV (e_as (v := .int _ _) (q0 rfl)) rfl rfl ?_
      refine XN ?_
      refine thenJ_normal ?_
      refine H_block ?_
      refine H_loop [2, 3, 4, 11, 12, 13, 14, 15, 16, 17, 18, 19, 20, 21, 22, 23, 24, 25, 26, 27, 28, 29, 30, 31, 32, 33, 34, 35, 36, 37, 38, 39, 40, 41, 42, 43, 44, 45, 46, 47, 48, 49, 50, 51, 52, 53, 54, 55, 56, 57, 58, 59, 60, 61, 62, 63, 64, 65, 66, 67, 68, 69, 70, 71, 72, 73, 74, 75, 76] (fun k : Nat => [(3, .int .i64 k)]) (fun _ => []) (fun k => k ≤ n ∧ tfErrL (tfPre ts 0) (ts.drop 0) = tfErrL (tfPre ts k) (ts.drop k)) (fun k => n - k) 0 ⟨rfl, trivial⟩ (fun w hw => hw) rfl ⟨Nat.zero_le _, rfl⟩ ?_
      rintro k g ⟨hk, hall⟩
      refine H_seq ?_
      refine H_seq ?_
      refine R0 ?_
      refine xV (e_mv (v := .int _ _) (q0 rfl)) rfl rfl ?_
      refine xV (e_mv (v := .slice _ _ _) (q0 rfl)) rfl rfl ?_
      refine xV (e_len Tryz.underlying25 (q0 rfl)) rfl rfl ?_
      refine xV (e_lt (q0 rfl) (q0 rfl)) rfl rfl ?_
      refine XN ?_
      refine thenJ_normal ?_
      refine H_cond rfl (fun hlt => ?_) (fun hlt => ?_)
      · have hlt' : k < n := by simpa using hlt
        obtain ⟨b, off, t, rfl, hbl, ht, hrt⟩ := hx.at_ hlt'
        refine H_skip ?_
        refine thenJ_normal ?_
        refine H_seq ?_
        refine H_block ?_
        refine H_seq ?_
        refine R0 ?_
        refine xV (e_mv (v := .slice _ _ _) (q0 rfl)) rfl rfl ?_
        refine xV (e_mv (v := .int _ _) (q0 rfl)) rfl rfl ?_
        refine xV (e_idx _ Tryz.underlying25 Tryz.sizeOf140 (q0 rfl) (q0 rfl) (fun _ => ⟨rfl, by omega⟩)) rfl rfl ?_
        refine xV (eS Tryz.isAgg140 Tryz.sizeOf140 (q0 rfl)) rfl rfl ?_
        refine X_alloc Tryz.zeroValue140 rfl fun b4 => ?_
        refine X_st (v := .agg _) rfl rfl Tryz.sizeOf140 ?_
        refine XN ?_
        refine thenJ_normal ?_
        refine H_seq ?_
        refine H_seq ?_
        refine R0 ?_
        refine xV (e_fld Tryz.underlying140 rfl Tryz.sizeOf3 rfl (q0 rfl)) rfl rfl ?_
        refine xV (eL Tryz.isAgg3 (q0 rfl)) rfl rfl ?_
        refine xC (en Tryz.call106 (ha3 (q0 rfl) (q0 rfl) (q0 rfl))) (fun _ w _ => rtin_w t.from_ 0 4294943999 w) rfl rfl ?_
        refine xV (e_not (q0 rfl)) rfl rfl ?_
        refine xV (e_mv (v := .bool _) (q0 rfl)) rfl rfl ?_
        refine xVF (e_fld Tryz.underlying140 rfl Tryz.sizeOf3 rfl (q0 rfl)) rfl rfl rfl rfl ?_
        refine xVF (eL Tryz.isAgg3 (q1 rfl)) rfl rfl rfl rfl ?_
        refine xCF (en Tryz.call106 (ha3 (q1 (v := .int _ _) rfl) (q0 rfl) (q0 rfl))) (fun _ w _ => rtin_w t.unlock 0 1000000 w) rfl rfl rfl rfl ?_
        refine xVF (e_not (q1 rfl)) rfl rfl rfl rfl ?_
        refine xV (e_or (q0 rfl) rfl (fun h => by first | rfl | (rw [h]; rfl))) rfl rfl ?_
        refine xV (e_mv (v := .bool _) (q0 rfl)) rfl rfl ?_
        refine xVF (e_fld Tryz.underlying140 rfl Tryz.sizeOf3 rfl (q0 rfl)) rfl rfl rfl rfl ?_
        refine xVF (eL Tryz.isAgg3 (q1 rfl)) rfl rfl rfl rfl ?_
        refine xCF (en Tryz.call106 (ha3 (q1 (v := .int _ _) rfl) (q0 rfl) (q0 rfl))) (fun _ w _ => rtin_w t.price 0 1000000 w) rfl rfl rfl rfl ?_
        refine xVF (e_not (q1 rfl)) rfl rfl rfl rfl ?_
        refine xV (e_or (q0 rfl) rfl (fun h => by first | rfl | (rw [h]; rfl))) rfl rfl ?_
        refine xV (e_mv (v := .bool _) (q0 rfl)) rfl rfl ?_
        refine xVF (e_fld Tryz.underlying140 rfl Tryz.sizeOf3 rfl (q0 rfl)) rfl rfl rfl rfl ?_
        refine xVF (eL Tryz.isAgg3 (q1 rfl)) rfl rfl rfl rfl ?_
        refine xCF (en Tryz.call106 (ha3 (q1 (v := .int _ _) rfl) (q0 rfl) (q0 rfl))) (fun _ w _ => rtin_w t.pause 0 1000000 w) rfl rfl rfl rfl ?_
        refine xVF (e_not (q1 rfl)) rfl rfl rfl rfl ?_
        refine xV (e_or (q0 rfl) rfl (fun h => by first | rfl | (rw [h]; rfl))) rfl rfl ?_
        refine xV (e_mv (v := .bool _) (q0 rfl)) rfl rfl ?_
        refine xVF (e_fld Tryz.underlying140 rfl Tryz.sizeOf3 rfl (q0 rfl)) rfl rfl rfl rfl ?_
        refine xVF (eL Tryz.isAgg3 (q1 rfl)) rfl rfl rfl rfl ?_
        refine xCF (en Tryz.call106 (ha3 (q1 (v := .int _ _) rfl) (q0 rfl) (q0 rfl))) (fun _ w _ => rtin_w t.step 1 86400 w) rfl rfl rfl rfl ?_
        refine xVF (e_not (q1 rfl)) rfl rfl rfl rfl ?_
        refine xV (e_or (q0 rfl) rfl (fun h => by first | rfl | (rw [h]; rfl))) rfl rfl ?_
        refine xV (e_mv (v := .bool _) (q0 rfl)) rfl rfl ?_
        refine xVF (e_fld Tryz.underlying140 rfl Tryz.sizeOf3 rfl (q0 rfl)) rfl rfl rfl rfl ?_
        refine xVF (eL Tryz.isAgg3 (q1 rfl)) rfl rfl rfl rfl ?_
        refine xCF (en Tryz.call106 (ha3 (q1 (v := .int _ _) rfl) (q0 rfl) (q0 rfl))) (fun _ w _ => rtin_w t.free 0 86400 w) rfl rfl rfl rfl ?_
        refine xVF (e_not (q1 rfl)) rfl rfl rfl rfl ?_
        refine xV (e_or (q0 rfl) rfl (fun h => by first | rfl | (rw [h]; rfl))) rfl rfl ?_
        refine XN ?_
        refine thenJ_normal ?_
        refine H_cond rfl (fun hb => ?_) (fun hb => ?_)
        · have hb' : tfOk t = false := by
            have h : (((((!inI t.from_ 0 4294943999 || !inI t.unlock 0 1000000) || !inI t.price 0 1000000) || !inI t.pause 0 1000000) || !inI t.step 1 86400) || !inI t.free 0 86400) = true := hb
            unfold tfOk
            revert h
            cases inI t.from_ 0 4294943999 <;> cases inI t.unlock 0 1000000 <;> cases inI t.price 0 1000000 <;> cases inI t.pause 0 1000000 <;> cases inI t.step 1 86400 <;> cases inI t.free 0 86400 <;> decide
          refine H_seq ?_
          refine R0 ?_
          refine xV (e_as (v := .int _ _) (q0 rfl)) rfl rfl ?_
          refine XN ?_
          refine thenJ_normal ?_
          refine H_ret ?_
          refine thenJ_ret ?_
          refine blockJ_ret ?_
          refine thenJ_ret ?_
          refine loopJ_ret ?_
          refine blockJ_ret ?_
          refine thenJ_ret ?_
          exact ret1 (v := .int _ _) rfl rfl rfl fun w' hw => ⟨ret_int (by rw [hall, tfErrL_bad ht hb']), hw.1⟩
        · have hb' : tfOk t = true := by
            have h : (((((!inI t.from_ 0 4294943999 || !inI t.unlock 0 1000000) || !inI t.price 0 1000000) || !inI t.pause 0 1000000) || !inI t.step 1 86400) || !inI t.free 0 86400) = false := hb
            unfold tfOk
            revert h
            cases inI t.from_ 0 4294943999 <;> cases inI t.unlock 0 1000000 <;> cases inI t.price 0 1000000 <;> cases inI t.pause 0 1000000 <;> cases inI t.step 1 86400 <;> cases inI t.free 0 86400 <;> decide
          refine H_skip ?_
          refine thenJ_normal ?_
          refine H_seq ?_
          refine H_cut [55, 56, 57, 58, 59, 60, 61, 62, 63, 64, 65, 66, 67, 68, 69, 70, 71, 72, 73, 74, 75, 76] (fun o : Bool => [(76, .bool o)]) (fun _ => [box b4 140 t.cells]) (fun o => o = tfOrd (tfPre ts k) t) ?_ ?_
          · rcases Nat.eq_zero_or_pos k with h00 | h00
            · subst h00
              refine R1 rfl (by decide +kernel) ?_
              refine xV (e_mv (v := .int _ _) (q0 rfl)) rfl rfl ?_
              refine xV (e_eq (q0 rfl) (q0 rfl)) rfl rfl ?_
              refine xV (e_mv (v := .bool _) (q0 rfl)) rfl rfl ?_
              refine xVT (e_fld Tryz.underlying140 rfl Tryz.sizeOf3 rfl (q0 rfl)) rfl rfl rfl rfl ?_
              refine xVT (eL Tryz.isAgg3 (q1 rfl)) rfl rfl rfl rfl ?_
              refine xVT (e_ne (q1 rfl) (q0 rfl)) rfl rfl rfl rfl ?_
              refine xV (e_and (q0 rfl) rfl (fun h => by first | rfl | (rw [h]; rfl))) rfl rfl ?_
              refine xV (e_mv (v := .bool _) (q0 rfl)) rfl rfl ?_
              refine xVF (e_mv (v := .int _ _) (q0 rfl)) rfl rfl rfl rfl ?_
              refine xVF (e_gt (q1 rfl) (q0 rfl)) rfl rfl rfl rfl ?_
              refine xVF (e_mv (v := .bool _) (q1 rfl)) rfl rfl rfl rfl ?_
              refine xVT2 (e_dead (v := .pointer none) (by simp)) rfl rfl rfl rfl ?_
              refine xVT2 (e_dead (v := .int .i64 0) (by simp)) rfl rfl rfl rfl ?_
              refine xVT2 (e_dead (v := .slice none 0 0) (by simp)) rfl rfl rfl rfl ?_
              refine xVT2 (e_dead (v := .int .i64 0) (by simp)) rfl rfl rfl rfl ?_
              refine xVT2 (e_dead (v := .int .i64 0) (by simp)) rfl rfl rfl rfl ?_
              refine xVT2 (e_dead (v := .pointer none) (by simp)) rfl rfl rfl rfl ?_
              refine xVT2 (e_dead (v := .pointer none) (by simp)) rfl rfl rfl rfl ?_
              refine xVT2 (e_dead (v := .int .i64 0) (by simp)) rfl rfl rfl rfl ?_
              refine xVT2 (e_dead (v := .bool false) (by simp)) rfl rfl rfl rfl ?_
              refine xVF (e_and (q1 rfl) rfl (fun h => by first | rfl | (rw [h]; rfl))) rfl rfl rfl rfl ?_
              refine xV (e_or (q0 rfl) rfl (fun h => by first | rfl | (rw [h]; rfl))) rfl rfl ?_
              refine XN ?_
              exact cutJ_normal _ (by repeat (first | exact agree_self | exact agree_over | refine agree_upd rfl ?_ | refine agree_updL rfl ?_ | refine agree_over2 rfl ?_)) ⟨rfl, trivial⟩ (fun w hw => hw) rfl (by simp [tfPre, tfOrd])
            · obtain ⟨j, rfl⟩ : ∃ j, k = j + 1 := ⟨k - 1, by omega⟩
              have hjn : j < n := by omega
              obtain ⟨q, hq, hrq⟩ := hx.row hjn
              refine R1 rfl (by decide +kernel) ?_
              refine xV (e_mv (v := .int _ _) (q0 rfl)) rfl rfl ?_
              refine xV (e_eq (q0 rfl) (q0 rfl)) rfl rfl ?_
              refine xV (e_mv (v := .bool _) (q0 rfl)) rfl rfl ?_
              refine xVT (e_fld Tryz.underlying140 rfl Tryz.sizeOf3 rfl (q0 rfl)) rfl rfl rfl rfl ?_
              refine xVT (eL Tryz.isAgg3 (q1 rfl)) rfl rfl rfl rfl ?_
              refine xVT (e_ne (q1 rfl) (q0 rfl)) rfl rfl rfl rfl ?_
              refine xV (e_and (q0 rfl) rfl (fun h => by first | rfl | (rw [h]; rfl))) rfl rfl ?_
              refine xV (e_mv (v := .bool _) (q0 rfl)) rfl rfl ?_
              refine xVF (e_mv (v := .int _ _) (q0 rfl)) rfl rfl rfl rfl ?_
              refine xVF (e_gt (q1 rfl) (q0 rfl)) rfl rfl rfl rfl ?_
              refine xVF (e_mv (v := .bool _) (q1 rfl)) rfl rfl rfl rfl ?_
              refine xVT2 (e_fld Tryz.underlying140 rfl Tryz.sizeOf3 rfl (q0 rfl)) rfl rfl rfl rfl ?_
              refine xVT2 (eL Tryz.isAgg3 (q1 rfl)) rfl rfl rfl rfl ?_
              refine xVT2 (e_mv (v := .slice _ _ _) (q0 rfl)) rfl rfl rfl rfl ?_
              refine xVT2 (e_mv (v := .int _ _) (q0 rfl)) rfl rfl rfl rfl ?_
              refine xVT2 (e_sub (r := ((j : Nat) : Int)) (q1 rfl) (q0 rfl) (fun _ => ⟨by omega, by omega, by omega⟩)) rfl rfl rfl rfl ?_
              refine xVT2 (e_idx j Tryz.underlying25 Tryz.sizeOf140 (q1 rfl) (q1 rfl) (fun _ => ⟨rfl, hjn⟩)) rfl rfl rfl rfl ?_
              refine xVT2 (e_fld Tryz.underlying140 rfl Tryz.sizeOf3 rfl (q1 rfl)) rfl rfl rfl rfl ?_
              refine xVT2 (e_ld (v := .int .i64 q.from_) Tryz.isAgg3 (q1 rfl) (by first | exact rc (j := 0) hrq ‹_› rfl | exact rc0 hrq ‹_› rfl)) rfl rfl rfl rfl ?_
              refine xVT2 (e_le (q1 rfl) (q1 rfl)) rfl rfl rfl rfl ?_
              refine xVF (e_and (q1 rfl) rfl (fun h => by first | rfl | (rw [h]; rfl))) rfl rfl rfl rfl ?_
              refine xV (e_or (q0 rfl) rfl (fun h => by first | rfl | (rw [h]; rfl))) rfl rfl ?_
              refine XN ?_
              exact cutJ_normal _ (by repeat (first | exact agree_self | exact agree_over | refine agree_upd rfl ?_ | refine agree_updL rfl ?_ | refine agree_over2 rfl ?_)) ⟨rfl, trivial⟩ (fun w hw => hw) rfl (by
                simp only [tfPre, hq, tfOrd]
                have h3 : decide (((j + 1 : Nat) : Int) = 0) = false := decide_eq_false (by omega)
                have h4 : decide ((0 : Int) < ((j + 1 : Nat) : Int)) = true := decide_eq_true (by omega)
                rw [h3, h4]; simp)
          · rintro o g2 ho
            subst ho
            refine thenJ_normal ?_
            refine H_cond rfl (fun ho => ?_) (fun ho => ?_)
            · refine H_seq ?_
              refine R0 ?_
              refine xV (e_as (v := .int _ _) (q0 rfl)) rfl rfl ?_
              refine XN ?_
              refine thenJ_normal ?_
              refine H_ret ?_
              refine blockJ_ret ?_
              refine thenJ_ret ?_
              refine loopJ_ret ?_
              refine blockJ_ret ?_
              refine thenJ_ret ?_
              exact ret1 (v := .int _ _) rfl rfl rfl fun w' hw => ⟨ret_int (by rw [hall, tfErrL_ord ht hb' ho]), hw.1⟩
            · have hst := tfErrL_step ht hb' ho
              refine H_skip ?_
              refine blockJ_normal ?_
              refine thenJ_normal ?_
              refine R0 ?_
              refine xV (e_mv (v := .int _ _) (q0 rfl)) rfl rfl ?_
              refine xV (e_add (q0 rfl) (q0 rfl) (fun _ => ⟨rfl, by omega, by omega⟩)) rfl rfl ?_
              refine xV (e_as (v := .int _ _) (q0 rfl)) rfl rfl ?_
              refine XN ?_
              exact loopJ_normal (k + 1) (by repeat (first | exact agree_self | exact agree_over | refine agree_upd rfl ?_ | refine agree_updL rfl ?_ | refine agree_over2 rfl ?_)) ⟨rfl, trivial⟩ (fun w hw => hw.tail) rfl ⟨by omega, by rw [hall, hst]⟩ (by show n - (k + 1) < n - k; omega)
      · have hend : k = n := by simp at hlt; omega
        have hall2 : tfErrL (tfPre ts 0) (ts.drop 0) = 0 := by
          rw [hall, List.drop_of_length_le (by omega)]
          unfold tfErrL; rfl
        refine H_exit ?_
        refine thenJ_exit ?_
        refine loopJ_exit ?_
        refine blockJ_hit ?_
        refine thenJ_normal ?_
        refine H_seq ?_
        refine R0 ?_
        refine xV (e_as (v := .int _ _) (q0 rfl)) rfl rfl ?_
        refine XN ?_
        refine thenJ_normal ?_
        refine H_ret ?_
        exact ret1 (v := .int _ _) rfl rfl rfl fun w' hw => ⟨ret_int hall2.symm, hw.1⟩
end Go.Proofs.Far

/-
  The walks: passes checked, both ways.
-/
namespace Go.Proofs.Far
open Go Go.RowKit Go.Proofs.E

/-! numbers that were met -/
def hasI (l : List Int) (i : Int) : Bool := l.any fun y => y == i
def keysI (l : List Int) : List (Int × Value) := l.map fun i => (i, .bool true)
theorem look_keysI (l : List Int) (r : Int) : (mlook (keysI l) r).getD (.bool false) = .bool (hasI l r) := by
  induction l with
  | nil => rfl
  | cons v l ih =>
    by_cases h : v = r
    · simp [mlook, keysI, hasI, h]
    · have hb : (v == r) = false := beq_eq_false_iff_ne.2 h
      simp only [mlook, keysI, hasI, List.map_cons, List.find?_cons, List.any_cons, hb, Bool.false_or] at ih ⊢
      exact ih
theorem mput_keysI (l : List Int) (v : Int) (h : hasI l v = false) : mput (keysI l) v (.bool true) = keysI (l ++ [v]) := by
  induction l with
  | nil => rfl
  | cons x l ih =>
    simp only [hasI, List.any_cons, Bool.or_eq_false_iff] at h
    simp only [keysI, List.map_cons, List.cons_append, mput, h.1, Bool.false_eq_true, if_false]
    rw [← keysI, ih h.2]; rfl
theorem snocT {α : Type} (l : List α) (k : Nat) (v : α) (h : l[k]? = some v) : l.take (k + 1) = l.take k ++ [v] := by
  rw [List.take_add_one, h]; rfl
theorem hasI_snoc {l : List Int} {r x : Int} {j : Nat} (h : hasI (l.take j) r = false) (hx : l[j]? = some x) (hne : ¬ x = r) : hasI (l.take (j + 1)) r = false := by
  rw [snocT _ _ _ hx]; unfold hasI at h ⊢; rw [List.any_append, h]; simp [hne]
theorem hasI_at {l : List Int} {r x : Int} {j k : Nat} (hj : j < k) (hx : l[j]? = some x) (he : x = r) : hasI (l.take k) r = true := by
  unfold hasI
  exact List.any_eq_true.2 ⟨x, List.mem_of_getElem? (i := j) (by rw [List.getElem?_take_of_lt hj, hx]), by simp [he]⟩
theorem twice_yes {l : List Int} {k : Nat} {x : Int} (hx : l[k]? = some x) (h : hasI (l.take k) x = true) : twiceI (l.take k) (l.drop k) = true := by
  rw [drop_at hx]
  unfold twiceI
  unfold hasI at h
  rw [h]; rfl
theorem twice_next {l : List Int} {k : Nat} {x : Int} (hx : l[k]? = some x) (h : hasI (l.take k) x = false) : twiceI (l.take k) (l.drop k) = twiceI (l.take (k + 1)) (l.drop (k + 1)) := by
  rw [drop_at hx, snocT _ _ _ hx]
  conv => lhs; unfold twiceI
  unfold hasI at h
  rw [h, Bool.false_or]

def Pas.cells (p : Pas) : List Value := [.int .i64 p.id, .int .i64 p.rider, .int .i64 p.from_, .int .i64 p.to_, .int .i64 p.perDay, .int .i64 p.secs]
abbrev PassAt (w : World) (A : Option Addr) (n : Nat) (ps : List Pas) : Prop := SlAt w 6 Pas.cells A n ps
theorem fl162 {fs : Array Field} (h : Tryz.prog.underlying 162 = some (.struct fs) := by exact Tryz.underlying162) : FieldsLie Tryz.prog fs [(0, 1), (1, 1), (2, 2), (4, 1), (5, 1)] := by
  rw [Tryz.underlying162] at h
  cases h
  intro w
  kernel_rfl
theorem fl111 {fs : Array Field} (h : Tryz.prog.underlying 111 = some (.struct fs) := by exact Tryz.underlying111) : FieldsLie Tryz.prog fs [(0, 1), (1, 1)] := by
  rw [Tryz.underlying111] at h
  cases h
  intro w
  kernel_rfl
theorem pin_w (n lo hi : Int) (w : World) : Calls Tryz.prog 112 #[.int .i64 n, .int .i64 lo, .int .i64 hi] w fun e w' => e = .returned (.bool (inI n lo hi)) ∧ Bel w w' := by
  refine H_enter Tryz.func112 rfl Tryz.ntmps112 rfl ?_
  refine H_seq ?_
  refine R0 ?_
  refine xV (e_as (v := .bool _) (q0 rfl)) rfl rfl ?_
  refine XN ?_
  refine thenJ_normal ?_
  refine H_seq ?_
  refine R0 ?_
  refine xV (e_mv (v := .int _ _) (q0 rfl)) rfl rfl ?_
  refine xV (e_mv (v := .int _ _) (q0 rfl)) rfl rfl ?_
  refine xV (e_le (q0 rfl) (q0 rfl)) rfl rfl ?_
  refine xV (e_mv (v := .bool _) (q0 rfl)) rfl rfl ?_
  refine xVT (e_mv (v := .int _ _) (q0 rfl)) rfl rfl rfl rfl ?_
  refine xVT (e_mv (v := .int _ _) (q0 rfl)) rfl rfl rfl rfl ?_
  refine xVT (e_le (q1 rfl) (q1 rfl)) rfl rfl rfl rfl ?_
  refine xV (e_and (q0 rfl) rfl (fun h => by first | rfl | (rw [h]; rfl))) rfl rfl ?_
  refine xV (e_as (v := .bool _) (q0 rfl)) rfl rfl ?_
  refine XN ?_
  refine thenJ_normal ?_
  refine H_ret ?_
  exact ret1 (v := .bool _) rfl rfl rfl fun w' hw => ⟨rfl, hw.1⟩
theorem pas_bad {l : List Pas} {k : Nat} {p : Pas} (hl : l.length ≤ 64) (h : l[k]? = some p) (hb : pasBad p = true) : pasErr l = 1 := by
  unfold pasErr
  rw [if_neg (by omega), if_pos]
  exact List.any_eq_true.2 ⟨p, List.mem_of_getElem? h, hb⟩
theorem any_next {l : List Pas} {k : Nat} {p : Pas} (h : l[k]? = some p) (h0 : (l.take k).any pasBad = false) (hb : pasBad p = false) : (l.take (k + 1)).any pasBad = false := by
  rw [snocT _ _ _ h, List.any_append, h0]; simp [hb]
set_option maxHeartbeats 1000000 in
set_option maxRecDepth 20000 in
theorem pcheck_w (A : Option Addr) (n c : Nat) (ps : List Pas) (w : World) (hx : PassAt w A n ps) : Calls Tryz.prog 75 #[.slice A n c] w fun e w' => e = .returned (.int .i64 (pasErr ps)) ∧ Bel w w' := by
  have hl := hx.1
  have hn := hx.2.1
  refine H_enter Tryz.func75 rfl Tryz.ntmps75 rfl ?_
  refine H_seq ?_
  refine R0 ?_
  refine xV (e_as (v := .int _ _) (q0 rfl)) rfl rfl ?_
  refine XN ?_
  refine thenJ_normal ?_
  refine H_seq ?_
  refine H_seq ?_
  refine R0 ?_
  refine xV (e_mv (v := .slice _ _ _) (q0 rfl)) rfl rfl ?_
  refine xV (e_len Tryz.underlying26 (q0 rfl)) rfl rfl ?_
  refine xV (e_gt (q0 rfl) (q0 rfl)) rfl rfl ?_
  refine XN ?_
  refine thenJ_normal ?_
  refine H_cond rfl (fun h1 => ?_) (fun h1 => ?_)
  · have h1' : pasErr ps = 8 := by unfold pasErr; rw [if_pos (by simp at h1; omega)]
    refine H_seq ?_
    refine R0 ?_
    refine xV (e_as (v := .int _ _) (q0 rfl)) rfl rfl ?_
    refine XN ?_
    refine thenJ_normal ?_
    refine H_ret ?_
    refine thenJ_ret ?_
    exact ret1 (v := .int _ _) rfl rfl rfl fun w' hw => ⟨ret_int h1'.symm, hw.1⟩
  · have h64 : ps.length ≤ 64 := by simp at h1; omega
    refine H_skip ?_
    refine thenJ_normal ?_
    refine H_seq ?_
    refine H_seq ?_
    refine R0 ?_
    refine xV (e_mv (v := .slice _ _ _) (q0 rfl)) rfl rfl ?_
    refine xV (e_len Tryz.underlying26 (q0 rfl)) rfl rfl ?_
    refine xV (e_mv (v := .int _ _) (q0 rfl)) rfl rfl ?_
    refine XN ?_
    refine thenJ_normal ?_
    refine H_block ?_
    refine H_loop [2, 4, 13, 14, 15, 16, 17, 18, 19, 20, 21, 22, 23, 24, 25, 26, 27, 28, 29, 30, 31, 32, 33, 34, 35, 36, 37, 38, 39, 40, 41, 42, 43, 44, 45, 46, 47, 48, 49, 50, 51, 52, 53, 54, 55, 56, 57, 58] (fun k : Nat => [(13, .int .i64 k)]) (fun _ => []) (fun k => k ≤ n ∧ (ps.take k).any pasBad = false) (fun k => n - k) 0 ⟨rfl, trivial⟩ (fun w hw => hw) rfl ⟨Nat.zero_le _, rfl⟩ ?_
    rintro k g ⟨hk, hall⟩
    refine H_seq ?_
    refine R0 ?_
    refine xV (e_lt (q0 rfl) (q0 rfl)) rfl rfl ?_
    refine XN ?_
    refine thenJ_normal ?_
    refine H_seq ?_
    refine H_cond rfl (fun hlt => ?_) (fun hlt => ?_)
    · have hlt' : k < n := by simpa using hlt
      obtain ⟨b, off, p, rfl, hbl, hp, hrp⟩ := hx.at_ hlt'
      refine H_skip ?_
      refine thenJ_normal ?_
      refine H_seq ?_
      refine H_block ?_
      refine H_seq ?_
      refine R0 ?_
      refine xV (e_idx _ Tryz.underlying26 Tryz.sizeOf162 (q0 rfl) (q0 rfl) (fun _ => ⟨rfl, by omega⟩)) rfl rfl ?_
      refine xV (eS Tryz.isAgg162 Tryz.sizeOf162 (q0 rfl)) rfl rfl ?_
      refine X_alloc Tryz.zeroValue162 rfl fun b4 => ?_
      refine X_st (v := .agg _) rfl rfl Tryz.sizeOf162 ?_
      refine XN ?_
      refine thenJ_normal ?_
      refine H_seq ?_
      refine H_seq ?_
      refine R0 ?_
      refine xV (e_fld Tryz.underlying162 rfl Tryz.sizeOf3 rfl (q0 rfl)) rfl rfl ?_
      refine xV (eL Tryz.isAgg3 (q0 rfl)) rfl rfl ?_
      refine xC (en Tryz.call112 (ha3 (q0 rfl) (q0 rfl) (q0 rfl))) (fun _ w _ => pin_w p.id 1 1000000 w) rfl rfl ?_
      refine xV (e_not (q0 rfl)) rfl rfl ?_
      refine xV (e_mv (v := .bool _) (q0 rfl)) rfl rfl ?_
      refine xVF (e_fld Tryz.underlying162 rfl Tryz.sizeOf3 rfl (q0 rfl)) rfl rfl rfl rfl ?_
      refine xVF (eL Tryz.isAgg3 (q1 rfl)) rfl rfl rfl rfl ?_
      refine xCF (en Tryz.call112 (ha3 (q1 (v := .int _ _) rfl) (q0 rfl) (q0 rfl))) (fun _ w _ => pin_w p.rider 0 127 w) rfl rfl rfl rfl ?_
      refine xVF (e_not (q1 rfl)) rfl rfl rfl rfl ?_
      refine xV (e_or (q0 rfl) rfl (fun h => by first | rfl | (rw [h]; rfl))) rfl rfl ?_
      refine xV (e_mv (v := .bool _) (q0 rfl)) rfl rfl ?_
      refine xVF (e_fld Tryz.underlying162 rfl Tryz.sizeOf3 rfl (q0 rfl)) rfl rfl rfl rfl ?_
      refine xVF (eL Tryz.isAgg3 (q1 rfl)) rfl rfl rfl rfl ?_
      refine xCF (en Tryz.call112 (ha3 (q1 (v := .int _ _) rfl) (q0 rfl) (q0 rfl))) (fun _ w _ => pin_w p.perDay 1 256 w) rfl rfl rfl rfl ?_
      refine xVF (e_not (q1 rfl)) rfl rfl rfl rfl ?_
      refine xV (e_or (q0 rfl) rfl (fun h => by first | rfl | (rw [h]; rfl))) rfl rfl ?_
      refine xV (e_mv (v := .bool _) (q0 rfl)) rfl rfl ?_
      refine xVF (e_fld Tryz.underlying162 rfl Tryz.sizeOf3 rfl (q0 rfl)) rfl rfl rfl rfl ?_
      refine xVF (eL Tryz.isAgg3 (q1 rfl)) rfl rfl rfl rfl ?_
      refine xCF (en Tryz.call112 (ha3 (q1 (v := .int _ _) rfl) (q0 rfl) (q0 rfl))) (fun _ w _ => pin_w p.secs 0 86400 w) rfl rfl rfl rfl ?_
      refine xVF (e_not (q1 rfl)) rfl rfl rfl rfl ?_
      refine xV (e_or (q0 rfl) rfl (fun h => by first | rfl | (rw [h]; rfl))) rfl rfl ?_
      refine XN ?_
      refine thenJ_normal ?_
      refine H_cond rfl (fun hb => ?_) (fun hb => ?_)
      · have hb' : pasBad1 p = true := hb
        refine H_seq ?_
        refine R0 ?_
        refine xV (e_as (v := .int _ _) (q0 rfl)) rfl rfl ?_
        refine XN ?_
        refine thenJ_normal ?_
        refine H_ret ?_
        refine thenJ_ret ?_
        refine blockJ_ret ?_
        refine thenJ_ret ?_
        refine loopJ_ret ?_
        refine blockJ_ret ?_
        refine thenJ_ret ?_
        exact ret1 (v := .int _ _) rfl rfl rfl fun w' hw => ⟨ret_int (pas_bad h64 hp (by unfold pasBad; rw [hb']; rfl)).symm, hw.1⟩
      · have hb' : pasBad1 p = false := hb
        refine H_skip ?_
        refine thenJ_normal ?_
        refine H_seq ?_
        refine R0 ?_
        refine xV (e_fld Tryz.underlying162 rfl Tryz.sizeOf111 rfl (q0 rfl)) rfl rfl ?_
        refine xV (e_fld Tryz.underlying111 rfl Tryz.sizeOf3 rfl (q0 rfl)) rfl rfl ?_
        refine xV (eL Tryz.isAgg3 (q0 rfl)) rfl rfl ?_
        refine xV (e_lt (q0 rfl) (q0 rfl)) rfl rfl ?_
        refine xV (e_mv (v := .bool _) (q0 rfl)) rfl rfl ?_
        refine xVF (e_fld Tryz.underlying162 rfl Tryz.sizeOf111 rfl (q0 rfl)) rfl rfl rfl rfl ?_
        refine xVF (e_fld Tryz.underlying111 rfl Tryz.sizeOf3 rfl (q1 rfl)) rfl rfl rfl rfl ?_
        refine xVF (eL Tryz.isAgg3 (q1 rfl)) rfl rfl rfl rfl ?_
        refine xVF (e_fld Tryz.underlying162 rfl Tryz.sizeOf111 rfl (q0 rfl)) rfl rfl rfl rfl ?_
        refine xVF (e_fld Tryz.underlying111 rfl Tryz.sizeOf3 rfl (q1 rfl)) rfl rfl rfl rfl ?_
        refine xVF (eL Tryz.isAgg3 (q1 rfl)) rfl rfl rfl rfl ?_
        refine xVF (e_ge (q1 rfl) (q1 rfl)) rfl rfl rfl rfl ?_
        refine xV (e_or (q0 rfl) rfl (fun h => by first | rfl | (rw [h]; rfl))) rfl rfl ?_
        refine xV (e_mv (v := .bool _) (q0 rfl)) rfl rfl ?_
        refine xVF (e_fld Tryz.underlying162 rfl Tryz.sizeOf111 rfl (q0 rfl)) rfl rfl rfl rfl ?_
        refine xVF (e_fld Tryz.underlying111 rfl Tryz.sizeOf3 rfl (q1 rfl)) rfl rfl rfl rfl ?_
        refine xVF (eL Tryz.isAgg3 (q1 rfl)) rfl rfl rfl rfl ?_
        refine xVF (e_gt (q1 rfl) (q0 rfl)) rfl rfl rfl rfl ?_
        refine xV (e_or (q0 rfl) rfl (fun h => by first | rfl | (rw [h]; rfl))) rfl rfl ?_
        refine XN ?_
        refine thenJ_normal ?_
        refine H_cond rfl (fun hb2 => ?_) (fun hb2 => ?_)
        · have hb2' : pasBad2 p = true := hb2
          refine H_seq ?_
          refine R0 ?_
          refine xV (e_as (v := .int _ _) (q0 rfl)) rfl rfl ?_
          refine XN ?_
          refine thenJ_normal ?_
          refine H_ret ?_
          refine blockJ_ret ?_
          refine thenJ_ret ?_
          refine loopJ_ret ?_
          refine blockJ_ret ?_
          refine thenJ_ret ?_
          exact ret1 (v := .int _ _) rfl rfl rfl fun w' hw => ⟨ret_int (pas_bad h64 hp (by unfold pasBad; rw [hb2', Bool.or_true])).symm, hw.1⟩
        · have hb2' : pasBad2 p = false := hb2
          refine H_skip ?_
          refine blockJ_normal ?_
          refine thenJ_normal ?_
          refine R0 ?_
          refine xV (e_add (q0 rfl) (q0 rfl) (fun _ => ⟨rfl, by omega, by omega⟩)) rfl rfl ?_
          refine xV (e_mv (v := .int _ _) (q0 rfl)) rfl rfl ?_
          refine XN ?_
          exact loopJ_normal (k + 1) (by repeat (first | exact agree_self | exact agree_over | refine agree_upd rfl ?_ | refine agree_updL rfl ?_ | refine agree_over2 rfl ?_)) ⟨rfl, trivial⟩ (fun w hw => hw.tail) rfl ⟨by omega, any_next hp hall (by unfold pasBad; rw [hb', hb2']; rfl)⟩ (by show n - (k + 1) < n - k; omega)
    · have hend : k = n := by simp at hlt; omega
      rw [hend, List.take_of_length_le (by omega)] at hall
      obtain ⟨ids, hids⟩ : ∃ ids : List Int, ids = ps.map (·.id) := ⟨_, rfl⟩
      have hidl : ids.length = n := by rw [hids, List.length_map, hl]
      have herr : pasErr ps = if twiceI (ids.take 0) (ids.drop 0) = true then 6 else 0 := by
        unfold pasErr
        rw [if_neg (by omega), hall, if_neg (by decide), ← hids]; rfl
      rw [herr]
      refine H_exit ?_
      refine thenJ_exit ?_
      refine loopJ_exit ?_
      refine blockJ_hit ?_
      refine thenJ_normal ?_
      refine H_seq ?_
      refine R0 ?_
      refine X_makeMap rfl fun bm => ?_
      refine xV (e_as (v := .map _) (q0 rfl)) rfl rfl ?_
      refine XN ?_
      refine thenJ_normal ?_
      refine H_seq ?_
      refine H_seq ?_
      refine R0 ?_
      refine xV (e_mv (v := .slice _ _ _) (q0 rfl)) rfl rfl ?_
      refine xV (e_len Tryz.underlying26 (q0 rfl)) rfl rfl ?_
      refine xV (e_mv (v := .int _ _) (q0 rfl)) rfl rfl ?_
      refine XN ?_
      refine thenJ_normal ?_
      refine H_block ?_
      refine H_loop [2, 7, 62, 63, 64, 65, 66, 67, 68, 69, 70, 71, 72, 73] (fun k : Nat => [(62, .int .i64 k)]) (fun k => [imap bm (keysI (ids.take k))]) (fun k => k ≤ n ∧ twiceI (ids.take 0) (ids.drop 0) = twiceI (ids.take k) (ids.drop k)) (fun k => n - k) 0 ⟨rfl, trivial⟩ (fun _ h => h) rfl ⟨Nat.zero_le _, rfl⟩ ?_
      rintro k g ⟨hk, hp⟩
      refine H_seq ?_
      refine R0 ?_
      refine xV (e_lt (q0 rfl) (q0 rfl)) rfl rfl ?_
      refine XN ?_
      refine thenJ_normal ?_
      refine H_seq ?_
      refine H_cond rfl (fun hlt2 => ?_) (fun hlt2 => ?_)
      · have hlt2' : k < n := by simpa using hlt2
        obtain ⟨b, off, p, rfl, hbl, hpk, hrp⟩ := hx.at_ hlt2'
        have hik : ids[k]? = some p.id := by rw [hids]; simp [hpk]
        refine H_skip ?_
        refine thenJ_normal ?_
        refine H_seq ?_
        refine H_block ?_
        refine H_seq ?_
        refine R0 ?_
        refine xV (e_idx _ Tryz.underlying26 Tryz.sizeOf162 (q0 rfl) (q0 rfl) (fun _ => ⟨rfl, by omega⟩)) rfl rfl ?_
        refine xV (eS Tryz.isAgg162 Tryz.sizeOf162 (q0 rfl)) rfl rfl ?_
        refine X_alloc Tryz.zeroValue162 rfl fun b7 => ?_
        refine X_st (v := .agg _) rfl rfl Tryz.sizeOf162 ?_
        refine XN ?_
        refine thenJ_normal ?_
        refine H_seq ?_
        refine H_seq ?_
        refine R0 ?_
        refine xV (e_mv (v := .map _) (q0 rfl)) rfl rfl ?_
        refine xV (e_fld Tryz.underlying162 rfl Tryz.sizeOf3 rfl (q0 rfl)) rfl rfl ?_
        refine xV (eL Tryz.isAgg3 (q0 rfl)) rfl rfl ?_
        refine xV (e_look 1 Tryz.underlying219 Tryz.underlying3 Tryz.zeroValue4 (q0 rfl) (q0 rfl) rfl (fun _ => look_keysI _ _)) rfl rfl ?_
        refine XN ?_
        refine thenJ_normal ?_
        refine H_cond rfl (fun h3 => ?_) (fun h3 => ?_)
        · refine H_seq ?_
          refine R0 ?_
          refine xV (e_as (v := .int _ _) (q0 rfl)) rfl rfl ?_
          refine XN ?_
          refine thenJ_normal ?_
          refine H_ret ?_
          refine thenJ_ret ?_
          refine blockJ_ret ?_
          refine thenJ_ret ?_
          refine loopJ_ret ?_
          refine blockJ_ret ?_
          refine thenJ_ret ?_
          exact ret1 (v := .int _ _) rfl rfl rfl fun w' hw => ⟨ret_int (by rw [hp, twice_yes hik h3]; rfl), hw.1⟩
        · have hst := twice_next hik h3
          refine H_skip ?_
          refine thenJ_normal ?_
          refine R0 ?_
          refine xV (e_mv (v := .map _) (q0 rfl)) rfl rfl ?_
          refine xV (e_fld Tryz.underlying162 rfl Tryz.sizeOf3 rfl (q0 rfl)) rfl rfl ?_
          refine xV (eL Tryz.isAgg3 (q0 rfl)) rfl rfl ?_
          refine X_mapset 1 Tryz.underlying219 Tryz.underlying3 rfl rfl rfl rfl ?_
          refine XN ?_
          refine blockJ_normal ?_
          refine thenJ_normal ?_
          refine R0 ?_
          refine xV (e_add (q0 rfl) (q0 rfl) (fun _ => ⟨rfl, by omega, by omega⟩)) rfl rfl ?_
          refine xV (e_mv (v := .int _ _) (q0 rfl)) rfl rfl ?_
          refine XN ?_
          refine loopJ_normal (k + 1) (by repeat (first | exact agree_self | exact agree_over | refine agree_upd rfl ?_ | refine agree_updL rfl ?_ | refine agree_over2 rfl ?_)) ⟨rfl, trivial⟩ (fun w hw => ?_) rfl ⟨by omega, by rw [hp, hst]⟩ (by show n - (k + 1) < n - k; omega)
          have := hw.tail
          rw [snocT _ _ _ hik, ← mput_keysI _ _ h3]
          exact this
      · have hend2 : k = n := by simp at hlt2; omega
        have hfin : twiceI (ids.take 0) (ids.drop 0) = false := by rw [hp, List.drop_of_length_le (by omega)]; rfl
        rw [hfin]
        refine H_exit ?_
        refine thenJ_exit ?_
        refine loopJ_exit ?_
        refine blockJ_hit ?_
        refine thenJ_normal ?_
        refine H_seq ?_
        refine R0 ?_
        refine xV (e_as (v := .int _ _) (q0 rfl)) rfl rfl ?_
        refine XN ?_
        refine thenJ_normal ?_
        refine H_ret ?_
        exact ret1 (v := .int _ _) rfl rfl rfl fun w' hw => ⟨rfl, hw.1⟩
theorem pgood_w (p : Pas) (w : World) : Calls Tryz.prog 107 #[.agg p.cells.toArray] w fun e w' => e = .returned (.bool (!pasBad p)) ∧ Bel w w' := by
  refine H_enter Tryz.func107 rfl Tryz.ntmps107 rfl ?_
  refine H_seq ?_
  refine R0 ?_
  refine X_box (v := .agg _) rfl rfl fun b1 => ?_
  refine xV (e_as (v := .bool _) (q0 rfl)) rfl rfl ?_
  refine XN ?_
  refine thenJ_normal ?_
  refine H_seq ?_
  refine H_seq ?_
  refine R0 ?_
  refine xV (e_fld Tryz.underlying162 rfl Tryz.sizeOf3 rfl (q0 rfl)) rfl rfl ?_
  refine xV (eL Tryz.isAgg3 (q0 rfl)) rfl rfl ?_
  refine xV (e_lt (q0 rfl) (q0 rfl)) rfl rfl ?_
  refine xV (e_mv (v := .bool _) (q0 rfl)) rfl rfl ?_
  refine xVF (e_fld Tryz.underlying162 rfl Tryz.sizeOf3 rfl (q0 rfl)) rfl rfl rfl rfl ?_
  refine xVF (eL Tryz.isAgg3 (q1 rfl)) rfl rfl rfl rfl ?_
  refine xVF (e_gt (q1 rfl) (q0 rfl)) rfl rfl rfl rfl ?_
  refine xV (e_or (q0 rfl) rfl (fun h => by first | rfl | (rw [h]; rfl))) rfl rfl ?_
  refine xV (e_mv (v := .bool _) (q0 rfl)) rfl rfl ?_
  refine xVF (e_fld Tryz.underlying162 rfl Tryz.sizeOf3 rfl (q0 rfl)) rfl rfl rfl rfl ?_
  refine xVF (eL Tryz.isAgg3 (q1 rfl)) rfl rfl rfl rfl ?_
  refine xVF (e_lt (q1 rfl) (q0 rfl)) rfl rfl rfl rfl ?_
  refine xV (e_or (q0 rfl) rfl (fun h => by first | rfl | (rw [h]; rfl))) rfl rfl ?_
  refine xV (e_mv (v := .bool _) (q0 rfl)) rfl rfl ?_
  refine xVF (e_fld Tryz.underlying162 rfl Tryz.sizeOf3 rfl (q0 rfl)) rfl rfl rfl rfl ?_
  refine xVF (eL Tryz.isAgg3 (q1 rfl)) rfl rfl rfl rfl ?_
  refine xVF (e_ge (q1 rfl) (q0 rfl)) rfl rfl rfl rfl ?_
  refine xV (e_or (q0 rfl) rfl (fun h => by first | rfl | (rw [h]; rfl))) rfl rfl ?_
  refine xV (e_mv (v := .bool _) (q0 rfl)) rfl rfl ?_
  refine xVF (e_fld Tryz.underlying162 rfl Tryz.sizeOf3 rfl (q0 rfl)) rfl rfl rfl rfl ?_
  refine xVF (eL Tryz.isAgg3 (q1 rfl)) rfl rfl rfl rfl ?_
  refine xVF (e_lt (q1 rfl) (q0 rfl)) rfl rfl rfl rfl ?_
  refine xV (e_or (q0 rfl) rfl (fun h => by first | rfl | (rw [h]; rfl))) rfl rfl ?_
  refine xV (e_mv (v := .bool _) (q0 rfl)) rfl rfl ?_
  refine xVF (e_fld Tryz.underlying162 rfl Tryz.sizeOf3 rfl (q0 rfl)) rfl rfl rfl rfl ?_
  refine xVF (eL Tryz.isAgg3 (q1 rfl)) rfl rfl rfl rfl ?_
  refine xVF (e_gt (q1 rfl) (q0 rfl)) rfl rfl rfl rfl ?_
  refine xV (e_or (q0 rfl) rfl (fun h => by first | rfl | (rw [h]; rfl))) rfl rfl ?_
  refine xV (e_mv (v := .bool _) (q0 rfl)) rfl rfl ?_
  refine xVF (e_fld Tryz.underlying162 rfl Tryz.sizeOf3 rfl (q0 rfl)) rfl rfl rfl rfl ?_
  refine xVF (eL Tryz.isAgg3 (q1 rfl)) rfl rfl rfl rfl ?_
  refine xVF (e_lt (q1 rfl) (q0 rfl)) rfl rfl rfl rfl ?_
  refine xV (e_or (q0 rfl) rfl (fun h => by first | rfl | (rw [h]; rfl))) rfl rfl ?_
  refine xV (e_mv (v := .bool _) (q0 rfl)) rfl rfl ?_
  refine xVF (e_fld Tryz.underlying162 rfl Tryz.sizeOf3 rfl (q0 rfl)) rfl rfl rfl rfl ?_
  refine xVF (eL Tryz.isAgg3 (q1 rfl)) rfl rfl rfl rfl ?_
  refine xVF (e_gt (q1 rfl) (q0 rfl)) rfl rfl rfl rfl ?_
  refine xV (e_or (q0 rfl) rfl (fun h => by first | rfl | (rw [h]; rfl))) rfl rfl ?_
  refine XN ?_
  refine thenJ_normal ?_
  refine H_cond rfl (fun hb => ?_) (fun hb => ?_)
  · have h : pasBad1 p = true := by
      have h2 : (((((((decide (p.id < 1) || decide (1000000 < p.id)) || decide (p.rider < 0)) || decide (128 ≤ p.rider)) || decide (p.perDay < 1)) || decide (256 < p.perDay)) || decide (p.secs < 0)) || decide (86400 < p.secs)) = true := hb
      unfold pasBad1 inI
      simp at h2 ⊢ <;> omega
    refine H_seq ?_
    refine R0 ?_
    refine xV (e_as (v := .bool _) (q0 rfl)) rfl rfl ?_
    refine XN ?_
    refine thenJ_normal ?_
    refine H_ret ?_
    refine thenJ_ret ?_
    exact ret1 (v := .bool _) rfl rfl rfl fun w' hw => ⟨ret_bool (by unfold pasBad; rw [h]; rfl), hw.1⟩
  · have h : pasBad1 p = false := by
      have h2 : (((((((decide (p.id < 1) || decide (1000000 < p.id)) || decide (p.rider < 0)) || decide (128 ≤ p.rider)) || decide (p.perDay < 1)) || decide (256 < p.perDay)) || decide (p.secs < 0)) || decide (86400 < p.secs)) = false := hb
      unfold pasBad1 inI
      simp at h2 ⊢ <;> omega
    have h3 : ((decide (0 ≤ p.from_) && decide (p.from_ < p.to_)) && decide (p.to_ ≤ 49710)) = !pasBad p := by
      unfold pasBad
      rw [h, Bool.false_or]
      unfold pasBad2
      rw [Bool.eq_iff_iff]
      simp <;> omega
    refine H_skip ?_
    refine thenJ_normal ?_
    refine H_seq ?_
    refine R0 ?_
    refine xV (e_fld Tryz.underlying162 rfl Tryz.sizeOf111 rfl (q0 rfl)) rfl rfl ?_
    refine xV (e_fld Tryz.underlying111 rfl Tryz.sizeOf3 rfl (q0 rfl)) rfl rfl ?_
    refine xV (eL Tryz.isAgg3 (q0 rfl)) rfl rfl ?_
    refine xV (e_ge (q0 rfl) (q0 rfl)) rfl rfl ?_
    refine xV (e_mv (v := .bool _) (q0 rfl)) rfl rfl ?_
    refine xVT (e_fld Tryz.underlying162 rfl Tryz.sizeOf111 rfl (q0 rfl)) rfl rfl rfl rfl ?_
    refine xVT (e_fld Tryz.underlying111 rfl Tryz.sizeOf3 rfl (q1 rfl)) rfl rfl rfl rfl ?_
    refine xVT (eL Tryz.isAgg3 (q1 rfl)) rfl rfl rfl rfl ?_
    refine xVT (e_fld Tryz.underlying162 rfl Tryz.sizeOf111 rfl (q0 rfl)) rfl rfl rfl rfl ?_
    refine xVT (e_fld Tryz.underlying111 rfl Tryz.sizeOf3 rfl (q1 rfl)) rfl rfl rfl rfl ?_
    refine xVT (eL Tryz.isAgg3 (q1 rfl)) rfl rfl rfl rfl ?_
    refine xVT (e_lt (q1 rfl) (q1 rfl)) rfl rfl rfl rfl ?_
    refine xV (e_and (q0 rfl) rfl (fun h => by first | rfl | (rw [h]; rfl))) rfl rfl ?_
    refine xV (e_mv (v := .bool _) (q0 rfl)) rfl rfl ?_
    refine xVT (e_fld Tryz.underlying162 rfl Tryz.sizeOf111 rfl (q0 rfl)) rfl rfl rfl rfl ?_
    refine xVT (e_fld Tryz.underlying111 rfl Tryz.sizeOf3 rfl (q1 rfl)) rfl rfl rfl rfl ?_
    refine xVT (eL Tryz.isAgg3 (q1 rfl)) rfl rfl rfl rfl ?_
    refine xVT (e_le (q1 rfl) (q0 rfl)) rfl rfl rfl rfl ?_
    refine xV (e_and (q0 rfl) rfl (fun h => by first | rfl | (rw [h]; rfl))) rfl rfl ?_
    refine xV (e_as (v := .bool _) (q0 rfl)) rfl rfl ?_
    refine XN ?_
    refine thenJ_normal ?_
    refine H_ret ?_
    exact ret1 (v := .bool _) rfl rfl rfl fun w' hw => ⟨ret_bool h3, hw.1⟩
attribute [local irreducible] pasBad
set_option maxRecDepth 20000 in
theorem rpcheck_w (A : Option Addr) (n c : Nat) (ps : List Pas) (w : World) (hx : PassAt w A n ps) : Calls Tryz.prog 61 #[.slice A n c] w fun e w' => e = .returned (.int .i64 (pasErr ps)) ∧ Bel w w' := by
  have hl := hx.1
  have hn := hx.2.1
  refine H_enter Tryz.func61 rfl Tryz.ntmps61 rfl ?_
  refine H_seq ?_
  refine R0 ?_
  refine xV (e_as (v := .int _ _) (q0 rfl)) rfl rfl ?_
  refine XN ?_
  refine thenJ_normal ?_
  refine H_seq ?_
  refine H_seq ?_
  refine R0 ?_
  refine xV (e_mv (v := .slice _ _ _) (q0 rfl)) rfl rfl ?_
  refine xV (e_len Tryz.underlying26 (q0 rfl)) rfl rfl ?_
  refine xV (e_gt (q0 rfl) (q0 rfl)) rfl rfl ?_
  refine XN ?_
  refine thenJ_normal ?_
  refine H_cond rfl (fun h1 => ?_) (fun h1 => ?_)
  · have h1' : pasErr ps = 8 := by unfold pasErr; rw [if_pos (by simp at h1; omega)]
    refine H_seq ?_
    refine R0 ?_
    refine xV (e_as (v := .int _ _) (q0 rfl)) rfl rfl ?_
    refine XN ?_
    refine thenJ_normal ?_
    refine H_ret ?_
    refine thenJ_ret ?_
    exact ret1 (v := .int _ _) rfl rfl rfl fun w' hw => ⟨ret_int h1'.symm, hw.1⟩
  · have h64 : ps.length ≤ 64 := by simp at h1; omega
    refine H_skip ?_
    refine thenJ_normal ?_
    refine H_seq ?_
    refine H_seq ?_
    refine R0 ?_
    refine xV (e_as (v := .int _ _) (q0 rfl)) rfl rfl ?_
    refine XN ?_
    refine thenJ_normal ?_
    refine H_block ?_
    refine H_loop [2, 3, 9, 10, 11, 12, 13, 14, 15, 16, 17, 18, 19, 20] (fun k : Nat => [(3, .int .i64 k)]) (fun _ => []) (fun k => k ≤ n ∧ (ps.take k).any pasBad = false) (fun k => n - k) 0 ⟨rfl, trivial⟩ (fun w hw => hw) rfl ⟨Nat.zero_le _, rfl⟩ ?_
    rintro k g ⟨hk, hall⟩
    refine H_seq ?_
    refine H_seq ?_
    refine R0 ?_
    refine xV (e_mv (v := .int _ _) (q0 rfl)) rfl rfl ?_
    refine xV (e_mv (v := .slice _ _ _) (q0 rfl)) rfl rfl ?_
    refine xV (e_len Tryz.underlying26 (q0 rfl)) rfl rfl ?_
    refine xV (e_lt (q0 rfl) (q0 rfl)) rfl rfl ?_
    refine XN ?_
    refine thenJ_normal ?_
    refine H_cond rfl (fun hlt => ?_) (fun hlt => ?_)
    · have hlt' : k < n := by simpa using hlt
      obtain ⟨b, off, p, rfl, hbl, hp, hrp⟩ := hx.at_ hlt'
      refine H_skip ?_
      refine thenJ_normal ?_
      refine H_seq ?_
      refine H_block ?_
      refine H_seq ?_
      refine R0 ?_
      refine xV (e_mv (v := .slice _ _ _) (q0 rfl)) rfl rfl ?_
      refine xV (e_mv (v := .int _ _) (q0 rfl)) rfl rfl ?_
      refine xV (e_idx _ Tryz.underlying26 Tryz.sizeOf162 (q0 rfl) (q0 rfl) (fun _ => ⟨rfl, by omega⟩)) rfl rfl ?_
      refine xV (eS Tryz.isAgg162 Tryz.sizeOf162 (q0 rfl)) rfl rfl ?_
      refine xC (en Tryz.call107 (ha1 (q0 rfl))) (fun _ w _ => pgood_w p w) rfl rfl ?_
      refine xV (e_not (q0 rfl)) rfl rfl ?_
      refine XN ?_
      refine thenJ_normal ?_
      refine H_cond rfl (fun hb => ?_) (fun hb => ?_)
      · have hb' : pasBad p = true := by simpa using hb
        refine H_seq ?_
        refine R0 ?_
        refine xV (e_as (v := .int _ _) (q0 rfl)) rfl rfl ?_
        refine XN ?_
        refine thenJ_normal ?_
        refine H_ret ?_
        refine blockJ_ret ?_
        refine thenJ_ret ?_
        refine loopJ_ret ?_
        refine blockJ_ret ?_
        refine thenJ_ret ?_
        exact ret1 (v := .int _ _) rfl rfl rfl fun w' hw => ⟨ret_int (pas_bad h64 hp hb').symm, hw.1⟩
      · have hb' : pasBad p = false := by simpa using hb
        refine H_skip ?_
        refine blockJ_normal ?_
        refine thenJ_normal ?_
        refine R0 ?_
        refine xV (e_mv (v := .int _ _) (q0 rfl)) rfl rfl ?_
        refine xV (e_add (q0 rfl) (q0 rfl) (fun _ => ⟨rfl, by omega, by omega⟩)) rfl rfl ?_
        refine xV (e_as (v := .int _ _) (q0 rfl)) rfl rfl ?_
        refine XN ?_
        exact loopJ_normal (k + 1) (by repeat (first | exact agree_self | exact agree_over | refine agree_upd rfl ?_ | refine agree_updL rfl ?_ | refine agree_over2 rfl ?_)) ⟨rfl, trivial⟩ (fun w hw => hw) rfl ⟨by omega, any_next hp hall hb'⟩ (by show n - (k + 1) < n - k; omega)
    · have hend : k = n := by simp at hlt; omega
      rw [hend, List.take_of_length_le (by omega)] at hall
      obtain ⟨ids, hids⟩ : ∃ ids : List Int, ids = ps.map (·.id) := ⟨_, rfl⟩
      have hidl : ids.length = n := by rw [hids, List.length_map, hl]
      have herr : pasErr ps = if twiceI (ids.take 0) (ids.drop 0) = true then 6 else 0 := by
        unfold pasErr
        rw [if_neg (by omega), hall, if_neg (by decide), ← hids]; rfl
      rw [herr]
      refine H_exit ?_
      refine thenJ_exit ?_
      refine loopJ_exit ?_
      refine blockJ_hit ?_
      refine thenJ_normal ?_
      refine H_seq ?_
      refine H_seq ?_
      refine R0 ?_
      refine xV (e_as (v := .int _ _) (q0 rfl)) rfl rfl ?_
      refine XN ?_
      refine thenJ_normal ?_
      refine H_block ?_
      refine H_loop [2, 4, 5, 21, 22, 23, 24, 25, 26, 27, 28, 29, 30, 31, 32, 33, 34, 35, 36, 37, 38, 39, 40, 41, 42] (fun k : Nat => [(4, .int .i64 k)]) (fun _ => []) (fun k => k ≤ n ∧ twiceI (ids.take 0) (ids.drop 0) = twiceI (ids.take k) (ids.drop k)) (fun k => n - k) 0 ⟨rfl, trivial⟩ (fun _ h => h) rfl ⟨Nat.zero_le _, rfl⟩ ?_
      rintro k g ⟨hk, hp⟩
      refine H_seq ?_
      refine H_seq ?_
      refine R0 ?_
      refine xV (e_mv (v := .int _ _) (q0 rfl)) rfl rfl ?_
      refine xV (e_mv (v := .slice _ _ _) (q0 rfl)) rfl rfl ?_
      refine xV (e_len Tryz.underlying26 (q0 rfl)) rfl rfl ?_
      refine xV (e_lt (q0 rfl) (q0 rfl)) rfl rfl ?_
      refine XN ?_
      refine thenJ_normal ?_
      refine H_cond rfl (fun hlt2 => ?_) (fun hlt2 => ?_)
      · have hlt2' : k < n := by simpa using hlt2
        obtain ⟨b, off, p, rfl, hbl, hpk, hrp⟩ := hx.at_ hlt2'
        have hik : ids[k]? = some p.id := by rw [hids]; simp [hpk]
        refine H_skip ?_
        refine thenJ_normal ?_
        refine H_seq ?_
        refine H_block ?_
        refine H_seq ?_
        refine R0 ?_
        refine xV (e_as (v := .int _ _) (q0 rfl)) rfl rfl ?_
        refine XN ?_
        refine thenJ_normal ?_
        refine H_block ?_
        refine H_loop [2, 5, 27, 28, 29, 30, 31, 32, 33, 34, 35, 36, 37, 38, 39, 40, 41, 42] (fun j : Nat => [(5, .int .i64 j)]) (fun _ => []) (fun j => j ≤ k ∧ hasI (ids.take j) p.id = false) (fun j => k - j) 0 ⟨rfl, trivial⟩ (fun _ h => h) rfl ⟨Nat.zero_le _, rfl⟩ ?_
        rintro j g3 ⟨hj, hno⟩
        refine H_seq ?_
        refine H_seq ?_
        refine R0 ?_
        refine xV (e_mv (v := .int _ _) (q0 rfl)) rfl rfl ?_
        refine xV (e_mv (v := .int _ _) (q0 rfl)) rfl rfl ?_
        refine xV (e_lt (q0 rfl) (q0 rfl)) rfl rfl ?_
        refine XN ?_
        refine thenJ_normal ?_
        refine H_cond rfl (fun hlt3 => ?_) (fun hlt3 => ?_)
        · have hlt3' : j < k := by simpa using hlt3
          obtain ⟨q, hq, hrq⟩ := hx.row (show j < n by omega)
          have hiq : ids[j]? = some q.id := by rw [hids]; simp [hq]
          refine H_skip ?_
          refine thenJ_normal ?_
          refine H_seq ?_
          refine H_block ?_
          refine H_seq ?_
          refine R1 rfl (by decide +kernel) ?_
          refine xV (e_mv (v := .slice _ _ _) (q0 rfl)) rfl rfl ?_
          refine xV (e_mv (v := .int _ _) (q0 rfl)) rfl rfl ?_
          refine xV (e_idx _ Tryz.underlying26 Tryz.sizeOf162 (q0 rfl) (q0 rfl) (fun _ => ⟨rfl, by omega⟩)) rfl rfl ?_
          refine xV (e_fld Tryz.underlying162 rfl Tryz.sizeOf3 rfl (q0 rfl)) rfl rfl ?_
          refine xV (eL Tryz.isAgg3 (q0 rfl)) rfl rfl ?_
          refine xV (e_mv (v := .slice _ _ _) (q0 rfl)) rfl rfl ?_
          refine xV (e_mv (v := .int _ _) (q0 rfl)) rfl rfl ?_
          refine xV (e_idx j Tryz.underlying26 Tryz.sizeOf162 (q0 rfl) (q0 rfl) (fun _ => ⟨rfl, by omega⟩)) rfl rfl ?_
          refine xV (e_fld Tryz.underlying162 rfl Tryz.sizeOf3 rfl (q0 rfl)) rfl rfl ?_
          refine xV (e_ld (v := .int .i64 q.id) Tryz.isAgg3 (q0 rfl) (by first | exact rc (j := 0) hrq ‹_› rfl | exact rc0 hrq ‹_› rfl)) rfl rfl ?_
          refine xV (e_eq (q0 rfl) (q0 rfl)) rfl rfl ?_
          refine XN ?_
          refine thenJ_normal ?_
          refine H_cond rfl (fun h3 => ?_) (fun h3 => ?_)
          · have h3' : q.id = p.id := by simp at h3; omega
            refine H_seq ?_
            refine R0 ?_
            refine xV (e_as (v := .int _ _) (q0 rfl)) rfl rfl ?_
            refine XN ?_
            refine thenJ_normal ?_
            refine H_ret ?_
            refine blockJ_ret ?_
            refine thenJ_ret ?_
            refine loopJ_ret ?_
            refine blockJ_ret ?_
            refine blockJ_ret ?_
            refine thenJ_ret ?_
            refine loopJ_ret ?_
            refine blockJ_ret ?_
            refine thenJ_ret ?_
            exact ret1 (v := .int _ _) rfl rfl rfl fun w' hw => ⟨ret_int (by rw [hp, twice_yes hik (hasI_at hlt3' hiq h3')]; rfl), hw.1⟩
          · have h3' : ¬ q.id = p.id := by simp at h3; omega
            refine H_skip ?_
            refine blockJ_normal ?_
            refine thenJ_normal ?_
            refine R0 ?_
            refine xV (e_mv (v := .int _ _) (q0 rfl)) rfl rfl ?_
            refine xV (e_add (q0 rfl) (q0 rfl) (fun _ => ⟨rfl, by omega, by omega⟩)) rfl rfl ?_
            refine xV (e_as (v := .int _ _) (q0 rfl)) rfl rfl ?_
            refine XN ?_
            exact loopJ_normal (j + 1) (by repeat (first | exact agree_self | exact agree_over | refine agree_upd rfl ?_ | refine agree_updL rfl ?_ | refine agree_over2 rfl ?_)) ⟨rfl, trivial⟩ (fun w hw => hw) rfl ⟨by omega, hasI_snoc hno hiq h3'⟩ (by show k - (j + 1) < k - j; omega)
        · have hend3 : j = k := by simp at hlt3; omega
          subst hend3
          have hst := twice_next hik hno
          refine H_exit ?_
          refine thenJ_exit ?_
          refine loopJ_exit ?_
          refine blockJ_hit ?_
          refine blockJ_normal ?_
          refine thenJ_normal ?_
          refine R0 ?_
          refine xV (e_mv (v := .int _ _) (q0 rfl)) rfl rfl ?_
          refine xV (e_add (q0 rfl) (q0 rfl) (fun _ => ⟨rfl, by omega, by omega⟩)) rfl rfl ?_
          refine xV (e_as (v := .int _ _) (q0 rfl)) rfl rfl ?_
          refine XN ?_
          exact loopJ_normal (j + 1) (by repeat (first | exact agree_self | exact agree_over | refine agree_upd rfl ?_ | refine agree_updL rfl ?_ | refine agree_over2 rfl ?_)) ⟨rfl, trivial⟩ (fun w hw => hw) rfl ⟨by omega, by rw [hp, hst]⟩ (by show n - (j + 1) < n - j; omega)
      · have hend2 : k = n := by simp at hlt2; omega
        have hfin : twiceI (ids.take 0) (ids.drop 0) = false := by rw [hp, List.drop_of_length_le (by omega)]; rfl
        rw [hfin]
        refine H_exit ?_
        refine thenJ_exit ?_
        refine loopJ_exit ?_
        refine blockJ_hit ?_
        refine thenJ_normal ?_
        refine H_seq ?_
        refine R0 ?_
        refine xV (e_as (v := .int _ _) (q0 rfl)) rfl rfl ?_
        refine XN ?_
        refine thenJ_normal ?_
        refine H_ret ?_
        exact ret1 (v := .int _ _) rfl rfl rfl fun w' hw => ⟨rfl, hw.1⟩

end Go.Proofs.Far

/-
  The walks: lists joined into one (slices.Grow at no list, slices.Concat at two).
-/
namespace Go.Proofs.Far
open Go Go.RowKit Go.Proofs.E

section
variable {α : Type} {e t tn : TypeId} {k : Nat} {enc : α → List Value} {c : Cx} {w0 : World} {L : List E.Item} {f : Fr} {K : List E.Item → Fr → Prop} {d : Nat} {ty : TypeId} {pos : String} {af : Array Edge} {x y : Operand}
/-- append(nil, make([]T, n)...) : a new row; what is kept of it is that nothing is in it yet -/
theorem f_zeros (j : Nat) {n : Nat} {i : TypeInfo} {z : Value} {kn : IntKind} (ht : c.P.underlying t = some (.slice e)) (htn : c.P.underlying tn = some (.int kn)) (hi : c.P.info? e = some i) (hz : i.zero = some z) (hsize : i.size = k) (hzs : z.cells.size = k) (hk0 : Nat.blt 0 k = true)
    (hx : ev f x = .slice none 0 0) (hy : ev f y = .int .i64 n) (h0 : 0 < n) (hk : L[j]? = some (rowT e k enc none 0 ([] : List α))) (hlen : n ≤ 1000000 ∧ i.bytes ≤ 100000) (hd : Nat.blt d c.N = true)
    (next : ∀ b c', n ≤ c' → K (L.set j (rowT e k enc (some ⟨b, 0, none⟩) c' ([] : List α))) (upd f d (.slice (some ⟨b, 0, none⟩) n c'))) :
    Eff c w0 L f ⟨some d, .call { callee := .builtin .append, args := #[x, y], argTypes := #[t, tn] }, ty, pos, af, none⟩ K :=
  ⟨rfl, rfl, hd, fun w hw => by
    have hk1 : 0 < k := Nat.le_of_ble_eq_true hk0
    have hby : n * i.bytes ≤ 140737488355328 := by
      have := Nat.mul_le_mul hlen.1 hlen.2
      omega
    have h2 := Go.Lib.run_append_grow_zeros (P := c.P) w t tn ty e i z .i64 kn ht htn hi hz none 0 0 [] (by simp [Builtin.firstCells]) n h0 (by omega) (by omega) (by omega) (by omega) (growslice_fits (by omega) (by rw [Nat.zero_add]; exact hby))
    rw [Nat.zero_add] at h2
    have hge := grownCap_ge w n 0 e
    have hcm := grownCap_le_maxLen w n 0 e (by unfold maxLen; omega)
    have hex : (execOp (ev f) ⟨some d, .call { callee := .builtin .append, args := #[x, y], argTypes := #[t, tn] }, ty, pos, af, none⟩).run c.P w = .ok (.value (.slice (some ⟨w.heap.size, 0, none⟩) n (grownCap w n 0 e))) (w.drew.alloc (.cells ((([] : List Value).toArray) ++ Builtin.zeroCells z.cells n ++ Builtin.zeroCells z.cells (grownCap w n 0 e - n)) e)) := by
      simp only [execOp, resolve, invoke, builtin]
      simp [hx, hy, h2]
    rw [hex]
    have hsz : ((([] : List Value).toArray) ++ Builtin.zeroCells z.cells n ++ Builtin.zeroCells z.cells (grownCap w n 0 e - n)).size = grownCap w n 0 e * k := by
      simp only [Builtin.zeroCells, Array.size_append, Array.size_map, Array.size_range, hzs]
      rw [show (([] : List Value).toArray).size = 0 from rfl, Nat.zero_add, ← Nat.add_mul, Nat.add_sub_cancel' hge]
    refine ⟨_, hw.regrow (it' := rowT e k enc (some ⟨w.heap.size, 0, none⟩) (grownCap w n 0 e) []) hk (fun b hb => ?_) (fun b hb => ?_) ?_ ⟨rfl, rfl, rfl, Nat.le_succ _⟩ ?_ (fun b hb hf => ?_), marks_set hk rfl, next _ _ hge⟩
    · right
      have : w.heap.size = b := by simpa [rowT] using hb
      omega
    · have : w.heap.size = b := by simpa [rowT] using hb
      show b < (w.heap.push _).size
      rw [Array.size_push]
      omega
    · show World.ownsRow _ 0 e k (.slice _ 0 _) 0 []
      refine ⟨by simp, .inr ⟨w.heap.size, _, _, rfl, Nat.zero_le _, ?_, Nat.zero_le _, hcm, hsz, by simp⟩⟩
      show (w.heap.push _)[w.heap.size]? = _
      rw [Array.getElem?_push_size]
    · show w.heap.size ≤ (w.heap.push _).size
      rw [Array.size_push]
      omega
    · show (w.heap.push _)[b]? = w.heap[b]?
      rw [Array.getElem?_push, if_neg (by omega)]⟩
theorem e_cap {g : Bool} {t el : TypeId} {A : Option Addr} {n cp : Nat} (ht : c.P.underlying t = some (.slice el)) (hx : OpV g f x (.slice A n cp)) : EvG g c w0 L f (.call { callee := .builtin .cap, args := #[x], argTypes := #[t] }) ty (.int .i64 cp) := fun e _ _ _ _ w _ => by
  simp [execOp, resolve, invoke, builtin, hx e, Builtin.cap_, run_underlying ht, Result.andThen, goInt]
end
abbrev intRow (A : Option Addr) (c : Nat) (xs : List Int) : E.Item := rowT 3 1 encInt A c xs
theorem grow_w (n : Nat) (hn : n ≤ 1000000) (w : World) : Calls Tryz.prog 113 #[.slice none 0 0, .int .i64 n] w fun e w' => ∃ x : Option Addr × Nat, e = .returned (.slice x.1 0 x.2) ∧ Mem w [intRow x.1 x.2 []] w' := by
  refine H_enter Tryz.func113 rfl Tryz.ntmps113 rfl ?_
  refine H_seq ?_
  refine R0 ?_
  refine xV (e_as (v := .slice _ _ _) (q0 rfl)) rfl rfl ?_
  refine XN ?_
  refine thenJ_normal ?_
  refine H_seq ?_
  refine H_seq ?_
  refine R0 ?_
  refine xV (e_mv (v := .int _ _) (q0 rfl)) rfl rfl ?_
  refine xV (e_lt (q0 rfl) (q0 rfl)) rfl rfl ?_
  refine XN ?_
  refine thenJ_normal ?_
  refine H_cond rfl (fun h1 => ?_) (fun h1 => ?_)
  · exfalso; simp at h1; omega
  · refine H_skip ?_
    refine thenJ_normal ?_
    refine H_seq ?_
    refine H_seq ?_
    refine R0 ?_
    refine xV (e_mv (v := .int _ _) (q0 rfl)) rfl rfl ?_
    refine xV (e_mv (v := .slice _ _ _) (q0 rfl)) rfl rfl ?_
    refine xV (e_cap Tryz.underlying22 (q0 rfl)) rfl rfl ?_
    refine xV (e_mv (v := .slice _ _ _) (q0 rfl)) rfl rfl ?_
    refine xV (e_len Tryz.underlying22 (q0 rfl)) rfl rfl ?_
    refine xV (e_sub (r := 0) (q0 rfl) (q0 rfl) (fun _ => ⟨by omega, by omega, by omega⟩)) rfl rfl ?_
    refine xV (e_sub (r := ((n : Nat) : Int)) (q0 rfl) (q0 rfl) (fun _ => ⟨by omega, by omega, by omega⟩)) rfl rfl ?_
    refine xV (e_as (v := .int _ _) (q0 rfl)) rfl rfl ?_
    refine XN ?_
    refine thenJ_normal ?_
    refine H_seq ?_
    refine R0 ?_
    refine xV (e_mv (v := .int _ _) (q0 rfl)) rfl rfl ?_
    refine xV (e_gt (q0 rfl) (q0 rfl)) rfl rfl ?_
    refine XN ?_
    refine thenJ_normal ?_
    refine H_cond rfl (fun h2 => ?_) (fun h2 => ?_)
    · have h2' : 0 < n := by simp at h2; omega
      refine H_mem (L' := [intRow none 0 []]) (fun w hw => hw.nilRow 3 1 encInt rfl) rfl ?_
      refine R0 ?_
      refine xV (e_mv (v := .slice _ _ _) (q0 rfl)) rfl rfl ?_
      refine xV (e_mv (v := .slice _ _ _) (q0 rfl)) rfl rfl ?_
      refine xV (e_cap Tryz.underlying22 (q0 rfl)) rfl rfl ?_
      refine xV (e_slHi 0 Tryz.underlying22 Tryz.sizeOf3 (q0 rfl) (q0 rfl) (fun _ => ⟨rfl, Nat.le_refl _⟩)) rfl rfl ?_
      refine xV (e_mv (v := .int _ _) (q0 rfl)) rfl rfl ?_
      refine X_eff (f_zeros (k := 1) (i := Tryz.t3) (enc := encInt) 0 Tryz.underlying22 Tryz.underlying3 (by kernel_rfl) rfl rfl rfl rfl rfl rfl h2' rfl ⟨hn, by decide⟩ rfl fun b5 c5 hc5 => ?_)
      refine xV (e_mv (v := .slice _ _ _) (q0 rfl)) rfl rfl ?_
      refine xV (e_len Tryz.underlying22 (q0 rfl)) rfl rfl ?_
      refine xV (e_slHi 0 Tryz.underlying22 Tryz.sizeOf3 (q0 rfl) (q0 rfl) (fun _ => ⟨rfl, Nat.zero_le _⟩)) rfl rfl ?_
      refine xV (e_as (v := .slice _ _ _) (q0 rfl)) rfl rfl ?_
      refine XN ?_
      refine thenJ_normal ?_
      refine H_seq ?_
      refine R0 ?_
      refine xV (e_mv (v := .slice _ _ _) (q0 rfl)) rfl rfl ?_
      refine xV (e_as (v := .slice _ _ _) (q0 rfl)) rfl rfl ?_
      refine XN ?_
      refine thenJ_normal ?_
      refine H_ret ?_
      exact ret1 (v := .slice _ _ _) rfl rfl rfl fun w' hw => ⟨(some ⟨b5, 0, none⟩, c5), rfl, hw⟩
    · refine H_skip ?_
      refine thenJ_normal ?_
      refine H_seq ?_
      refine R0 ?_
      refine xV (e_mv (v := .slice _ _ _) (q0 rfl)) rfl rfl ?_
      refine xV (e_as (v := .slice _ _ _) (q0 rfl)) rfl rfl ?_
      refine XN ?_
      refine thenJ_normal ?_
      refine H_ret ?_
      exact ret1 (v := .slice _ _ _) rfl rfl rfl fun w' hw => ⟨(none, 0), rfl, hw.nilRow 3 1 encInt rfl⟩
def encV (v : Value) : List Value := [v]
set_option maxRecDepth 20000 in
theorem concat_w (P : Option Addr) (pc : Nat) (A : Option Addr) (n c : Nat) (xs : List Int) (B : Option Addr) (m d : Nat) (ys : List Int) (w : World) (hp : SlAt w 1 encV P 2 [.slice A n c, .slice B m d]) (hx : SlAt w 1 encInt A n xs) (hy : SlAt w 1 encInt B m ys) (hn : n ≤ 1000) (hm : m ≤ 1000) :
    Calls Tryz.prog 76 #[.slice P 2 pc] w fun e w' => ∃ x : Option Addr × Nat, e = .returned (.slice x.1 (xs ++ ys).length x.2) ∧ Mem w [intRow x.1 x.2 (xs ++ ys)] w' := by
  have hxl := hx.1
  have hyl := hy.1
  obtain ⟨b, off, v0, rfl, hbl, hv0, hr0⟩ := hp.at_ (show 0 < 2 by decide)
  obtain ⟨v1, hv1, hr1⟩ := hp.row (show 1 < 2 by decide)
  have e0 : v0 = .slice A n c := by simpa using hv0.symm
  have e1 : v1 = .slice B m d := by simpa using hv1.symm
  subst e0 e1
  obtain ⟨S, hS⟩ : ∃ S : Nat → Nat, S = fun k => if k = 0 then 0 else if k = 1 then n else n + m := ⟨_, rfl⟩
  obtain ⟨T, hT⟩ : ∃ T : Nat → List Int, T = fun k => if k = 0 then [] else if k = 1 then xs else xs ++ ys := ⟨_, rfl⟩
  have hS0 : S 0 = 0 := by rw [hS]; rfl
  have hS1 : S 1 = n := by rw [hS]; rfl
  have hS2 : S 2 = n + m := by rw [hS]; rfl
  have hT0 : T 0 = [] := by rw [hT]; rfl
  have hT1 : T 1 = xs := by rw [hT]; rfl
  have hT2 : T 2 = xs ++ ys := by rw [hT]; rfl
  clear hS hT
  refine H_enter Tryz.func76 rfl Tryz.ntmps76 rfl ?_
  refine H_seq ?_
  refine R0 ?_
  refine xV (e_as (v := .slice _ _ _) (q0 rfl)) rfl rfl ?_
  refine XN ?_
  refine thenJ_normal ?_
  refine H_seq ?_
  refine R0 ?_
  refine xV (e_as (v := .int _ _) (q0 rfl)) rfl rfl ?_
  refine XN ?_
  refine thenJ_normal ?_
  refine H_seq ?_
  refine H_seq ?_
  refine R0 ?_
  refine xV (e_mv (v := .slice _ _ _) (q0 rfl)) rfl rfl ?_
  refine xV (e_len Tryz.underlying239 (q0 rfl)) rfl rfl ?_
  refine xV (e_mv (v := .int _ _) (q0 rfl)) rfl rfl ?_
  refine XN ?_
  refine thenJ_normal ?_
  refine H_block ?_
  refine H_loop [3, 5, 11, 12, 13, 14, 15, 16, 17, 18, 19, 20, 21, 22] (fun k : Nat => [(11, .int .i64 k), (3, .int .i64 (S k : Nat))]) (fun _ => []) (fun k => k ≤ 2) (fun k => 2 - k) 0 ⟨rfl, by rw [hS0]; rfl, trivial⟩ (fun w hw => hw) rfl (Nat.zero_le _) ?_
  rintro k g hk
  refine H_seq ?_
  refine R0 ?_
  refine xV (e_lt (q0 rfl) (q0 rfl)) rfl rfl ?_
  refine XN ?_
  refine thenJ_normal ?_
  refine H_seq ?_
  refine H_cond rfl (fun hlt => ?_) (fun hlt => ?_)
  · have hk2 : k = 0 ∨ k = 1 := by simp at hlt; omega
    rcases hk2 with h0 | h0
    · subst h0
      rw [hS0]
      refine H_skip ?_
      refine thenJ_normal ?_
      refine H_seq ?_
      refine H_block ?_
      refine H_seq ?_
      refine R0 ?_
      refine xV (e_idx 0 Tryz.underlying239 Tryz.sizeOf22 (q0 rfl) (q0 rfl) (fun _ => ⟨rfl, by decide⟩)) rfl rfl ?_
      refine xV (e_ld (v := .slice A n c) Tryz.isAgg22 (q0 rfl) (by first | exact rc (j := 0) hr0 ‹_› rfl | exact rc0 hr0 ‹_› rfl)) rfl rfl ?_
      refine xV (e_as (v := .slice _ _ _) (q0 rfl)) rfl rfl ?_
      refine XN ?_
      refine thenJ_normal ?_
      refine H_seq ?_
      refine R0 ?_
      refine xV (e_mv (v := .int _ _) (q0 rfl)) rfl rfl ?_
      refine xV (e_mv (v := .slice _ _ _) (q0 rfl)) rfl rfl ?_
      refine xV (e_len Tryz.underlying22 (q0 rfl)) rfl rfl ?_
      refine xV (e_add (q0 rfl) (q0 rfl) (fun _ => ⟨rfl, by omega, by omega⟩)) rfl rfl ?_
      refine xV (e_as (v := .int _ _) (q0 rfl)) rfl rfl ?_
      refine XN ?_
      refine thenJ_normal ?_
      refine H_seq ?_
      refine R0 ?_
      refine xV (e_mv (v := .int _ _) (q0 rfl)) rfl rfl ?_
      refine xV (e_lt (q0 rfl) (q0 rfl)) rfl rfl ?_
      refine XN ?_
      refine thenJ_normal ?_
      refine H_cond rfl (fun h3 => ?_) (fun h3 => ?_)
      · exfalso; simp at h3; omega
      · refine H_skip ?_
        refine blockJ_normal ?_
        refine thenJ_normal ?_
        refine R0 ?_
        refine xV (e_add (q0 rfl) (q0 rfl) (fun _ => ⟨rfl, by omega, by omega⟩)) rfl rfl ?_
        refine xV (e_mv (v := .int _ _) (q0 rfl)) rfl rfl ?_
        refine XN ?_
        exact loopJ_normal 1 (by repeat (first | exact agree_self | exact agree_over | refine agree_upd rfl ?_ | refine agree_updL rfl ?_ | refine agree_over2 rfl ?_)) ⟨rfl, by rw [hS1]; show Value.int .i64 _ = Value.int .i64 _; congr 1; simp, trivial⟩ (fun w hw => hw) rfl (by decide) (by decide)
    · subst h0
      rw [hS1]
      refine H_skip ?_
      refine thenJ_normal ?_
      refine H_seq ?_
      refine H_block ?_
      refine H_seq ?_
      refine R0 ?_
      refine xV (e_idx 1 Tryz.underlying239 Tryz.sizeOf22 (q0 rfl) (q0 rfl) (fun _ => ⟨rfl, by decide⟩)) rfl rfl ?_
      refine xV (e_ld (v := .slice B m d) Tryz.isAgg22 (q0 rfl) (by first | exact rc (j := 0) hr1 ‹_› rfl | exact rc0 hr1 ‹_› rfl)) rfl rfl ?_
      refine xV (e_as (v := .slice _ _ _) (q0 rfl)) rfl rfl ?_
      refine XN ?_
      refine thenJ_normal ?_
      refine H_seq ?_
      refine R0 ?_
      refine xV (e_mv (v := .int _ _) (q0 rfl)) rfl rfl ?_
      refine xV (e_mv (v := .slice _ _ _) (q0 rfl)) rfl rfl ?_
      refine xV (e_len Tryz.underlying22 (q0 rfl)) rfl rfl ?_
      refine xV (e_add (q0 rfl) (q0 rfl) (fun _ => ⟨rfl, by omega, by omega⟩)) rfl rfl ?_
      refine xV (e_as (v := .int _ _) (q0 rfl)) rfl rfl ?_
      refine XN ?_
      refine thenJ_normal ?_
      refine H_seq ?_
      refine R0 ?_
      refine xV (e_mv (v := .int _ _) (q0 rfl)) rfl rfl ?_
      refine xV (e_lt (q0 rfl) (q0 rfl)) rfl rfl ?_
      refine XN ?_
      refine thenJ_normal ?_
      refine H_cond rfl (fun h3 => ?_) (fun h3 => ?_)
      · exfalso; simp at h3; omega
      · refine H_skip ?_
        refine blockJ_normal ?_
        refine thenJ_normal ?_
        refine R0 ?_
        refine xV (e_add (q0 rfl) (q0 rfl) (fun _ => ⟨rfl, by omega, by omega⟩)) rfl rfl ?_
        refine xV (e_mv (v := .int _ _) (q0 rfl)) rfl rfl ?_
        refine XN ?_
        exact loopJ_normal 2 (by repeat (first | exact agree_self | exact agree_over | refine agree_upd rfl ?_ | refine agree_updL rfl ?_ | refine agree_over2 rfl ?_)) ⟨rfl, by rw [hS2]; rfl, trivial⟩ (fun w hw => hw) rfl (by decide) (by decide)
  · have hend : k = 2 := by simp at hlt; omega
    subst hend
    rw [hS2]
    refine H_exit ?_
    refine thenJ_exit ?_
    refine loopJ_exit ?_
    refine blockJ_hit ?_
    refine thenJ_normal ?_
    refine H_seq ?_
    refine R0 ?_
    refine xV (e_mv (v := .int _ _) (q0 rfl)) rfl rfl ?_
    refine xCX (en Tryz.call113 (ha2 (q0 rfl) (q0 rfl))) (fun w hw => grow_w (n + m) (by omega) w) rfl (fun _ => rfl) fun z => ?_
    refine xV (e_as (v := .slice _ _ _) (q0 rfl)) rfl rfl ?_
    refine XN ?_
    refine thenJ_normal ?_
    refine H_seq ?_
    refine H_seq ?_
    refine R0 ?_
    refine xV (e_mv (v := .slice _ _ _) (q0 rfl)) rfl rfl ?_
    refine xV (e_len Tryz.underlying239 (q0 rfl)) rfl rfl ?_
    refine xV (e_mv (v := .int _ _) (q0 rfl)) rfl rfl ?_
    refine XN ?_
    refine thenJ_normal ?_
    refine H_block ?_
    refine H_loop [6, 8, 27, 28, 29, 30, 31, 32, 33, 34] (fun q : Nat × Option Addr × Nat => [(27, .int .i64 q.1), (6, .slice q.2.1 (T q.1).length q.2.2)]) (fun q => [intRow q.2.1 q.2.2 (T q.1)]) (fun q => q.1 ≤ 2) (fun q => 2 - q.1) (0, z.1, z.2) ⟨rfl, by rw [hT0]; rfl, trivial⟩ (fun w hw => by rw [hT0]; exact hw) rfl (Nat.zero_le _) ?_
    rintro ⟨k, oA, oc⟩ g2 hk2
    simp only at hk2
    refine H_seq ?_
    refine R0 ?_
    refine xV (e_lt (q0 rfl) (q0 rfl)) rfl rfl ?_
    refine XN ?_
    refine thenJ_normal ?_
    refine H_seq ?_
    refine H_cond rfl (fun hlt2 => ?_) (fun hlt2 => ?_)
    · have hk3 : k = 0 ∨ k = 1 := by simp at hlt2; omega
      rcases hk3 with h0 | h0
      · subst h0
        rw [hT0]
        refine H_skip ?_
        refine thenJ_normal ?_
        refine H_seq ?_
        refine H_block ?_
        refine H_seq ?_
        refine R0 ?_
        refine xV (e_idx 0 Tryz.underlying239 Tryz.sizeOf22 (q0 rfl) (q0 rfl) (fun _ => ⟨rfl, by decide⟩)) rfl rfl ?_
        refine xV (e_ld (v := .slice A n c) Tryz.isAgg22 (q0 rfl) (by first | exact rc (j := 0) hr0 ‹_› rfl | exact rc0 hr0 ‹_› rfl)) rfl rfl ?_
        refine xV (e_as (v := .slice _ _ _) (q0 rfl)) rfl rfl ?_
        refine XN ?_
        refine thenJ_normal ?_
        refine R0 ?_
        refine xV (e_mv (v := .slice _ _ _) (q0 rfl)) rfl rfl ?_
        refine xV (e_mv (v := .slice _ _ _) (q0 rfl)) rfl rfl ?_
        refine X_append (f_append (k := 1) (i := Tryz.t3) (enc := encInt) 0 Tryz.underlying22 (by kernel_rfl) rfl rfl rfl rfl (fun _ => rfl) (fun _ => rfl) rfl rfl rfl (fun w hw => hx.mem hw) ⟨by first | omega | (simp; omega), by decide⟩ rfl fun A1 c1 => ?_)
        refine xV (e_as (v := .slice _ _ _) (q0 rfl)) rfl rfl ?_
        refine XN ?_
        refine blockJ_normal ?_
        refine thenJ_normal ?_
        refine R0 ?_
        refine xV (e_add (q0 rfl) (q0 rfl) (fun _ => ⟨rfl, by omega, by omega⟩)) rfl rfl ?_
        refine xV (e_mv (v := .int _ _) (q0 rfl)) rfl rfl ?_
        refine XN ?_
        exact loopJ_normal (1, A1, c1) (by repeat (first | exact agree_self | exact agree_over | refine agree_upd rfl ?_ | refine agree_updL rfl ?_ | refine agree_over2 rfl ?_)) ⟨rfl, by show _ = Value.slice A1 (T 1).length c1; rw [hT1]; rfl, trivial⟩ (fun w hw => by show Mem _ [intRow A1 c1 (T 1)] w; rw [hT1]; exact hw) rfl (by show 1 ≤ 2; decide) (by show 2 - 1 < 2 - 0; decide)
      · subst h0
        rw [hT1]
        refine H_skip ?_
        refine thenJ_normal ?_
        refine H_seq ?_
        refine H_block ?_
        refine H_seq ?_
        refine R0 ?_
        refine xV (e_idx 1 Tryz.underlying239 Tryz.sizeOf22 (q0 rfl) (q0 rfl) (fun _ => ⟨rfl, by decide⟩)) rfl rfl ?_
        refine xV (e_ld (v := .slice B m d) Tryz.isAgg22 (q0 rfl) (by first | exact rc (j := 0) hr1 ‹_› rfl | exact rc0 hr1 ‹_› rfl)) rfl rfl ?_
        refine xV (e_as (v := .slice _ _ _) (q0 rfl)) rfl rfl ?_
        refine XN ?_
        refine thenJ_normal ?_
        refine R0 ?_
        refine xV (e_mv (v := .slice _ _ _) (q0 rfl)) rfl rfl ?_
        refine xV (e_mv (v := .slice _ _ _) (q0 rfl)) rfl rfl ?_
        refine X_append (f_append (k := 1) (i := Tryz.t3) (enc := encInt) 0 Tryz.underlying22 (by kernel_rfl) rfl rfl rfl rfl (fun _ => rfl) (fun _ => rfl) rfl rfl rfl (fun w hw => hy.mem hw) ⟨by first | omega | (simp; omega), by decide⟩ rfl fun A1 c1 => ?_)
        refine xV (e_as (v := .slice _ _ _) (q0 rfl)) rfl rfl ?_
        refine XN ?_
        refine blockJ_normal ?_
        refine thenJ_normal ?_
        refine R0 ?_
        refine xV (e_add (q0 rfl) (q0 rfl) (fun _ => ⟨rfl, by omega, by omega⟩)) rfl rfl ?_
        refine xV (e_mv (v := .int _ _) (q0 rfl)) rfl rfl ?_
        refine XN ?_
        exact loopJ_normal (2, A1, c1) (by repeat (first | exact agree_self | exact agree_over | refine agree_upd rfl ?_ | refine agree_updL rfl ?_ | refine agree_over2 rfl ?_)) ⟨rfl, by show _ = Value.slice A1 (T 2).length c1; rw [hT2]; rfl, trivial⟩ (fun w hw => by show Mem _ [intRow A1 c1 (T 2)] w; rw [hT2]; exact hw) rfl (by show 2 ≤ 2; decide) (by show 2 - 2 < 2 - 1; decide)
    · have hend2 : k = 2 := by simp at hlt2; omega
      subst hend2
      rw [hT2]
      refine H_exit ?_
      refine thenJ_exit ?_
      refine loopJ_exit ?_
      refine blockJ_hit ?_
      refine thenJ_normal ?_
      refine H_seq ?_
      refine R0 ?_
      refine xV (e_mv (v := .slice _ _ _) (q0 rfl)) rfl rfl ?_
      refine xV (e_as (v := .slice _ _ _) (q0 rfl)) rfl rfl ?_
      refine XN ?_
      refine thenJ_normal ?_
      refine H_ret ?_
      exact ret1 (v := .slice _ _ _) rfl rfl rfl fun w' hw => ⟨(oA, oc), rfl, hw⟩

end Go.Proofs.Far

/-
  The walks: prices in memory; prices checked, both ways.
-/
namespace Go.Proofs.Far
open Go Go.RowKit Go.Proofs.E Go.Proofs.Cus

structure Pr where
  tariffs : List Tf
  passes : List Pas
  places : List Int
  docks : List Int
  cap : Int
  fines : List Int
  days : Int
structure Sl where
  A : Option Addr
  n : Nat
  c : Nat
def Sl.v (s : Sl) : Value := .slice s.A s.n s.c
/-- where the lists of prices lie -/
structure PrA where
  t : Sl
  p : Sl
  pl : Sl
  d : Sl
  f : Sl
def Pr.cells (p : Pr) (a : PrA) : List Value := [.slice a.t.A a.t.n a.t.c, .slice a.p.A a.p.n a.p.c, .slice a.pl.A a.pl.n a.pl.c, .slice a.d.A a.d.n a.d.c, .int .i64 p.cap, .slice a.f.A a.f.n a.f.c, .int .i64 p.days]
structure PrAt (w : World) (p : Pr) (a : PrA) : Prop where
  tf : TfsAt w a.t.A a.t.n p.tariffs
  ps : PassAt w a.p.A a.p.n p.passes
  pl : IntsAt w a.pl.A a.pl.n p.places
  dk : IntsAt w a.d.A a.d.n p.docks
  fi : IntsAt w a.f.A a.f.n p.fines
theorem PrAt.mem {w0 w : World} {L : List E.Item} {p : Pr} {a : PrA} (h : PrAt w0 p a) (hm : Mem w0 L w) : PrAt w p a := ⟨h.tf.mem hm, h.ps.mem hm, h.pl.mem hm, h.dk.mem hm, h.fi.mem hm⟩
theorem fl28 {fs : Array Field} (h : Tryz.prog.underlying 28 = some (.struct fs) := by exact Tryz.underlying28) : FieldsLie Tryz.prog fs [(0, 1), (1, 1), (2, 1), (3, 1), (4, 1), (5, 1), (6, 1)] := by
  rw [Tryz.underlying28] at h
  cases h
  intro w
  kernel_rfl
def feeBad (n : Int) : Bool := decide (n < -1000000) || decide (1000000 < n)
def prErr (f : Fl) (p : Pr) : Int :=
  if flErr f ≠ 0 then flErr f
  else if tfErr p.tariffs ≠ 0 then tfErr p.tariffs
  else if pasErr p.passes ≠ 0 then pasErr p.passes
  else if p.docks.length ≠ f.docks.length ∨ 64 < p.places.length then 3
  else if (p.places ++ p.docks).any feeBad = true then 1
  else if p.cap < 0 ∨ 1000000000000 < p.cap then 1
  else Pen.pErr p.fines p.days
theorem fl_docks {f : Fl} (h : flErr f = 0) : f.docks.length ≤ 32 := by
  unfold flErr at h
  split at h
  · cases h
  · split at h
    · cases h
    · omega
theorem any_at {l : List Int} {k : Nat} {x : Int} (h : l[k]? = some x) (hb : feeBad x = true) : l.any feeBad = true := List.any_eq_true.2 ⟨x, List.mem_of_getElem? h, hb⟩
theorem any_on {l : List Int} {k : Nat} {x : Int} (h : l[k]? = some x) (h0 : (l.take k).any feeBad = false) (hb : feeBad x = false) : (l.take (k + 1)).any feeBad = false := by
  rw [snocT _ _ _ h, List.any_append, h0]; simp [hb]
set_option maxRecDepth 20000 in
theorem rfees_w (A : Option Addr) (n c : Nat) (xs : List Int) (w : World) (hx : IntsAt w A n xs) : Calls Tryz.prog 62 #[.slice A n c] w fun e w' => e = .returned (.bool (!xs.any feeBad)) ∧ Bel w w' := by
  have hl := hx.1
  have hn := hx.2.1
  refine H_enter Tryz.func62 rfl Tryz.ntmps62 rfl ?_
  refine H_seq ?_
  refine R0 ?_
  refine xV (e_as (v := .bool _) (q0 rfl)) rfl rfl ?_
  refine XN ?_
  refine thenJ_normal ?_
  refine H_seq ?_
  refine H_seq ?_
  refine R0 ?_
  refine xV (e_as (v := .int _ _) (q0 rfl)) rfl rfl ?_
  refine XN ?_
  refine thenJ_normal ?_
  refine H_block ?_
  refine H_loop [2, 3, 4, 5, 6, 7, 8, 9, 10, 11, 12, 13, 14, 15, 16, 17, 18, 19, 20, 21] (fun k : Nat => [(3, .int .i64 k)]) (fun _ => []) (fun k => k ≤ n ∧ (xs.take k).any feeBad = false) (fun k => n - k) 0 ⟨rfl, trivial⟩ (fun w hw => hw) rfl ⟨Nat.zero_le _, rfl⟩ ?_
  rintro k g ⟨hk, hall⟩
  refine H_seq ?_
  refine H_seq ?_
  refine R0 ?_
  refine xV (e_mv (v := .int _ _) (q0 rfl)) rfl rfl ?_
  refine xV (e_mv (v := .slice _ _ _) (q0 rfl)) rfl rfl ?_
  refine xV (e_len Tryz.underlying22 (q0 rfl)) rfl rfl ?_
  refine xV (e_lt (q0 rfl) (q0 rfl)) rfl rfl ?_
  refine XN ?_
  refine thenJ_normal ?_
  refine H_cond rfl (fun hlt => ?_) (fun hlt => ?_)
  · have hlt' : k < n := by simpa using hlt
    obtain ⟨b, off, x, rfl, hbl, hxk, hrx⟩ := hx.at_ hlt'
    refine H_skip ?_
    refine thenJ_normal ?_
    refine H_seq ?_
    refine H_block ?_
    refine H_seq ?_
    refine R0 ?_
    refine xV (e_mv (v := .slice _ _ _) (q0 rfl)) rfl rfl ?_
    refine xV (e_mv (v := .int _ _) (q0 rfl)) rfl rfl ?_
    refine xV (e_idx _ Tryz.underlying22 Tryz.sizeOf3 (q0 rfl) (q0 rfl) (fun _ => ⟨rfl, by omega⟩)) rfl rfl ?_
    refine xV (eL Tryz.isAgg3 (q0 rfl)) rfl rfl ?_
    refine xV (e_lt (q0 rfl) (q0 rfl)) rfl rfl ?_
    refine xV (e_mv (v := .bool _) (q0 rfl)) rfl rfl ?_
    refine xVF (e_mv (v := .slice _ _ _) (q0 rfl)) rfl rfl rfl rfl ?_
    refine xVF (e_mv (v := .int _ _) (q0 rfl)) rfl rfl rfl rfl ?_
    refine xVF (e_idx _ Tryz.underlying22 Tryz.sizeOf3 (q1 rfl) (q1 rfl) (fun _ => ⟨rfl, by omega⟩)) rfl rfl rfl rfl ?_
    refine xVF (eL Tryz.isAgg3 (q1 rfl)) rfl rfl rfl rfl ?_
    refine xVF (e_gt (q1 rfl) (q0 rfl)) rfl rfl rfl rfl ?_
    refine xV (e_or (q0 rfl) rfl (fun h => by first | rfl | (rw [h]; rfl))) rfl rfl ?_
    refine XN ?_
    refine thenJ_normal ?_
    refine H_cond rfl (fun hb => ?_) (fun hb => ?_)
    · have hb' : feeBad x = true := hb
      refine H_seq ?_
      refine R0 ?_
      refine xV (e_as (v := .bool _) (q0 rfl)) rfl rfl ?_
      refine XN ?_
      refine thenJ_normal ?_
      refine H_ret ?_
      refine blockJ_ret ?_
      refine thenJ_ret ?_
      refine loopJ_ret ?_
      refine blockJ_ret ?_
      refine thenJ_ret ?_
      exact ret1 (v := .bool _) rfl rfl rfl fun w' hw => ⟨ret_bool (by rw [any_at hxk hb']; rfl), hw.1⟩
    · have hb' : feeBad x = false := hb
      refine H_skip ?_
      refine blockJ_normal ?_
      refine thenJ_normal ?_
      refine R0 ?_
      refine xV (e_mv (v := .int _ _) (q0 rfl)) rfl rfl ?_
      refine xV (e_add (q0 rfl) (q0 rfl) (fun _ => ⟨rfl, by omega, by omega⟩)) rfl rfl ?_
      refine xV (e_as (v := .int _ _) (q0 rfl)) rfl rfl ?_
      refine XN ?_
      exact loopJ_normal (k + 1) (by repeat (first | exact agree_self | exact agree_over | refine agree_upd rfl ?_ | refine agree_updL rfl ?_ | refine agree_over2 rfl ?_)) ⟨rfl, trivial⟩ (fun w hw => hw) rfl ⟨by omega, any_on hxk hall hb'⟩ (by show n - (k + 1) < n - k; omega)
  · have hend : k = n := by simp at hlt; omega
    rw [hend, List.take_of_length_le (by omega)] at hall
    refine H_exit ?_
    refine thenJ_exit ?_
    refine loopJ_exit ?_
    refine blockJ_hit ?_
    refine thenJ_normal ?_
    refine H_seq ?_
    refine R0 ?_
    refine xV (e_as (v := .bool _) (q0 rfl)) rfl rfl ?_
    refine XN ?_
    refine thenJ_normal ?_
    refine H_ret ?_
    exact ret1 (v := .bool _) rfl rfl rfl fun w' hw => ⟨ret_bool (by rw [hall]; rfl), hw.1⟩
attribute [local irreducible] flErr tfErr pasErr Pen.pErr
set_option maxHeartbeats 1000000 in
set_option maxRecDepth 20000 in
theorem fcheck_w (f : Fl) (fa : FA) (p : Pr) (a : PrA) (w : World) (hf : FlAt w f fa) (hp : PrAt w p a) : Calls Tryz.prog 25 #[.agg (f.cells fa).toArray, .agg (p.cells a).toArray] w fun e w' => e = .returned (.int .i64 (prErr f p)) ∧ Bel w w' := by
  have hfd := hf.docks.1
  have hpd := hp.dk.1
  have hpp := hp.pl.1
  refine H_enter Tryz.func25 rfl Tryz.ntmps25 rfl ?_
  refine H_seq ?_
  refine R0 ?_
  refine X_box (v := .agg _) rfl rfl fun b2 => ?_
  refine X_box (v := .agg _) rfl rfl fun b3 => ?_
  refine xV (e_as (v := .int _ _) (q0 rfl)) rfl rfl ?_
  refine XN ?_
  refine thenJ_normal ?_
  refine H_seq ?_
  refine H_seq ?_
  refine R0 ?_
  refine xV (eS Tryz.isAgg24 Tryz.sizeOf24 (q0 rfl)) rfl rfl ?_
  refine xC (en Tryz.call73 (ha1 (q0 rfl))) (fun _ w hw => fleet_w f fa w (hf.mem hw)) rfl rfl ?_
  refine xV (e_as (v := .int _ _) (q0 rfl)) rfl rfl ?_
  refine XN ?_
  refine thenJ_normal ?_
  refine H_seq ?_
  refine R0 ?_
  refine xV (e_mv (v := .int _ _) (q0 rfl)) rfl rfl ?_
  refine xV (e_ne (q0 rfl) (q0 rfl)) rfl rfl ?_
  refine XN ?_
  refine thenJ_normal ?_
  refine H_cond rfl (fun h1 => ?_) (fun h1 => ?_)
  · have h1' : flErr f ≠ 0 := by simpa using h1
    refine H_seq ?_
    refine R0 ?_
    refine xV (e_mv (v := .int _ _) (q0 rfl)) rfl rfl ?_
    refine xV (e_as (v := .int _ _) (q0 rfl)) rfl rfl ?_
    refine XN ?_
    refine thenJ_normal ?_
    refine H_ret ?_
    refine thenJ_ret ?_
    exact ret1 (v := .int _ _) rfl rfl rfl fun w' hw => ⟨ret_int (by unfold prErr; rw [if_pos h1']), hw.1⟩
  · have h1' : flErr f = 0 := by simpa using h1
    refine H_skip ?_
    refine thenJ_normal ?_
    refine H_seq ?_
    refine H_seq ?_
    refine R0 ?_
    refine xV (e_fld Tryz.underlying28 rfl Tryz.sizeOf25 rfl (q0 rfl)) rfl rfl ?_
    refine xV (eL Tryz.isAgg25 (q0 rfl)) rfl rfl ?_
    refine xC (en Tryz.call74 (ha1 (q0 rfl))) (fun _ w hw => tcheck_w a.t.A a.t.n a.t.c p.tariffs w (hp.tf.mem hw)) rfl rfl ?_
    refine xV (e_as (v := .int _ _) (q0 rfl)) rfl rfl ?_
    refine XN ?_
    refine thenJ_normal ?_
    refine H_seq ?_
    refine R0 ?_
    refine xV (e_mv (v := .int _ _) (q0 rfl)) rfl rfl ?_
    refine xV (e_ne (q0 rfl) (q0 rfl)) rfl rfl ?_
    refine XN ?_
    refine thenJ_normal ?_
    refine H_cond rfl (fun h2 => ?_) (fun h2 => ?_)
    · have h2' : tfErr p.tariffs ≠ 0 := by simpa using h2
      refine H_seq ?_
      refine R0 ?_
      refine xV (e_mv (v := .int _ _) (q0 rfl)) rfl rfl ?_
      refine xV (e_as (v := .int _ _) (q0 rfl)) rfl rfl ?_
      refine XN ?_
      refine thenJ_normal ?_
      refine H_ret ?_
      refine thenJ_ret ?_
      exact ret1 (v := .int _ _) rfl rfl rfl fun w' hw => ⟨ret_int (by unfold prErr; rw [if_neg (fun h => h h1'), if_pos h2']), hw.1⟩
    · have h2' : tfErr p.tariffs = 0 := by simpa using h2
      refine H_skip ?_
      refine thenJ_normal ?_
      refine H_seq ?_
      refine H_seq ?_
      refine R0 ?_
      refine xV (e_fld Tryz.underlying28 rfl Tryz.sizeOf26 rfl (q0 rfl)) rfl rfl ?_
      refine xV (eL Tryz.isAgg26 (q0 rfl)) rfl rfl ?_
      refine xC (en Tryz.call75 (ha1 (q0 rfl))) (fun _ w hw => pcheck_w a.p.A a.p.n a.p.c p.passes w (hp.ps.mem hw)) rfl rfl ?_
      refine xV (e_as (v := .int _ _) (q0 rfl)) rfl rfl ?_
      refine XN ?_
      refine thenJ_normal ?_
      refine H_seq ?_
      refine R0 ?_
      refine xV (e_mv (v := .int _ _) (q0 rfl)) rfl rfl ?_
      refine xV (e_ne (q0 rfl) (q0 rfl)) rfl rfl ?_
      refine XN ?_
      refine thenJ_normal ?_
      refine H_cond rfl (fun h3 => ?_) (fun h3 => ?_)
      · have h3' : pasErr p.passes ≠ 0 := by simpa using h3
        refine H_seq ?_
        refine R0 ?_
        refine xV (e_mv (v := .int _ _) (q0 rfl)) rfl rfl ?_
        refine xV (e_as (v := .int _ _) (q0 rfl)) rfl rfl ?_
        refine XN ?_
        refine thenJ_normal ?_
        refine H_ret ?_
        refine thenJ_ret ?_
        exact ret1 (v := .int _ _) rfl rfl rfl fun w' hw => ⟨ret_int (by unfold prErr; rw [if_neg (fun h => h h1'), if_neg (fun h => h h2'), if_pos h3']), hw.1⟩
      · have h3' : pasErr p.passes = 0 := by simpa using h3
        refine H_skip ?_
        refine thenJ_normal ?_
        refine H_seq ?_
        refine H_seq ?_
        refine R0 ?_
        refine xV (e_fld Tryz.underlying28 rfl Tryz.sizeOf22 rfl (q0 rfl)) rfl rfl ?_
        refine xV (eL Tryz.isAgg22 (q0 rfl)) rfl rfl ?_
        refine xV (e_len Tryz.underlying22 (q0 rfl)) rfl rfl ?_
        refine xV (e_fld Tryz.underlying24 rfl Tryz.sizeOf22 rfl (q0 rfl)) rfl rfl ?_
        refine xV (eL Tryz.isAgg22 (q0 rfl)) rfl rfl ?_
        refine xV (e_len Tryz.underlying22 (q0 rfl)) rfl rfl ?_
        refine xV (e_ne (q0 rfl) (q0 rfl)) rfl rfl ?_
        refine xV (e_mv (v := .bool _) (q0 rfl)) rfl rfl ?_
        refine xVF (e_fld Tryz.underlying28 rfl Tryz.sizeOf22 rfl (q0 rfl)) rfl rfl rfl rfl ?_
        refine xVF (eL Tryz.isAgg22 (q1 rfl)) rfl rfl rfl rfl ?_
        refine xVF (e_len Tryz.underlying22 (q1 rfl)) rfl rfl rfl rfl ?_
        refine xVF (e_gt (q1 rfl) (q0 rfl)) rfl rfl rfl rfl ?_
        refine xV (e_or (q0 rfl) rfl (fun h => by first | rfl | (rw [h]; rfl))) rfl rfl ?_
        refine XN ?_
        refine thenJ_normal ?_
        refine H_cond rfl (fun h4 => ?_) (fun h4 => ?_)
        · have h4' : p.docks.length ≠ f.docks.length ∨ 64 < p.places.length := by simp at h4; omega
          refine H_seq ?_
          refine R0 ?_
          refine xV (e_as (v := .int _ _) (q0 rfl)) rfl rfl ?_
          refine XN ?_
          refine thenJ_normal ?_
          refine H_ret ?_
          refine thenJ_ret ?_
          exact ret1 (v := .int _ _) rfl rfl rfl fun w' hw => ⟨ret_int (by unfold prErr; rw [if_neg (fun h => h h1'), if_neg (fun h => h h2'), if_neg (fun h => h h3'), if_pos h4']), hw.1⟩
        · have h4' : ¬ (p.docks.length ≠ f.docks.length ∨ 64 < p.places.length) := by simp at h4; omega
          have hfl := fl_docks h1'
          refine H_skip ?_
          refine thenJ_normal ?_
          refine H_seq ?_
          refine H_seq ?_
          refine R0 ?_
          refine xV (e_fld Tryz.underlying28 rfl Tryz.sizeOf22 rfl (q0 rfl)) rfl rfl ?_
          refine xV (eL Tryz.isAgg22 (q0 rfl)) rfl rfl ?_
          refine xV (e_fld Tryz.underlying28 rfl Tryz.sizeOf22 rfl (q0 rfl)) rfl rfl ?_
          refine xV (eL Tryz.isAgg22 (q0 rfl)) rfl rfl ?_
          refine X_slit [(.slice none 0 0), (.slice none 0 0)] Tryz.underlying239 Tryz.sizeOf22 Tryz.zeroValue22 rfl (by kernel_rfl) (pt (v := .slice _ _ _) rfl (pt (v := .slice _ _ _) rfl E.p0)) rfl rfl fun b44 => ?_
          refine xCX (en Tryz.call76 (ha1 (q0 rfl))) (fun w hw => concat_w (some ⟨b44, 0, none⟩) 2 a.pl.A a.pl.n a.pl.c p.places a.d.A a.d.n a.d.c p.docks w (slAt_box (enc := encV) (xs := [.slice a.pl.A a.pl.n a.pl.c, .slice a.d.A a.d.n a.d.c]) hw (j := 0) rfl (fun _ => rfl) (by simp)) (hp.pl.mem hw) (hp.dk.mem hw) (by omega) (by omega)) rfl (fun _ => rfl) fun z => ?_
          have herr : prErr f p = if (p.places ++ p.docks).any feeBad = true then 1 else if p.cap < 0 ∨ 1000000000000 < p.cap then 1 else Pen.pErr p.fines p.days := by
            unfold prErr; rw [if_neg (fun h => h h1'), if_neg (fun h => h h2'), if_neg (fun h => h h3'), if_neg h4']
          rw [herr]
          have hal : (p.places ++ p.docks).length ≤ 1000 := by rw [List.length_append]; omega
          generalize p.places ++ p.docks = al at *
          obtain ⟨zA, zc⟩ := z
          refine xV (e_len Tryz.underlying22 (q0 rfl)) rfl rfl ?_
          refine xV (e_mv (v := .int _ _) (q0 rfl)) rfl rfl ?_
          refine XN ?_
          refine thenJ_normal ?_
          refine H_block ?_
          refine H_loop [4, 9, 47, 48, 49, 50, 51, 52, 53, 54, 55, 56, 57] (fun k : Nat => [(47, .int .i64 k)]) (fun _ => [intRow zA zc al, box b44 22 [.slice a.pl.A a.pl.n a.pl.c, .slice a.d.A a.d.n a.d.c], box b3 28 (p.cells a), box b2 24 (f.cells fa)]) (fun k => k ≤ al.length ∧ (al.take k).any feeBad = false) (fun k => al.length - k) 0 ⟨rfl, trivial⟩ (fun w hw => hw) rfl ⟨Nat.zero_le _, rfl⟩ ?_
          rintro k g ⟨hk, hall⟩
          refine H_seq ?_
          refine R0 ?_
          refine xV (e_lt (q0 rfl) (q0 rfl)) rfl rfl ?_
          refine XN ?_
          refine thenJ_normal ?_
          refine H_seq ?_
          refine H_cond rfl (fun hlt => ?_) (fun hlt => ?_)
          · have hlt' : k < al.length := by simpa using hlt
            obtain ⟨x, hxk⟩ : ∃ x, al[k]? = some x := ⟨_, List.getElem?_eq_getElem hlt'⟩
            refine H_know (fun w hw => rowT_at (j := 0) hw rfl (by omega)) fun ⟨rb, hrb⟩ => ?_
            subst hrb
            refine H_skip ?_
            refine thenJ_normal ?_
            refine H_seq ?_
            refine H_block ?_
            refine H_seq ?_
            refine R0 ?_
            refine xV (e_idx k Tryz.underlying22 Tryz.sizeOf3 (q0 rfl) (q0 rfl) (fun _ => ⟨rfl, hlt'⟩)) rfl rfl ?_
            refine xV (e_ld (v := .int .i64 x) Tryz.isAgg3 (q0 rfl) (by exact rr0 0 (k := 1) (enc := encInt) rfl hxk rfl)) rfl rfl ?_
            refine xV (e_as (v := .int _ _) (q0 rfl)) rfl rfl ?_
            refine XN ?_
            refine thenJ_normal ?_
            refine H_seq ?_
            refine R0 ?_
            refine xV (e_mv (v := .int _ _) (q0 rfl)) rfl rfl ?_
            refine xV (e_lt (q0 rfl) (q0 rfl)) rfl rfl ?_
            refine xV (e_mv (v := .bool _) (q0 rfl)) rfl rfl ?_
            refine xVF (e_mv (v := .int _ _) (q0 rfl)) rfl rfl rfl rfl ?_
            refine xVF (e_gt (q1 rfl) (q0 rfl)) rfl rfl rfl rfl ?_
            refine xV (e_or (q0 rfl) rfl (fun h => by first | rfl | (rw [h]; rfl))) rfl rfl ?_
            refine XN ?_
            refine thenJ_normal ?_
            refine H_cond rfl (fun hb => ?_) (fun hb => ?_)
            · have hb' : feeBad x = true := hb
              refine H_seq ?_
              refine R0 ?_
              refine xV (e_as (v := .int _ _) (q0 rfl)) rfl rfl ?_
              refine XN ?_
              refine thenJ_normal ?_
              refine H_ret ?_
              refine blockJ_ret ?_
              refine thenJ_ret ?_
              refine loopJ_ret ?_
              refine blockJ_ret ?_
              refine thenJ_ret ?_
              exact ret1 (v := .int _ _) rfl rfl rfl fun w' hw => ⟨ret_int (by rw [if_pos (any_at hxk hb')]), hw.1⟩
            · have hb' : feeBad x = false := hb
              refine H_skip ?_
              refine blockJ_normal ?_
              refine thenJ_normal ?_
              refine R0 ?_
              refine xV (e_add (q0 rfl) (q0 rfl) (fun _ => ⟨rfl, by omega, by omega⟩)) rfl rfl ?_
              refine xV (e_mv (v := .int _ _) (q0 rfl)) rfl rfl ?_
              refine XN ?_
              exact loopJ_normal (k + 1) (by repeat (first | exact agree_self | exact agree_over | refine agree_upd rfl ?_ | refine agree_updL rfl ?_ | refine agree_over2 rfl ?_)) ⟨rfl, trivial⟩ (fun w hw => hw) rfl ⟨by omega, any_on hxk hall hb'⟩ (by show al.length - (k + 1) < al.length - k; omega)
          · have hend : k = al.length := by simp at hlt; omega
            rw [hend, List.take_length] at hall
            rw [if_neg (by rw [hall]; decide)]
            refine H_exit ?_
            refine thenJ_exit ?_
            refine loopJ_exit ?_
            refine blockJ_hit ?_
            refine thenJ_normal ?_
            refine H_seq ?_
            refine H_seq ?_
            refine R0 ?_
            refine xV (e_fld Tryz.underlying28 rfl Tryz.sizeOf3 rfl (q0 rfl)) rfl rfl ?_
            refine xV (eL Tryz.isAgg3 (q0 rfl)) rfl rfl ?_
            refine xV (e_lt (q0 rfl) (q0 rfl)) rfl rfl ?_
            refine xV (e_mv (v := .bool _) (q0 rfl)) rfl rfl ?_
            refine xVF (e_fld Tryz.underlying28 rfl Tryz.sizeOf3 rfl (q0 rfl)) rfl rfl rfl rfl ?_
            refine xVF (eL Tryz.isAgg3 (q1 rfl)) rfl rfl rfl rfl ?_
            refine xVF (e_gt (q1 rfl) (q0 rfl)) rfl rfl rfl rfl ?_
            refine xV (e_or (q0 rfl) rfl (fun h => by first | rfl | (rw [h]; rfl))) rfl rfl ?_
            refine XN ?_
            refine thenJ_normal ?_
            refine H_cond rfl (fun h6 => ?_) (fun h6 => ?_)
            · have h6' : p.cap < 0 ∨ 1000000000000 < p.cap := by simp at h6; omega
              refine H_seq ?_
              refine R0 ?_
              refine xV (e_as (v := .int _ _) (q0 rfl)) rfl rfl ?_
              refine XN ?_
              refine thenJ_normal ?_
              refine H_ret ?_
              refine thenJ_ret ?_
              exact ret1 (v := .int _ _) rfl rfl rfl fun w' hw => ⟨ret_int (by rw [if_pos h6']), hw.1⟩
            · have h6' : ¬ (p.cap < 0 ∨ 1000000000000 < p.cap) := by simp at h6; omega
              rw [if_neg h6']
              refine H_skip ?_
              refine thenJ_normal ?_
              refine H_seq ?_
              refine R0 ?_
              refine xV (eS Tryz.isAgg28 Tryz.sizeOf28 (q0 rfl)) rfl rfl ?_
              refine xC (en Tryz.call77 (ha1 (q0 rfl))) (fun _ w hw => Pen.check_w _ _ _ _ _ a.f.A a.f.n a.f.c p.fines p.days w (hp.fi.mem hw)) rfl rfl ?_
              refine xV (e_as (v := .int _ _) (q0 rfl)) rfl rfl ?_
              refine XN ?_
              refine thenJ_normal ?_
              refine H_ret ?_
              exact ret1 (v := .int _ _) rfl rfl rfl fun w' hw => ⟨rfl, hw.1⟩
set_option maxHeartbeats 1000000 in
set_option maxRecDepth 20000 in
theorem rfcheck_w (f : Fl) (fa : FA) (p : Pr) (a : PrA) (w : World) (hf : FlAt w f fa) (hp : PrAt w p a) : Calls Tryz.prog 20 #[.agg (f.cells fa).toArray, .agg (p.cells a).toArray] w fun e w' => e = .returned (.int .i64 (prErr f p)) ∧ Bel w w' := by
  have hfd := hf.docks.1
  have hpd := hp.dk.1
  have hpp := hp.pl.1
  refine H_enter Tryz.func20 rfl Tryz.ntmps20 rfl ?_
  refine H_seq ?_
  refine R0 ?_
  refine X_box (v := .agg _) rfl rfl fun b2 => ?_
  refine X_box (v := .agg _) rfl rfl fun b3 => ?_
  refine xV (e_as (v := .int _ _) (q0 rfl)) rfl rfl ?_
  refine XN ?_
  refine thenJ_normal ?_
  refine H_seq ?_
  refine H_seq ?_
  refine R0 ?_
  refine xV (eS Tryz.isAgg24 Tryz.sizeOf24 (q0 rfl)) rfl rfl ?_
  refine xC (en Tryz.call59 (ha1 (q0 rfl))) (fun _ w hw => rfleet_w f fa w (hf.mem hw)) rfl rfl ?_
  refine xV (e_as (v := .int _ _) (q0 rfl)) rfl rfl ?_
  refine XN ?_
  refine thenJ_normal ?_
  refine H_seq ?_
  refine R0 ?_
  refine xV (e_mv (v := .int _ _) (q0 rfl)) rfl rfl ?_
  refine xV (e_ne (q0 rfl) (q0 rfl)) rfl rfl ?_
  refine XN ?_
  refine thenJ_normal ?_
  refine H_cond rfl (fun h1 => ?_) (fun h1 => ?_)
  · have h1' : flErr f ≠ 0 := by simpa using h1
    refine H_seq ?_
    refine R0 ?_
    refine xV (e_mv (v := .int _ _) (q0 rfl)) rfl rfl ?_
    refine xV (e_as (v := .int _ _) (q0 rfl)) rfl rfl ?_
    refine XN ?_
    refine thenJ_normal ?_
    refine H_ret ?_
    refine thenJ_ret ?_
    exact ret1 (v := .int _ _) rfl rfl rfl fun w' hw => ⟨ret_int (by unfold prErr; rw [if_pos h1']), hw.1⟩
  · have h1' : flErr f = 0 := by simpa using h1
    refine H_skip ?_
    refine thenJ_normal ?_
    refine H_seq ?_
    refine H_seq ?_
    refine R0 ?_
    refine xV (e_fld Tryz.underlying28 rfl Tryz.sizeOf25 rfl (q0 rfl)) rfl rfl ?_
    refine xV (eL Tryz.isAgg25 (q0 rfl)) rfl rfl ?_
    refine xC (en Tryz.call60 (ha1 (q0 rfl))) (fun _ w hw => rtcheck_w a.t.A a.t.n a.t.c p.tariffs w (hp.tf.mem hw)) rfl rfl ?_
    refine xV (e_as (v := .int _ _) (q0 rfl)) rfl rfl ?_
    refine XN ?_
    refine thenJ_normal ?_
    refine H_seq ?_
    refine R0 ?_
    refine xV (e_mv (v := .int _ _) (q0 rfl)) rfl rfl ?_
    refine xV (e_ne (q0 rfl) (q0 rfl)) rfl rfl ?_
    refine XN ?_
    refine thenJ_normal ?_
    refine H_cond rfl (fun h2 => ?_) (fun h2 => ?_)
    · have h2' : tfErr p.tariffs ≠ 0 := by simpa using h2
      refine H_seq ?_
      refine R0 ?_
      refine xV (e_mv (v := .int _ _) (q0 rfl)) rfl rfl ?_
      refine xV (e_as (v := .int _ _) (q0 rfl)) rfl rfl ?_
      refine XN ?_
      refine thenJ_normal ?_
      refine H_ret ?_
      refine thenJ_ret ?_
      exact ret1 (v := .int _ _) rfl rfl rfl fun w' hw => ⟨ret_int (by unfold prErr; rw [if_neg (fun h => h h1'), if_pos h2']), hw.1⟩
    · have h2' : tfErr p.tariffs = 0 := by simpa using h2
      refine H_skip ?_
      refine thenJ_normal ?_
      refine H_seq ?_
      refine H_seq ?_
      refine R0 ?_
      refine xV (e_fld Tryz.underlying28 rfl Tryz.sizeOf26 rfl (q0 rfl)) rfl rfl ?_
      refine xV (eL Tryz.isAgg26 (q0 rfl)) rfl rfl ?_
      refine xC (en Tryz.call61 (ha1 (q0 rfl))) (fun _ w hw => rpcheck_w a.p.A a.p.n a.p.c p.passes w (hp.ps.mem hw)) rfl rfl ?_
      refine xV (e_as (v := .int _ _) (q0 rfl)) rfl rfl ?_
      refine XN ?_
      refine thenJ_normal ?_
      refine H_seq ?_
      refine R0 ?_
      refine xV (e_mv (v := .int _ _) (q0 rfl)) rfl rfl ?_
      refine xV (e_ne (q0 rfl) (q0 rfl)) rfl rfl ?_
      refine XN ?_
      refine thenJ_normal ?_
      refine H_cond rfl (fun h3 => ?_) (fun h3 => ?_)
      · have h3' : pasErr p.passes ≠ 0 := by simpa using h3
        refine H_seq ?_
        refine R0 ?_
        refine xV (e_mv (v := .int _ _) (q0 rfl)) rfl rfl ?_
        refine xV (e_as (v := .int _ _) (q0 rfl)) rfl rfl ?_
        refine XN ?_
        refine thenJ_normal ?_
        refine H_ret ?_
        refine thenJ_ret ?_
        exact ret1 (v := .int _ _) rfl rfl rfl fun w' hw => ⟨ret_int (by unfold prErr; rw [if_neg (fun h => h h1'), if_neg (fun h => h h2'), if_pos h3']), hw.1⟩
      · have h3' : pasErr p.passes = 0 := by simpa using h3
        refine H_skip ?_
        refine thenJ_normal ?_
        refine H_seq ?_
        refine H_seq ?_
        refine R0 ?_
        refine xV (e_fld Tryz.underlying28 rfl Tryz.sizeOf22 rfl (q0 rfl)) rfl rfl ?_
        refine xV (eL Tryz.isAgg22 (q0 rfl)) rfl rfl ?_
        refine xV (e_len Tryz.underlying22 (q0 rfl)) rfl rfl ?_
        refine xV (e_fld Tryz.underlying24 rfl Tryz.sizeOf22 rfl (q0 rfl)) rfl rfl ?_
        refine xV (eL Tryz.isAgg22 (q0 rfl)) rfl rfl ?_
        refine xV (e_len Tryz.underlying22 (q0 rfl)) rfl rfl ?_
        refine xV (e_ne (q0 rfl) (q0 rfl)) rfl rfl ?_
        refine xV (e_mv (v := .bool _) (q0 rfl)) rfl rfl ?_
        refine xVF (e_fld Tryz.underlying28 rfl Tryz.sizeOf22 rfl (q0 rfl)) rfl rfl rfl rfl ?_
        refine xVF (eL Tryz.isAgg22 (q1 rfl)) rfl rfl rfl rfl ?_
        refine xVF (e_len Tryz.underlying22 (q1 rfl)) rfl rfl rfl rfl ?_
        refine xVF (e_gt (q1 rfl) (q0 rfl)) rfl rfl rfl rfl ?_
        refine xV (e_or (q0 rfl) rfl (fun h => by first | rfl | (rw [h]; rfl))) rfl rfl ?_
        refine XN ?_
        refine thenJ_normal ?_
        refine H_cond rfl (fun h4 => ?_) (fun h4 => ?_)
        · have h4' : p.docks.length ≠ f.docks.length ∨ 64 < p.places.length := by simp at h4; omega
          refine H_seq ?_
          refine R0 ?_
          refine xV (e_as (v := .int _ _) (q0 rfl)) rfl rfl ?_
          refine XN ?_
          refine thenJ_normal ?_
          refine H_ret ?_
          refine thenJ_ret ?_
          exact ret1 (v := .int _ _) rfl rfl rfl fun w' hw => ⟨ret_int (by unfold prErr; rw [if_neg (fun h => h h1'), if_neg (fun h => h h2'), if_neg (fun h => h h3'), if_pos h4']), hw.1⟩
        · have h4' : ¬ (p.docks.length ≠ f.docks.length ∨ 64 < p.places.length) := by simp at h4; omega
          have herr : prErr f p = if (p.places ++ p.docks).any feeBad = true then 1 else if p.cap < 0 ∨ 1000000000000 < p.cap then 1 else Pen.pErr p.fines p.days := by
            unfold prErr; rw [if_neg (fun h => h h1'), if_neg (fun h => h h2'), if_neg (fun h => h h3'), if_neg h4']
          rw [herr, List.any_append]
          refine H_skip ?_
          refine thenJ_normal ?_
          refine H_seq ?_
          refine H_seq ?_
          refine R0 ?_
          refine xV (e_fld Tryz.underlying28 rfl Tryz.sizeOf22 rfl (q0 rfl)) rfl rfl ?_
          refine xV (eL Tryz.isAgg22 (q0 rfl)) rfl rfl ?_
          refine xC (en Tryz.call62 (ha1 (q0 rfl))) (fun _ w hw => rfees_w a.pl.A a.pl.n a.pl.c p.places w (hp.pl.mem hw)) rfl rfl ?_
          refine xV (e_not (q0 rfl)) rfl rfl ?_
          refine xV (e_mv (v := .bool _) (q0 rfl)) rfl rfl ?_
          refine xVF (e_fld Tryz.underlying28 rfl Tryz.sizeOf22 rfl (q0 rfl)) rfl rfl rfl rfl ?_
          refine xVF (eL Tryz.isAgg22 (q1 rfl)) rfl rfl rfl rfl ?_
          refine xCF (en Tryz.call62 (ha1 (q1 (v := .slice _ _ _) rfl))) (fun _ w hw => rfees_w a.d.A a.d.n a.d.c p.docks w (hp.dk.mem hw)) rfl rfl rfl rfl ?_
          refine xVF (e_not (q1 rfl)) rfl rfl rfl rfl ?_
          refine xV (e_or (q0 rfl) rfl (fun h => by first | rfl | (rw [h]; rfl))) rfl rfl ?_
          refine xV (e_mv (v := .bool _) (q0 rfl)) rfl rfl ?_
          refine xVF (e_fld Tryz.underlying28 rfl Tryz.sizeOf3 rfl (q0 rfl)) rfl rfl rfl rfl ?_
          refine xVF (eL Tryz.isAgg3 (q1 rfl)) rfl rfl rfl rfl ?_
          refine xVF (e_lt (q1 rfl) (q0 rfl)) rfl rfl rfl rfl ?_
          refine xV (e_or (q0 rfl) rfl (fun h => by first | rfl | (rw [h]; rfl))) rfl rfl ?_
          refine xV (e_mv (v := .bool _) (q0 rfl)) rfl rfl ?_
          refine xVF (e_fld Tryz.underlying28 rfl Tryz.sizeOf3 rfl (q0 rfl)) rfl rfl rfl rfl ?_
          refine xVF (eL Tryz.isAgg3 (q1 rfl)) rfl rfl rfl rfl ?_
          refine xVF (e_gt (q1 rfl) (q0 rfl)) rfl rfl rfl rfl ?_
          refine xV (e_or (q0 rfl) rfl (fun h => by first | rfl | (rw [h]; rfl))) rfl rfl ?_
          refine XN ?_
          refine thenJ_normal ?_
          refine H_cond rfl (fun h5 => ?_) (fun h5 => ?_)
          · have h5' : (p.places.any feeBad || p.docks.any feeBad) = true ∨ (p.cap < 0 ∨ 1000000000000 < p.cap) := by
              have h : ((((!!p.places.any feeBad) || (!!p.docks.any feeBad)) || decide (p.cap < 0)) || decide (1000000000000 < p.cap)) = true := h5
              simp only [Bool.not_not, Bool.or_eq_true, decide_eq_true_eq] at h ⊢
              exact or_assoc.1 h
            refine H_seq ?_
            refine R0 ?_
            refine xV (e_as (v := .int _ _) (q0 rfl)) rfl rfl ?_
            refine XN ?_
            refine thenJ_normal ?_
            refine H_ret ?_
            refine thenJ_ret ?_
            exact ret1 (v := .int _ _) rfl rfl rfl fun w' hw => ⟨ret_int (by rcases h5' with h | h; rw [if_pos h]; rw [if_pos h]; split <;> rfl), hw.1⟩
          · have h5' : ¬ (p.places.any feeBad || p.docks.any feeBad) = true ∧ ¬ (p.cap < 0 ∨ 1000000000000 < p.cap) := by
              have h : ((((!!p.places.any feeBad) || (!!p.docks.any feeBad)) || decide (p.cap < 0)) || decide (1000000000000 < p.cap)) = false := h5
              simp only [Bool.not_not, Bool.or_eq_false_iff, decide_eq_false_iff_not] at h
              refine ⟨by rw [h.1.1.1, h.1.1.2]; decide, by omega⟩
            rw [if_neg h5'.1, if_neg h5'.2]
            refine H_skip ?_
            refine thenJ_normal ?_
            refine H_seq ?_
            refine R0 ?_
            refine xV (eS Tryz.isAgg28 Tryz.sizeOf28 (q0 rfl)) rfl rfl ?_
            refine xC (en Tryz.call63 (ha1 (q0 rfl))) (fun _ w hw => Pen.rcheck_w _ _ _ _ _ a.f.A a.f.n a.f.c p.fines p.days w (hp.fi.mem hw)) rfl rfl ?_
            refine xV (e_as (v := .int _ _) (q0 rfl)) rfl rfl ?_
            refine XN ?_
            refine thenJ_normal ?_
            refine H_ret ?_
            exact ret1 (v := .int _ _) rfl rfl rfl fun w' hw => ⟨rfl, hw.1⟩

end Go.Proofs.Far
