import Derived.Test.YtcpihdljjckecaaGreatDoorConEb
import Derived.Test.YtcpihdljjckecaaGreatDoorProg
import Derived.Test.YtcpihdljjckecaaGreatDoorConEa
set_option linter.unusedVariables false
set_option linter.unusedSimpArgs false
/-
  Plain functions: what the penalties compute (no program in sight).
-/
namespace Go.Proofs.Pen

structure V where
  ride : Int
  rider : Int
  moment : Int
  kind : Int

def V.zero : V := ⟨0, 0, 0, 0⟩

def fineBad (x : Int) : Bool := decide (x < 0) || decide (1000000 < x)
def pErr (fines : List Int) (days : Int) : Int :=
  if 512 < fines.length then 8 else if fines.any fineBad then 1 else if days < 0 ∨ 49709 < days then 1 else 0

def vBad (v : V) : Int :=
  if v.ride < 1 ∨ 1000000 < v.ride ∨ v.rider < 0 ∨ 128 ≤ v.rider ∨ v.moment < 0 ∨ 4294943999 < v.moment then 1 else if v.kind < 1 ∨ 3 < v.kind then 14 else 0
def hasRide (l : List V) (r : Int) : Bool := l.any (fun x => x.ride == r)
def vOne (seen : List V) (v : V) : Int := if vBad v ≠ 0 then vBad v else if hasRide seen v.ride then 6 else 0
def vErrL : List V → List V → Int
  | _, [] => 0
  | seen, v :: rest => if vOne seen v ≠ 0 then vOne seen v else vErrL (seen ++ [v]) rest
def vErr (l : List V) : Int := if 256 < l.length then 8 else vErrL [] l

def before (a b : V) : Bool := decide (a.moment < b.moment) || (decide (a.moment = b.moment) && decide (a.ride < b.ride))
def inDays (days : Int) (x v : V) : Bool := decide (v.moment / 86400 - days ≤ x.moment / 86400)
def hit (days : Int) (v x : V) : Bool := (x.rider == v.rider && x.kind == 2) && (before x v && inDays days x v)
def cnt (days : Int) (l : List V) (v : V) : Nat := (l.filter (hit days v)).length
def num (days : Int) (l : List V) (v : V) : Int := if v.kind = 2 then 1 + (cnt days l v : Int) else 0
def fine (fines : List Int) (days : Int) (l : List V) (v : V) : Int :=
  if num days l v = 0 ∨ fines.length = 0 then 0 else fines.getD (min (num days l v).toNat fines.length - 1) 0
def viol (rider : Int) (l : List V) : List V := l.filter (fun x => x.rider == rider && x.kind == 2)
def sumF (f : V → Int) (l : List V) : Int := (l.map f).sum
def total (fines : List Int) (days : Int) (l : List V) (rider : Int) : Int := sumF (fine fines days l) (viol rider l)

def cErr (fines : List Int) (days : Int) (l : List V) : Int := if pErr fines days ≠ 0 then pErr fines days else vErr l

/-- what Number answers -/
def numR (fines : List Int) (days : Int) (l : List V) (i : Int) : Int × Int :=
  if cErr fines days l ≠ 0 then (0, cErr fines days l) else if i < 0 ∨ (l.length : Int) ≤ i then (0, 7) else (num days l (l.getD i.toNat V.zero), 0)
def fineR (fines : List Int) (days : Int) (l : List V) (i : Int) : Int × Int :=
  if cErr fines days l ≠ 0 then (0, cErr fines days l) else if i < 0 ∨ (l.length : Int) ≤ i then (0, 7) else (fine fines days l (l.getD i.toNat V.zero), 0)
def totalR (fines : List Int) (days : Int) (l : List V) (rider : Int) : Int × Int :=
  if cErr fines days l ≠ 0 then (0, cErr fines days l) else if 1000000000000 < total fines days l rider then (0, 2) else (total fines days l rider, 0)

theorem take_snoc {α : Type} (l : List α) (k : Nat) (v : α) (h : l[k]? = some v) : l.take (k + 1) = l.take k ++ [v] := by
  rw [List.take_add_one, h]; rfl

theorem drop_cons {α : Type} (l : List α) (k : Nat) (v : α) (h : l[k]? = some v) : l.drop k = v :: l.drop (k + 1) := by
  obtain ⟨hk, rfl⟩ := List.getElem?_eq_some_iff.1 h
  exact List.drop_eq_getElem_cons hk

theorem vErrL_split (seen l : List V) (k : Nat) (v : V) (h : l[k]? = some v) : vErrL seen (l.drop k) = if vOne seen v ≠ 0 then vOne seen v else vErrL (seen ++ [v]) (l.drop (k + 1)) := by
  rw [drop_cons l k v h]; rfl

end Go.Proofs.Pen

/-
  The walks: prices and verdicts checked; which verdict comes first.
-/
namespace Go.Proofs.Pen
open Go Go.RowKit Go.Proofs.E

def V.cells (v : V) : List Value := [.int .i64 v.ride, .int .i64 v.rider, .int .i64 v.moment, .int .i64 v.kind]
abbrev VsAt (w : World) (A : Option Addr) (n : Nat) (vs : List V) : Prop := SlAt w 4 V.cells A n vs
abbrev IntsAt (w : World) (A : Option Addr) (n : Nat) (xs : List Int) : Prop := SlAt w 1 encInt A n xs

theorem any_take_snoc (xs : List Int) (k : Nat) (x : Int) (h : xs[k]? = some x) (h0 : (xs.take k).any fineBad = false) (hb : fineBad x = false) : (xs.take (k + 1)).any fineBad = false := by
  rw [take_snoc _ _ _ h, List.any_append, h0]; simp [hb]
theorem pErr_bad (xs : List Int) (d : Int) (k : Nat) (x : Int) (hl : xs.length ≤ 512) (h : xs[k]? = some x) (hb : fineBad x = true) : pErr xs d = 1 := by
  unfold pErr
  rw [if_neg (by omega), if_pos]
  exact List.any_eq_true.2 ⟨x, List.mem_of_getElem? h, hb⟩
theorem pErr_full (xs : List Int) (d : Int) (hl : 512 < xs.length) : pErr xs d = 8 := by unfold pErr; rw [if_pos hl]
theorem pErr_days (xs : List Int) (d : Int) (hl : xs.length ≤ 512) (h0 : xs.any fineBad = false) (hd : d < 0 ∨ 49709 < d) : pErr xs d = 1 := by
  unfold pErr; rw [if_neg (by omega), h0]; simp [hd]
theorem pErr_ok (xs : List Int) (d : Int) (hl : xs.length ≤ 512) (h0 : xs.any fineBad = false) (hd : ¬ (d < 0 ∨ 49709 < d)) : pErr xs d = 0 := by
  unfold pErr; rw [if_neg (by omega), h0]; simp; omega

theorem check_w (a0 a1 a2 a3 a4 : Value) (A : Option Addr) (n c : Nat) (xs : List Int) (d : Int) (w : World) (hx : IntsAt w A n xs) :
    Calls Tryz.prog 95 #[.agg #[a0, a1, a2, a3, a4, .slice A n c, .int .i64 d]] w fun e w' => e = .returned (.int .i64 (pErr xs d)) ∧ Bel w w' := by
  have hn := hx.2.1
  have hl := hx.1
  refine H_enter Tryz.func95 rfl Tryz.ntmps95 rfl ?_
  refine H_seq ?_
  refine R0 ?_
  refine X_box (v := .agg _) rfl rfl fun b1 => ?_
  refine xV (e_as (v := .int _ _) (q0 rfl)) rfl rfl ?_
  refine XN ?_
  refine thenJ_normal ?_
  refine H_seq ?_
  refine H_seq ?_
  refine R0 ?_
  refine xV (e_fld Tryz.underlying48 rfl Tryz.sizeOf42 rfl (q0 rfl)) rfl rfl ?_
  refine xV (eL Tryz.isAgg42 (q0 rfl)) rfl rfl ?_
  refine xV (e_len Tryz.underlying42 (q0 rfl)) rfl rfl ?_
  refine xV (e_gt (q0 rfl) (q0 rfl)) rfl rfl ?_
  refine XN ?_
  refine thenJ_normal ?_
  refine H_cond rfl (fun hb => ?_) (fun hb => ?_)
  · refine H_seq ?_
    refine R0 ?_
    refine xV (e_as (v := .int _ _) (q0 rfl)) rfl rfl ?_
    refine XN ?_
    refine thenJ_normal ?_
    refine H_ret ?_
    refine thenJ_ret ?_
    exact ret1 (v := .int _ _) rfl rfl rfl fun w' hw => ⟨ret_int (pErr_full _ _ (by simp at hb; omega)).symm, hw.1⟩
  · refine H_skip ?_
    refine thenJ_normal ?_
    refine H_seq ?_
    refine H_seq ?_
    refine R0 ?_
    refine xV (e_fld Tryz.underlying48 rfl Tryz.sizeOf42 rfl (q0 rfl)) rfl rfl ?_
    refine xV (eL Tryz.isAgg42 (q0 rfl)) rfl rfl ?_
    refine xV (e_len Tryz.underlying42 (q0 rfl)) rfl rfl ?_
    refine xV (e_mv (v := .int _ _) (q0 rfl)) rfl rfl ?_
    refine XN ?_
    refine thenJ_normal ?_
    refine H_block ?_
    simp at hb
    refine H_loop [2, 4, 12, 13, 14, 15, 16, 17, 18, 19, 20, 21, 22] (fun k : Nat => [(12, .int .i64 k)]) (fun _ => _) (fun k => k ≤ n ∧ (xs.take k).any fineBad = false) (fun k => n - k) 0 ⟨rfl, trivial⟩ (fun _ h => h) rfl ⟨Nat.zero_le _, rfl⟩ ?_
    rintro k g ⟨hk, hall⟩
    refine H_seq ?_
    refine R0 ?_
    refine xV (e_lt (q0 rfl) (q0 rfl)) rfl rfl ?_
    refine XN ?_
    refine thenJ_normal ?_
    refine H_seq ?_
    refine H_cond rfl (fun hlt => ?_) (fun hlt => ?_)
    · simp at hlt
      obtain ⟨b, off, x, rfl, hbl, hxk, hr⟩ := hx.at_ hlt
      refine H_skip ?_
      refine thenJ_normal ?_
      refine H_seq ?_
      refine H_block ?_
      refine H_seq ?_
      refine R0 ?_
      refine xV (e_idx _ Tryz.underlying42 Tryz.sizeOf3 (q0 rfl) (q0 rfl) (fun _ => ⟨rfl, by omega⟩)) rfl rfl ?_
      refine xV (eL Tryz.isAgg3 (q0 rfl)) rfl rfl ?_
      refine xV (e_as (v := .int _ _) (q0 rfl)) rfl rfl ?_
      refine XN ?_
      refine thenJ_normal ?_
      refine H_seq ?_
      refine R0 ?_
      refine xV (e_mv (v := .int _ _) (q0 rfl)) rfl rfl ?_
      refine xV (e_lt (q0 rfl) (q0 rfl)) rfl rfl ?_
      refine xV (e_mv (v := .bool _) (q0 rfl)) rfl rfl ?_
      refine xVF (e_mv (v := .int _ _) (q0 rfl)) rfl rfl rfl rfl ?_
      refine xVF (e_gt (q1 rfl) (q0 rfl)) rfl rfl rfl rfl ?_
      refine xV (e_or (q0 rfl) rfl (fun h => by first | rfl | (rw [h]; rfl))) rfl rfl ?_
      refine XN ?_
      refine thenJ_normal ?_
      refine H_cond rfl (fun hbad => ?_) (fun hbad => ?_)
      · refine H_seq ?_
        refine R0 ?_
        refine xV (e_as (v := .int _ _) (q0 rfl)) rfl rfl ?_
        refine XN ?_
        refine thenJ_normal ?_
        refine H_ret ?_
        refine blockJ_ret ?_
        refine thenJ_ret ?_
        refine loopJ_ret ?_
        refine blockJ_ret ?_
        refine thenJ_ret ?_
        exact ret1 (v := .int _ _) rfl rfl rfl fun w' hw => ⟨ret_int (pErr_bad _ _ k x (by omega) hxk hbad).symm, hw.1⟩
      · refine H_skip ?_
        refine blockJ_normal ?_
        refine thenJ_normal ?_
        refine R0 ?_
        refine xV (e_add (q0 rfl) (q0 rfl) (fun _ => ⟨rfl, by omega, by omega⟩)) rfl rfl ?_
        refine xV (e_mv (v := .int _ _) (q0 rfl)) rfl rfl ?_
        refine XN ?_
        exact loopJ_normal (k + 1) (by repeat (first | exact agree_self | exact agree_over | refine agree_upd rfl ?_ | refine agree_updL rfl ?_ | refine agree_over2 rfl ?_)) ⟨rfl, trivial⟩ (fun _ h => h) rfl ⟨by omega, any_take_snoc _ _ _ hxk hall hbad⟩ (by show n - (k + 1) < n - k; omega)
    · simp at hlt
      rw [List.take_of_length_le (by omega)] at hall
      refine H_exit ?_
      refine thenJ_exit ?_
      refine loopJ_exit ?_
      refine blockJ_hit ?_
      refine thenJ_normal ?_
      refine H_seq ?_
      refine H_seq ?_
      refine R0 ?_
      refine xV (e_fld Tryz.underlying48 rfl Tryz.sizeOf3 rfl (q0 rfl)) rfl rfl ?_
      refine xV (eL Tryz.isAgg3 (q0 rfl)) rfl rfl ?_
      refine xV (e_lt (q0 rfl) (q0 rfl)) rfl rfl ?_
      refine xV (e_mv (v := .bool _) (q0 rfl)) rfl rfl ?_
      refine xVF (e_fld Tryz.underlying48 rfl Tryz.sizeOf3 rfl (q0 rfl)) rfl rfl rfl rfl ?_
      refine xVF (eL Tryz.isAgg3 (q1 rfl)) rfl rfl rfl rfl ?_
      refine xVF (e_gt (q1 rfl) (q0 rfl)) rfl rfl rfl rfl ?_
      refine xV (e_or (q0 rfl) rfl (fun h => by first | rfl | (rw [h]; rfl))) rfl rfl ?_
      refine XN ?_
      refine thenJ_normal ?_
      refine H_cond rfl (fun hd => ?_) (fun hd => ?_)
      · refine H_seq ?_
        refine R0 ?_
        refine xV (e_as (v := .int _ _) (q0 rfl)) rfl rfl ?_
        refine XN ?_
        refine thenJ_normal ?_
        refine H_ret ?_
        refine thenJ_ret ?_
        exact ret1 (v := .int _ _) rfl rfl rfl fun w' hw => ⟨ret_int (pErr_days _ _ (by omega) hall (by simpa using hd)).symm, hw.1⟩
      · refine H_skip ?_
        refine thenJ_normal ?_
        refine H_seq ?_
        refine R0 ?_
        refine xV (e_as (v := .int _ _) (q0 rfl)) rfl rfl ?_
        refine XN ?_
        refine thenJ_normal ?_
        refine H_ret ?_
        exact ret1 (v := .int _ _) rfl rfl rfl fun w' hw => ⟨ret_int (pErr_ok _ _ (by omega) hall (by simp at hd; omega)).symm, hw.1⟩


theorem before_w (a b : V) (w : World) : Calls Tryz.prog 269 #[.agg a.cells.toArray, .agg b.cells.toArray] w fun e w' => e = .returned (.bool (before a b)) ∧ Bel w w' := by
  refine H_enter Tryz.func269 rfl Tryz.ntmps269 rfl ?_
  refine H_seq ?_
  refine R0 ?_
  refine X_box (v := .agg _) rfl rfl fun b2 => ?_
  refine X_box (v := .agg _) rfl rfl fun b3 => ?_
  refine xV (e_as (v := .bool _) (q0 rfl)) rfl rfl ?_
  refine XN ?_
  refine thenJ_normal ?_
  refine H_seq ?_
  refine R0 ?_
  refine xV (e_fld Tryz.underlying26 rfl Tryz.sizeOf3 rfl (q0 rfl)) rfl rfl ?_
  refine xV (eL Tryz.isAgg3 (q0 rfl)) rfl rfl ?_
  refine xV (e_fld Tryz.underlying26 rfl Tryz.sizeOf3 rfl (q0 rfl)) rfl rfl ?_
  refine xV (eL Tryz.isAgg3 (q0 rfl)) rfl rfl ?_
  refine xV (e_lt (q0 rfl) (q0 rfl)) rfl rfl ?_
  refine xV (e_mv (v := .bool _) (q0 rfl)) rfl rfl ?_
  refine xVF (e_fld Tryz.underlying26 rfl Tryz.sizeOf3 rfl (q0 rfl)) rfl rfl rfl rfl ?_
  refine xVF (eL Tryz.isAgg3 (q1 rfl)) rfl rfl rfl rfl ?_
  refine xVF (e_fld Tryz.underlying26 rfl Tryz.sizeOf3 rfl (q0 rfl)) rfl rfl rfl rfl ?_
  refine xVF (eL Tryz.isAgg3 (q1 rfl)) rfl rfl rfl rfl ?_
  refine xVF (e_eq (q1 rfl) (q1 rfl)) rfl rfl rfl rfl ?_
  refine xVF (e_mv (v := .bool _) (q1 rfl)) rfl rfl rfl rfl ?_
  refine xVT2 (e_fld Tryz.underlying26 rfl Tryz.sizeOf3 rfl (q0 rfl)) rfl rfl rfl rfl ?_
  refine xVT2 (eL Tryz.isAgg3 (q1 rfl)) rfl rfl rfl rfl ?_
  refine xVT2 (e_fld Tryz.underlying26 rfl Tryz.sizeOf3 rfl (q0 rfl)) rfl rfl rfl rfl ?_
  refine xVT2 (eL Tryz.isAgg3 (q1 rfl)) rfl rfl rfl rfl ?_
  refine xVT2 (e_lt (q1 rfl) (q1 rfl)) rfl rfl rfl rfl ?_
  refine xVF (e_and (q1 rfl) rfl (fun h => by first | rfl | (rw [h]; rfl))) rfl rfl rfl rfl ?_
  refine xV (e_or (q0 rfl) rfl (fun h => by first | rfl | (rw [h]; rfl))) rfl rfl ?_
  refine xV (e_as (v := .bool _) (q0 rfl)) rfl rfl ?_
  refine XN ?_
  refine thenJ_normal ?_
  refine H_ret ?_
  exact ret1 (v := .bool _) rfl rfl rfl fun w' hw => ⟨rfl, hw.1⟩

theorem vOne_range {seen : List V} {v : V} (h : v.ride < 1 ∨ 1000000 < v.ride ∨ v.rider < 0 ∨ 128 ≤ v.rider ∨ v.moment < 0 ∨ 4294943999 < v.moment) : vOne seen v = 1 := by
  unfold vOne vBad; rw [if_pos h]; rfl
theorem vBad_zero {v : V} (h1 : ¬ (v.ride < 1 ∨ 1000000 < v.ride ∨ v.rider < 0 ∨ 128 ≤ v.rider ∨ v.moment < 0 ∨ 4294943999 < v.moment)) (h2 : ¬ (v.kind < 1 ∨ 3 < v.kind)) : vBad v = 0 := by
  unfold vBad; rw [if_neg h1, if_neg h2]
theorem vOne_kind {seen : List V} {v : V} (h1 : ¬ (v.ride < 1 ∨ 1000000 < v.ride ∨ v.rider < 0 ∨ 128 ≤ v.rider ∨ v.moment < 0 ∨ 4294943999 < v.moment)) (h2 : v.kind < 1 ∨ 3 < v.kind) : vOne seen v = 14 := by
  have h : vBad v = 14 := by unfold vBad; rw [if_neg h1, if_pos h2]
  unfold vOne; rw [h]; rfl
theorem vOne_twice {seen : List V} {v : V} (h1 : ¬ (v.ride < 1 ∨ 1000000 < v.ride ∨ v.rider < 0 ∨ 128 ≤ v.rider ∨ v.moment < 0 ∨ 4294943999 < v.moment)) (h2 : ¬ (v.kind < 1 ∨ 3 < v.kind)) (h3 : hasRide seen v.ride = true) : vOne seen v = 6 := by
  unfold vOne; rw [vBad_zero h1 h2, h3]; rfl
theorem vOne_ok {seen : List V} {v : V} (h1 : ¬ (v.ride < 1 ∨ 1000000 < v.ride ∨ v.rider < 0 ∨ 128 ≤ v.rider ∨ v.moment < 0 ∨ 4294943999 < v.moment)) (h2 : ¬ (v.kind < 1 ∨ 3 < v.kind)) (h3 : hasRide seen v.ride = false) : vOne seen v = 0 := by
  unfold vOne; rw [vBad_zero h1 h2, h3]; rfl
theorem verr_full {vs : List V} (h : 256 < vs.length) : vErr vs = 8 := by unfold vErr; rw [if_pos h]
theorem verr_at {vs : List V} {k : Nat} {v : V} {c : Int} (hl : vs.length ≤ 256) (hp : vErrL [] vs = vErrL (vs.take k) (vs.drop k)) (hv : vs[k]? = some v) (h : vOne (vs.take k) v = c) (hc : c ≠ 0) : vErr vs = c := by
  unfold vErr; rw [if_neg (by omega), hp, vErrL_split _ _ _ _ hv, h, if_pos hc]
theorem verr_next {vs : List V} {k : Nat} {v : V} (hp : vErrL [] vs = vErrL (vs.take k) (vs.drop k)) (hv : vs[k]? = some v) (h : vOne (vs.take k) v = 0) : vErrL [] vs = vErrL (vs.take (k + 1)) (vs.drop (k + 1)) := by
  rw [hp, vErrL_split _ _ _ _ hv, h, if_neg (by simp), take_snoc _ _ _ hv]
theorem verr_end {vs : List V} {k : Nat} (hl : vs.length ≤ 256) (hp : vErrL [] vs = vErrL (vs.take k) (vs.drop k)) (hk : vs.length ≤ k) : vErr vs = 0 := by
  unfold vErr; rw [if_neg (by omega), hp, List.drop_eq_nil_of_le hk]; rfl

def keysOf (l : List V) : List (Int × Value) := l.map fun v => (v.ride, .bool true)
theorem look_keys (l : List V) (r : Int) : (mlook (keysOf l) r).getD (.bool false) = .bool (hasRide l r) := by
  induction l with
  | nil => rfl
  | cons v l ih =>
    by_cases h : v.ride = r
    · simp [mlook, keysOf, hasRide, h]
    · have hb : (v.ride == r) = false := beq_eq_false_iff_ne.2 h
      simp only [mlook, keysOf, hasRide, List.map_cons, List.find?_cons, List.any_cons, hb, Bool.false_or] at ih ⊢
      exact ih
theorem mput_keys (l : List V) (v : V) (h : hasRide l v.ride = false) : mput (keysOf l) v.ride (.bool true) = keysOf (l ++ [v]) := by
  induction l with
  | nil => rfl
  | cons x l ih =>
    simp only [hasRide, List.any_cons, Bool.or_eq_false_iff] at h
    simp only [keysOf, List.map_cons, List.cons_append, mput, h.1, Bool.false_eq_true, if_false]
    rw [← keysOf, ih h.2]; rfl
theorem hasRide_snoc {l : List V} {r : Int} {j : Nat} {x : V} (h : hasRide (l.take j) r = false) (hx : l[j]? = some x) (hne : ¬ x.ride = r) : hasRide (l.take (j + 1)) r = false := by
  rw [take_snoc _ _ _ hx]; unfold hasRide at h ⊢; rw [List.any_append, h]; simp [hne]
theorem hasRide_at {l : List V} {r : Int} {j k : Nat} {x : V} (hj : j < k) (hx : l[j]? = some x) (he : x.ride = r) : hasRide (l.take k) r = true := by
  unfold hasRide
  exact List.any_eq_true.2 ⟨x, List.mem_of_getElem? (i := j) (by rw [List.getElem?_take_of_lt hj, hx]), by simp [he]⟩

theorem verd_w (A : Option Addr) (n c : Nat) (vs : List V) (w : World) (hx : VsAt w A n vs) :
    Calls Tryz.prog 144 #[.slice A n c] w fun e w' => e = .returned (.int .i64 (vErr vs)) ∧ Bel w w' := by
  have hn := hx.2.1
  have hl := hx.1
  refine H_enter Tryz.func144 rfl Tryz.ntmps144 rfl ?_
  refine H_seq ?_
  refine R0 ?_
  refine xV (e_as (v := .int _ _) (q0 rfl)) rfl rfl ?_
  refine XN ?_
  refine thenJ_normal ?_
  refine H_seq ?_
  refine H_seq ?_
  refine R0 ?_
  refine xV (e_mv (v := .slice _ _ _) (q0 rfl)) rfl rfl ?_
  refine xV (e_len Tryz.underlying105 (q0 rfl)) rfl rfl ?_
  refine xV (e_gt (q0 rfl) (q0 rfl)) rfl rfl ?_
  refine XN ?_
  refine thenJ_normal ?_
  refine H_cond rfl (fun hb => ?_) (fun hb => ?_)
  · refine H_seq ?_
    refine R0 ?_
    refine xV (e_as (v := .int _ _) (q0 rfl)) rfl rfl ?_
    refine XN ?_
    refine thenJ_normal ?_
    refine H_ret ?_
    refine thenJ_ret ?_
    exact ret1 (v := .int _ _) rfl rfl rfl fun w' hw => ⟨ret_int (verr_full (by simp at hb; omega)).symm, hw.1⟩
  · simp at hb
    refine H_skip ?_
    refine thenJ_normal ?_
    refine H_seq ?_
    refine R0 ?_
    refine X_makeMap rfl fun bm => ?_
    refine xV (e_as (v := .map _) (q0 rfl)) rfl rfl ?_
    refine XN ?_
    refine thenJ_normal ?_
    refine H_seq ?_
    refine H_seq ?_
    refine R0 ?_
    refine xV (e_mv (v := .slice _ _ _) (q0 rfl)) rfl rfl ?_
    refine xV (e_len Tryz.underlying105 (q0 rfl)) rfl rfl ?_
    refine xV (e_mv (v := .int _ _) (q0 rfl)) rfl rfl ?_
    refine XN ?_
    refine thenJ_normal ?_
    refine H_block ?_
    refine H_loop [2, 5, 12, 13, 14, 15, 16, 17, 18, 19, 20, 21, 22, 23, 24, 25, 26, 27, 28, 29, 30, 31, 32, 33, 34, 35, 36, 37, 38, 39, 40, 41, 42, 43, 44, 45, 46, 47, 48, 49, 50, 51, 52, 53, 54, 55, 56, 57, 58, 59, 60, 61, 62] (fun k : Nat => [(12, .int .i64 k)]) (fun k => [imap bm (keysOf (vs.take k))]) (fun k => k ≤ n ∧ vErrL [] vs = vErrL (vs.take k) (vs.drop k)) (fun k => n - k) 0 ⟨rfl, trivial⟩ (fun _ h => h) rfl ⟨Nat.zero_le _, rfl⟩ ?_
    rintro k g ⟨hk, hp⟩
    refine H_seq ?_
    refine R0 ?_
    refine xV (e_lt (q0 rfl) (q0 rfl)) rfl rfl ?_
    refine XN ?_
    refine thenJ_normal ?_
    refine H_seq ?_
    refine H_cond rfl (fun hlt => ?_) (fun hlt => ?_)
    · simp at hlt
      obtain ⟨b, off, v, rfl, hbl, hv, hr⟩ := hx.at_ hlt
      refine H_skip ?_
      refine thenJ_normal ?_
      refine H_seq ?_
      refine H_block ?_
      refine H_seq ?_
      refine R0 ?_
      refine xV (e_idx _ Tryz.underlying105 Tryz.sizeOf26 (q0 rfl) (q0 rfl) (fun _ => ⟨rfl, by omega⟩)) rfl rfl ?_
      refine xV (eS Tryz.isAgg26 Tryz.sizeOf26 (q0 rfl)) rfl rfl ?_
      refine X_alloc Tryz.zeroValue26 rfl fun b5 => ?_
      refine X_st (v := .agg _) rfl rfl Tryz.sizeOf26 ?_
      refine XN ?_
      refine thenJ_normal ?_
      refine H_seq ?_
      refine H_block ?_
      refine H_seq ?_
      refine R0 ?_
      refine xV (e_fld Tryz.underlying26 rfl Tryz.sizeOf3 rfl (q0 rfl)) rfl rfl ?_
      refine xV (eL Tryz.isAgg3 (q0 rfl)) rfl rfl ?_
      refine xV (e_lt (q0 rfl) (q0 rfl)) rfl rfl ?_
      refine xV (e_mv (v := .bool _) (q0 rfl)) rfl rfl ?_
      refine xVF (e_fld Tryz.underlying26 rfl Tryz.sizeOf3 rfl (q0 rfl)) rfl rfl rfl rfl ?_
      refine xVF (eL Tryz.isAgg3 (q1 rfl)) rfl rfl rfl rfl ?_
      refine xVF (e_gt (q1 rfl) (q0 rfl)) rfl rfl rfl rfl ?_
      refine xV (e_or (q0 rfl) rfl (fun h => by first | rfl | (rw [h]; rfl))) rfl rfl ?_
      refine xV (e_mv (v := .bool _) (q0 rfl)) rfl rfl ?_
      refine xVF (e_fld Tryz.underlying26 rfl Tryz.sizeOf3 rfl (q0 rfl)) rfl rfl rfl rfl ?_
      refine xVF (eL Tryz.isAgg3 (q1 rfl)) rfl rfl rfl rfl ?_
      refine xVF (e_lt (q1 rfl) (q0 rfl)) rfl rfl rfl rfl ?_
      refine xV (e_or (q0 rfl) rfl (fun h => by first | rfl | (rw [h]; rfl))) rfl rfl ?_
      refine xV (e_mv (v := .bool _) (q0 rfl)) rfl rfl ?_
      refine xVF (e_fld Tryz.underlying26 rfl Tryz.sizeOf3 rfl (q0 rfl)) rfl rfl rfl rfl ?_
      refine xVF (eL Tryz.isAgg3 (q1 rfl)) rfl rfl rfl rfl ?_
      refine xVF (e_ge (q1 rfl) (q0 rfl)) rfl rfl rfl rfl ?_
      refine xV (e_or (q0 rfl) rfl (fun h => by first | rfl | (rw [h]; rfl))) rfl rfl ?_
      refine xV (e_mv (v := .bool _) (q0 rfl)) rfl rfl ?_
      refine xVF (e_fld Tryz.underlying26 rfl Tryz.sizeOf3 rfl (q0 rfl)) rfl rfl rfl rfl ?_
      refine xVF (eL Tryz.isAgg3 (q1 rfl)) rfl rfl rfl rfl ?_
      refine xVF (e_lt (q1 rfl) (q0 rfl)) rfl rfl rfl rfl ?_
      refine xV (e_or (q0 rfl) rfl (fun h => by first | rfl | (rw [h]; rfl))) rfl rfl ?_
      refine xV (e_mv (v := .bool _) (q0 rfl)) rfl rfl ?_
      refine xVF (e_fld Tryz.underlying26 rfl Tryz.sizeOf3 rfl (q0 rfl)) rfl rfl rfl rfl ?_
      refine xVF (eL Tryz.isAgg3 (q1 rfl)) rfl rfl rfl rfl ?_
      refine xVF (e_gt (q1 rfl) (q0 rfl)) rfl rfl rfl rfl ?_
      refine xV (e_or (q0 rfl) rfl (fun h => by first | rfl | (rw [h]; rfl))) rfl rfl ?_
      refine xV (e_as (v := .bool _) (q0 rfl)) rfl rfl ?_
      refine XN ?_
      refine thenJ_normal ?_
      refine H_cond rfl (fun h1 => ?_) (fun h1 => ?_)
      · refine H_seq ?_
        refine R0 ?_
        refine xV (e_as (v := .int _ _) (q0 rfl)) rfl rfl ?_
        refine XN ?_
        refine thenJ_normal ?_
        refine H_ret ?_
        refine blockJ_ret ?_
        refine thenJ_ret ?_
        refine blockJ_ret ?_
        refine thenJ_ret ?_
        refine loopJ_ret ?_
        refine blockJ_ret ?_
        refine thenJ_ret ?_
        exact ret1 (v := .int _ _) rfl rfl rfl fun w' hw => ⟨ret_int (verr_at (by omega) hp hv (vOne_range (by simp at h1; omega)) (by decide)).symm, hw.1⟩
      · have h1' : ¬ (v.ride < 1 ∨ 1000000 < v.ride ∨ v.rider < 0 ∨ 128 ≤ v.rider ∨ v.moment < 0 ∨ 4294943999 < v.moment) := by simp at h1; omega
        refine H_seq ?_
        refine R0 ?_
        refine xV (e_fld Tryz.underlying26 rfl Tryz.sizeOf3 rfl (q0 rfl)) rfl rfl ?_
        refine xV (eL Tryz.isAgg3 (q0 rfl)) rfl rfl ?_
        refine xV (e_lt (q0 rfl) (q0 rfl)) rfl rfl ?_
        refine xV (e_mv (v := .bool _) (q0 rfl)) rfl rfl ?_
        refine xVF (e_fld Tryz.underlying26 rfl Tryz.sizeOf3 rfl (q0 rfl)) rfl rfl rfl rfl ?_
        refine xVF (eL Tryz.isAgg3 (q1 rfl)) rfl rfl rfl rfl ?_
        refine xVF (e_gt (q1 rfl) (q0 rfl)) rfl rfl rfl rfl ?_
        refine xV (e_or (q0 rfl) rfl (fun h => by first | rfl | (rw [h]; rfl))) rfl rfl ?_
        refine xV (e_as (v := .bool _) (q0 rfl)) rfl rfl ?_
        refine XN ?_
        refine thenJ_normal ?_
        refine H_cond rfl (fun h2 => ?_) (fun h2 => ?_)
        · refine H_seq ?_
          refine R0 ?_
          refine xV (e_as (v := .int _ _) (q0 rfl)) rfl rfl ?_
          refine XN ?_
          refine thenJ_normal ?_
          refine H_ret ?_
          refine blockJ_ret ?_
          refine thenJ_ret ?_
          refine blockJ_ret ?_
          refine thenJ_ret ?_
          refine loopJ_ret ?_
          refine blockJ_ret ?_
          refine thenJ_ret ?_
          exact ret1 (v := .int _ _) rfl rfl rfl fun w' hw => ⟨ret_int (verr_at (by omega) hp hv (vOne_kind h1' (by simp at h2; omega)) (by decide)).symm, hw.1⟩
        · have h2' : ¬ (v.kind < 1 ∨ 3 < v.kind) := by simp at h2; omega
          refine H_seq ?_
          refine R0 ?_
          refine xV (e_mv (v := .map _) (q0 rfl)) rfl rfl ?_
          refine xV (e_fld Tryz.underlying26 rfl Tryz.sizeOf3 rfl (q0 rfl)) rfl rfl ?_
          refine xV (eL Tryz.isAgg3 (q0 rfl)) rfl rfl ?_
          refine xV (e_look 1 Tryz.underlying233 Tryz.underlying3 Tryz.zeroValue4 (q0 rfl) (q0 rfl) rfl (fun _ => look_keys _ _)) rfl rfl ?_
          refine xV (e_as (v := .bool _) (q0 rfl)) rfl rfl ?_
          refine XN ?_
          refine thenJ_normal ?_
          refine H_cond rfl (fun h3 => ?_) (fun h3 => ?_)
          · refine H_seq ?_
            refine R0 ?_
            refine xV (e_as (v := .int _ _) (q0 rfl)) rfl rfl ?_
            refine XN ?_
            refine thenJ_normal ?_
            refine H_ret ?_
            refine blockJ_ret ?_
            refine thenJ_ret ?_
            refine blockJ_ret ?_
            refine thenJ_ret ?_
            refine loopJ_ret ?_
            refine blockJ_ret ?_
            refine thenJ_ret ?_
            exact ret1 (v := .int _ _) rfl rfl rfl fun w' hw => ⟨ret_int (verr_at (by omega) hp hv (vOne_twice h1' h2' h3) (by decide)).symm, hw.1⟩
          · refine H_skip ?_
            refine blockJ_normal ?_
            refine thenJ_normal ?_
            refine R0 ?_
            refine xV (e_mv (v := .map _) (q0 rfl)) rfl rfl ?_
            refine xV (e_fld Tryz.underlying26 rfl Tryz.sizeOf3 rfl (q0 rfl)) rfl rfl ?_
            refine xV (eL Tryz.isAgg3 (q0 rfl)) rfl rfl ?_
            refine X_mapset 1 Tryz.underlying233 Tryz.underlying3 rfl rfl rfl rfl ?_
            refine XN ?_
            refine blockJ_normal ?_
            refine thenJ_normal ?_
            refine R0 ?_
            refine xV (e_add (q0 rfl) (q0 rfl) (fun _ => ⟨rfl, by omega, by omega⟩)) rfl rfl ?_
            refine xV (e_mv (v := .int _ _) (q0 rfl)) rfl rfl ?_
            refine XN ?_
            refine loopJ_normal (k + 1) (by repeat (first | exact agree_self | exact agree_over | refine agree_upd rfl ?_ | refine agree_updL rfl ?_ | refine agree_over2 rfl ?_)) ⟨rfl, trivial⟩ (fun w hw => ?_) rfl ⟨by omega, verr_next hp hv (vOne_ok h1' h2' h3)⟩ (by show n - (k + 1) < n - k; omega)
            have := hw.tail
            rw [take_snoc _ _ _ hv, ← mput_keys _ _ h3]
            exact this
    · simp at hlt
      refine H_exit ?_
      refine thenJ_exit ?_
      refine loopJ_exit ?_
      refine blockJ_hit ?_
      refine thenJ_normal ?_
      refine H_seq ?_
      refine R0 ?_
      refine xV (e_as (v := .int _ _) (q0 rfl)) rfl rfl ?_
      refine XN ?_
      refine thenJ_normal ?_
      refine H_ret ?_
      exact ret1 (v := .int _ _) rfl rfl rfl fun w' hw => ⟨ret_int (verr_end (by omega) hp (by omega)).symm, hw.1⟩

end Go.Proofs.Pen

/-
  The walks: the violations of a rider, and the number of a verdict among them.
-/
namespace Go.Proofs.Pen
open Go Go.RowKit Go.Proofs.E

theorem viol_make (A : Option Addr) (n c : Nat) (rider : Int) (w : World) :
    Calls Tryz.prog 268 #[.slice A n c, .int .i64 rider] w fun e w' => ∃ x : Nat × Nat, e = .returned (.func (.func 305) #[] #[.pointer (some ⟨x.1, 0, none⟩), .pointer (some ⟨x.2, 0, none⟩)]) ∧
      Mem w [box x.2 3 [.int .i64 rider], box x.1 105 [.slice A n c]] w' := by
  refine H_enter Tryz.func268 rfl Tryz.ntmps268 rfl ?_
  refine H_seq ?_
  refine R0 ?_
  refine X_box (v := .slice _ _ _) rfl rfl fun b2 => ?_
  refine X_box (v := .int _ _) rfl rfl fun b3 => ?_
  refine xV (e_as (q0 rfl)) rfl rfl ?_
  refine XN ?_
  refine thenJ_normal ?_
  refine H_seq ?_
  refine R0 ?_
  refine xV e_fn rfl rfl ?_
  refine xV (e_as (q0 rfl)) rfl rfl ?_
  refine XN ?_
  refine thenJ_normal ?_
  refine H_ret ?_
  exact ret1 rfl rfl rfl fun w' hw => ⟨(b2, b3), rfl, hw⟩

/-- what the iterator reads -/
def Reads (bl br : Nat) (A : Option Addr) (n c : Nat) (rider : Int) (vs : List V) (W : World) : Prop :=
  W.cell? ⟨bl, 0, none⟩ = some (.slice A n c) ∧ W.cell? ⟨br, 0, none⟩ = some (.int .i64 rider) ∧ bl < W.heap.size ∧ br < W.heap.size ∧ VsAt W A n vs
theorem Reads.below {bl br : Nat} {A : Option Addr} {n c : Nat} {rider : Int} {vs : List V} {W W' : World} (h : Reads bl br A n c rider vs W) (hb : Bel W W') : Reads bl br A n c rider vs W' :=
  ⟨(hb.cell (p := ⟨bl, 0, none⟩) h.2.2.1).trans h.1, (hb.cell (p := ⟨br, 0, none⟩) h.2.2.2.1).trans h.2.1, Nat.lt_of_lt_of_le h.2.2.1 hb.size, Nat.lt_of_lt_of_le h.2.2.2.1 hb.size, h.2.2.2.2.below hb⟩

theorem viol_snoc {rider : Int} {l : List V} {k : Nat} {v : V} (hv : l[k]? = some v) (h : (decide (v.rider = rider) && decide (v.kind = 2)) = true) : viol rider (l.take (k + 1)) = viol rider (l.take k) ++ [v] := by
  rw [take_snoc _ _ _ hv]; simp only [viol, List.filter_append]
  simp at h; simp [h]
theorem viol_skip {rider : Int} {l : List V} {k : Nat} {v : V} (hv : l[k]? = some v) (h : (decide (v.rider = rider) && decide (v.kind = 2)) = false) : viol rider (l.take (k + 1)) = viol rider (l.take k) := by
  rw [take_snoc _ _ _ hv]; simp only [viol, List.filter_append]
  simp at h; simp; exact h
theorem viol_pre {rider : Int} {l : List V} {k : Nat} : viol rider (l.take k) <+: viol rider l := by
  unfold viol; exact (List.take_prefix k l).filter _

theorem viol_iter (bl br : Nat) (A : Option Addr) (n c : Nat) (rider : Int) (vs : List V) :
    IterOK Tryz.prog 305 #[.pointer (some ⟨bl, 0, none⟩), .pointer (some ⟨br, 0, none⟩)] (fun v : V => #[.agg v.cells.toArray]) (viol rider vs) (Reads bl br A n c rider vs) := by
  intro l J Jx W hR hJ sJ sJx hY
  refine H_enter Tryz.func305 rfl Tryz.ntmps305 rfl ?_
  obtain ⟨hcl, hcr, hbl, hbr, hv⟩ := id hR
  have hn := hv.2.1
  have hl := hv.1
  refine H_seq ?_
  refine R0 ?_
  refine xV (eL Tryz.isAgg105 (q0 rfl)) rfl rfl ?_
  refine xV (e_len Tryz.underlying105 (q0 rfl)) rfl rfl ?_
  refine xV (e_mv (v := .int _ _) (q0 rfl)) rfl rfl ?_
  refine XN ?_
  refine thenJ_normal ?_
  refine H_block ?_
  clear hcl hcr hbl hbr hv
  refine H_loopW [5, 8, 9, 10, 11, 12, 13, 14, 15, 16, 17, 18, 19, 20, 21, 22, 23, 24, 25, 26, 27] (fun s : World × Nat => [(8, .int .i64 s.2)]) (fun s => s.1) (fun _ => []) (fun s => s.2 ≤ n ∧ Reads bl br A n c rider vs s.1 ∧ J (viol rider (vs.take s.2)) s.1) (fun s => n - s.2) (W, 0) ⟨rfl, trivial⟩ (fun _ h => h) rfl ⟨Nat.zero_le _, hR, hJ⟩ ?_
  rintro ⟨W1, k⟩ g ⟨hk, hR1, hJ1⟩
  dsimp only at hk hR1 hJ1 ⊢
  refine H_seq ?_
  refine R0 ?_
  refine xV (e_lt (q0 rfl) (q0 rfl)) rfl rfl ?_
  refine XN ?_
  refine thenJ_normal ?_
  refine H_seq ?_
  refine H_cond rfl (fun hlt => ?_) (fun hlt => ?_)
  · simp at hlt
    obtain ⟨hcl, hcr, hbl, hbr, hv⟩ := id hR1
    obtain ⟨b, off, v, rfl, hvb, hvk, hrow⟩ := hv.at_ hlt
    refine H_skip ?_
    refine thenJ_normal ?_
    refine H_seq ?_
    refine H_block ?_
    refine H_seq ?_
    refine R0 ?_
    refine xV (e_idx _ Tryz.underlying105 Tryz.sizeOf26 (q0 rfl) (q0 rfl) (fun _ => ⟨rfl, by omega⟩)) rfl rfl ?_
    refine xV (eS Tryz.isAgg26 Tryz.sizeOf26 (q0 rfl)) rfl rfl ?_
    refine X_alloc Tryz.zeroValue26 rfl fun b5 => ?_
    refine X_st (v := .agg _) rfl rfl Tryz.sizeOf26 ?_
    refine XN ?_
    refine thenJ_normal ?_
    refine H_seq ?_
    refine R0 ?_
    refine xV (e_fld Tryz.underlying26 rfl Tryz.sizeOf3 rfl (q0 rfl)) rfl rfl ?_
    refine xV (eL Tryz.isAgg3 (q0 rfl)) rfl rfl ?_
    refine xV (eL Tryz.isAgg3 (q0 rfl)) rfl rfl ?_
    refine xV (e_eq (q0 rfl) (q0 rfl)) rfl rfl ?_
    refine xV (e_mv (v := .bool _) (q0 rfl)) rfl rfl ?_
    refine xVT (e_fld Tryz.underlying26 rfl Tryz.sizeOf3 rfl (q0 rfl)) rfl rfl rfl rfl ?_
    refine xVT (eL Tryz.isAgg3 (q1 rfl)) rfl rfl rfl rfl ?_
    refine xVT (e_eq (q1 rfl) (q0 rfl)) rfl rfl rfl rfl ?_
    refine xV (e_and (q0 rfl) rfl (fun h => by first | rfl | (rw [h]; rfl))) rfl rfl ?_
    refine xV (e_mv (v := .bool _) (q0 rfl)) rfl rfl ?_
    refine xVT (e_mv (q0 rfl)) rfl rfl rfl rfl ?_
    refine xVT (eS Tryz.isAgg26 Tryz.sizeOf26 (q0 rfl)) rfl rfl rfl rfl ?_
    refine X_yield (A := fun W' => J (viol rider (vs.take (k + 1))) W' ∧ Reads bl br (some ⟨b, off, none⟩) n c rider vs W') (B := Jx) (Gd_true rfl rfl) (q1 rfl) (ha1 (q1 rfl)) rfl rfl (fun h w hw => ?_) (fun h => ?_) (fun h W2 hW2 => ?_) (fun h W2 hW2 => ?_)
    · have := hY (viol rider (vs.take k)) v w (by rw [← viol_snoc hvk h]; exact viol_pre) (hR1.below hw.1) (sJ _ _ _ hJ1 hw.1)
      rw [viol_snoc hvk h]
      exact this
    · refine xVT (e_not (q1 rfl)) rfl rfl rfl rfl ?_
      refine xV (e_and (q0 rfl) rfl (fun h => by first | rfl | (rw [h]; rfl))) rfl rfl ?_
      refine XN ?_
      refine thenJ_normal ?_
      refine H_cond rfl (fun hc => ?_) (fun hc => ?_)
      · rw [h] at hc; simp at hc
      · refine H_skip ?_
        refine blockJ_normal ?_
        refine thenJ_normal ?_
        refine R0 ?_
        refine xV (e_add (q0 rfl) (q0 rfl) (fun _ => ⟨rfl, by omega, by omega⟩)) rfl rfl ?_
        refine xV (e_mv (v := .int _ _) (q0 rfl)) rfl rfl ?_
        refine XN ?_
        exact loopJ_normal (W1, k + 1) (by repeat (first | exact agree_self | exact agree_over | refine agree_upd rfl ?_ | refine agree_updL rfl ?_ | refine agree_over2 rfl ?_)) ⟨rfl, trivial⟩ (fun _ h => h.tail) rfl ⟨by dsimp only; omega, hR1, by rw [viol_skip hvk h]; exact hJ1⟩ (by show n - (k + 1) < n - k; omega)
    · refine xVT (e_not (q1 rfl)) rfl rfl rfl rfl ?_
      refine xV (e_and (q0 rfl) rfl (fun h => by first | rfl | (rw [h]; rfl))) rfl rfl ?_
      refine XN ?_
      refine thenJ_normal ?_
      refine H_cond rfl (fun hc => ?_) (fun hc => ?_)
      · simp at hc
      · refine H_skip ?_
        refine blockJ_normal ?_
        refine thenJ_normal ?_
        refine R0 ?_
        refine xV (e_add (q0 rfl) (q0 rfl) (fun _ => ⟨rfl, by omega, by omega⟩)) rfl rfl ?_
        refine xV (e_mv (v := .int _ _) (q0 rfl)) rfl rfl ?_
        refine XN ?_
        exact loopJ_normal (W2, k + 1) (by repeat (first | exact agree_self | exact agree_over | refine agree_upd rfl ?_ | refine agree_updL rfl ?_ | refine agree_over2 rfl ?_)) ⟨rfl, trivial⟩ (fun _ h => h) rfl ⟨by dsimp only; omega, hW2.2, hW2.1⟩ (by show n - (k + 1) < n - k; omega)
    · refine xVT (e_not (q1 rfl)) rfl rfl rfl rfl ?_
      refine xV (e_and (q0 rfl) rfl (fun h => by first | rfl | (rw [h]; rfl))) rfl rfl ?_
      refine XN ?_
      refine thenJ_normal ?_
      refine H_cond rfl (fun hc => ?_) (fun hc => ?_)
      · refine H_ret ?_
        refine blockJ_ret ?_
        refine thenJ_ret ?_
        refine loopJ_ret ?_
        refine blockJ_ret ?_
        exact ret0 rfl rfl fun w' hw => ⟨rfl, .inr (sJx _ _ hW2 hw.1)⟩
      · rw [h] at hc; simp at hc
  · simp at hlt
    refine H_exit ?_
    refine thenJ_exit ?_
    refine loopJ_exit ?_
    refine blockJ_hit ?_
    refine end0 rfl rfl fun w' hw => ⟨rfl, .inl (sJ _ _ _ ?_ hw.1)⟩
    rw [List.take_of_length_le (by omega)] at hJ1
    exact hJ1

end Go.Proofs.Pen

/-
  The walks: the number of a verdict, its penalty, a rider's total.
-/
namespace Go.Proofs.Pen
open Go Go.RowKit Go.Proofs.E

def late (days : Int) (v x : V) : Bool := before x v && inDays days x v
theorem cnt_eq (days : Int) (l : List V) (v : V) : cnt days l v = ((viol v.rider l).filter (late days v)).length := by
  unfold cnt viol
  rw [List.filter_filter]
  congr 1
  apply List.filter_congr
  intro x _
  simp only [hit, late]
  rw [Bool.and_comm]
def nth (days : Int) (v : V) (pre : List V) : Int := 1 + ((pre.filter (late days v)).length : Int)
theorem nth_yes {days : Int} {v x : V} {pre : List V} (h : late days v x = true) : nth days v (pre ++ [x]) = nth days v pre + 1 := by
  unfold nth; rw [List.filter_append]; simp [h]; omega
theorem nth_no {days : Int} {v x : V} {pre : List V} (h : late days v x = false) : nth days v (pre ++ [x]) = nth days v pre := by
  unfold nth; rw [List.filter_append]; simp [h]
theorem nth_le {days : Int} {v : V} {pre : List V} : 1 ≤ nth days v pre ∧ nth days v pre ≤ 1 + pre.length := by
  unfold nth; have := List.length_filter_le (late days v) pre; omega
theorem num_bad {days : Int} {l : List V} {v : V} (h : v.kind = 2) : num days l v = nth days v (viol v.rider l) := by
  unfold num nth; rw [if_pos h, cnt_eq]
theorem viol_mem {rider : Int} {l : List V} {x : V} (h : x ∈ viol rider l) : x ∈ l := (List.mem_filter.1 h).1
theorem viol_len {rider : Int} {l : List V} : (viol rider l).length ≤ l.length := List.length_filter_le _ _

/-- moments that are in range -/
def Timely (l : List V) : Prop := ∀ x ∈ l, 0 ≤ x.moment ∧ x.moment ≤ 4294943999

theorem number_w (a0 a1 a2 a3 a4 : Value) (fA : Option Addr) (fn fc : Nat) (days : Int) (A : Option Addr) (n c : Nat) (vs : List V) (v : V) (w : World) (hx : VsAt w A n vs) (h256 : vs.length ≤ 256) (ht : Timely vs) (hv : 0 ≤ v.moment ∧ v.moment ≤ 4294943999) (hd : 0 ≤ days ∧ days ≤ 49709) :
    Calls Tryz.prog 204 #[.agg #[a0, a1, a2, a3, a4, .slice fA fn fc, .int .i64 days], .slice A n c, .agg v.cells.toArray] w fun e w' => e = .returned (.int .i64 (num days vs v)) ∧ Bel w w' := by
  have hl := hx.1
  refine H_enter Tryz.func204 rfl Tryz.ntmps204 rfl ?_
  refine H_seq ?_
  refine R0 ?_
  refine X_box (v := .agg _) rfl rfl fun b3 => ?_
  refine X_box (v := .agg _) rfl rfl fun b5 => ?_
  refine xV (e_as (v := .int _ _) (q0 rfl)) rfl rfl ?_
  refine XN ?_
  refine thenJ_normal ?_
  refine H_seq ?_
  refine H_seq ?_
  refine R0 ?_
  refine xV (e_fld Tryz.underlying26 rfl Tryz.sizeOf3 rfl (q0 rfl)) rfl rfl ?_
  refine xV (eL Tryz.isAgg3 (q0 rfl)) rfl rfl ?_
  refine xV (e_ne (q0 rfl) (q0 rfl)) rfl rfl ?_
  refine XN ?_
  refine thenJ_normal ?_
  refine H_cond rfl (fun hk => ?_) (fun hk => ?_)
  · refine H_seq ?_
    refine R0 ?_
    refine xV (e_as (v := .int _ _) (q0 rfl)) rfl rfl ?_
    refine XN ?_
    refine thenJ_normal ?_
    refine H_ret ?_
    refine thenJ_ret ?_
    exact ret1 (v := .int _ _) rfl rfl rfl fun w' hw => ⟨ret_int (by simp at hk; unfold num; rw [if_neg hk]), hw.1⟩
  · have hk2 : v.kind = 2 := by simpa using hk
    refine H_skip ?_
    refine thenJ_normal ?_
    refine H_seq ?_
    refine R0 ?_
    refine X_alloc Tryz.zeroValue3 rfl fun b7 => ?_
    refine X_st (v := .int _ _) rfl rfl Tryz.sizeOf3 ?_
    refine XN ?_
    refine thenJ_normal ?_
    refine H_seq ?_
    refine H_seq ?_
    refine R0 ?_
    refine xV (e_mv (v := .slice _ _ _) (q0 rfl)) rfl rfl ?_
    refine xV (e_fld Tryz.underlying26 rfl Tryz.sizeOf3 rfl (q0 rfl)) rfl rfl ?_
    refine xV (eL Tryz.isAgg3 (q0 rfl)) rfl rfl ?_
    refine xCX (en Tryz.call268 (ha2 (q0 rfl) (q0 rfl))) (fun w _ => viol_make A n c v.rider w) rfl (fun _ => rfl) fun x => ?_
    refine XN ?_
    refine thenJ_normal ?_
    refine H_block ?_
    refine H_range (viol v.rider vs) (Reads x.1 x.2 A n c v.rider vs) (fun pre => [box x.2 3 [.int .i64 v.rider], box x.1 105 [.slice A n c], box b7 3 [.int .i64 (nth days v pre)], box b5 26 v.cells, box b3 48 [a0, a1, a2, a3, a4, .slice fA fn fc, .int .i64 days]]) (fun _ _ => False) rfl rfl Tryz.call305 (viol_iter x.1 x.2 A n c v.rider vs) (fun _ => rfl) rfl (fun _ h => h) (fun _ => rfl) (fun _ _ h => h.elim) (fun pre w hw => ⟨box_cell hw (k := 1) rfl rfl, box_cell hw (k := 0) rfl rfl, (hw.itemLt (k := 1) rfl rfl).2, (hw.itemLt (k := 0) rfl rfl).2, hx.mem hw⟩) ?_ ?_ (fun _ _ _ h => h.elim) rfl
    · rintro l D r pre y hpre -
      have hy : y ∈ viol v.rider vs := hpre.subset (by simp)
      have hym := ht y (viol_mem hy)
      have hnl := nth_le (days := days) (v := v) (pre := pre)
      have hpl : pre.length ≤ 256 := by have h1 := hpre.length_le; have h2 := viol_len (rider := v.rider) (l := vs); simp at h1; omega
      refine R0 ?_
      refine X_alloc Tryz.zeroValue26 rfl fun b8 => ?_
      refine X_st (v := .agg _) rfl rfl Tryz.sizeOf26 ?_
      refine XN ?_
      refine asgJ_normal _ rfl rfl (fun w hw => hw.pick [1, 2, 0, 3, 4, 5, 6, 7] (by decide)) fun r' => ?_
      refine H_block ?_
      refine H_seq ?_
      refine R0 ?_
      refine xV (eS Tryz.isAgg26 Tryz.sizeOf26 (q0 rfl)) rfl rfl ?_
      refine xV (eS Tryz.isAgg26 Tryz.sizeOf26 (q0 rfl)) rfl rfl ?_
      refine xC (en Tryz.call269 (ha2 (q0 rfl) (q0 rfl))) (fun _ w _ => before_w y v w) rfl rfl ?_
      refine xV (e_mv (v := .bool _) (q0 rfl)) rfl rfl ?_
      refine xVT (e_fld Tryz.underlying26 rfl Tryz.sizeOf3 rfl (q0 rfl)) rfl rfl rfl rfl ?_
      refine xVT (eL Tryz.isAgg3 (q1 rfl)) rfl rfl rfl rfl ?_
      refine xVT (e_quo (q1 rfl) (q0 rfl) (fun _ => by omega)) rfl rfl rfl rfl ?_
      refine xVT (e_fld Tryz.underlying26 rfl Tryz.sizeOf3 rfl (q0 rfl)) rfl rfl rfl rfl ?_
      refine xVT (eL Tryz.isAgg3 (q1 rfl)) rfl rfl rfl rfl ?_
      refine xVT (e_quo (q1 rfl) (q0 rfl) (fun _ => by omega)) rfl rfl rfl rfl ?_
      refine xVT (e_fld Tryz.underlying48 rfl Tryz.sizeOf3 rfl (q0 rfl)) rfl rfl rfl rfl ?_
      refine xVT (eL Tryz.isAgg3 (q1 rfl)) rfl rfl rfl rfl ?_
      refine xVT (e_sub (q1 rfl) (q1 rfl) (fun _ => ⟨rfl, by omega, by omega⟩)) rfl rfl rfl rfl ?_
      refine xVT (e_ge (q1 rfl) (q1 rfl)) rfl rfl rfl rfl ?_
      refine xV (e_and (q0 rfl) rfl (fun h => by first | rfl | (rw [h]; rfl))) rfl rfl ?_
      refine XN ?_
      refine thenJ_normal ?_
      refine H_cond rfl (fun hc => ?_) (fun hc => ?_)
      · refine R0 ?_
        refine xV (eL Tryz.isAgg3 (q0 rfl)) rfl rfl ?_
        refine xV (e_add (q0 rfl) (q0 rfl) (fun _ => ⟨rfl, by omega, by omega⟩)) rfl rfl ?_
        refine X_st (v := .int _ _) rfl rfl Tryz.sizeOf3 ?_
        refine XN ?_
        refine blockJ_normal ?_
        exact roundJ_normal fun w hw => by rw [nth_yes hc]; exact hw.pick [0, 1, 3, 4, 5, 6, 7] (by decide)
      · refine H_skip ?_
        refine blockJ_normal ?_
        exact roundJ_normal fun w hw => by rw [nth_no hc]; exact hw.pick [0, 1, 3, 4, 5, 6, 7] (by decide)
    · intro D
      refine blockJ_normal ?_
      refine thenJ_normal ?_
      refine H_seq ?_
      refine R0 ?_
      refine xV (eL Tryz.isAgg3 (q0 rfl)) rfl rfl ?_
      refine xV (e_as (v := .int _ _) (q0 rfl)) rfl rfl ?_
      refine XN ?_
      refine thenJ_normal ?_
      refine H_ret ?_
      exact ret_of_m rfl (res1 (v := .int _ _) rfl rfl) fun w' hw => ⟨ret_int (num_bad hk2).symm, hw.1⟩

theorem num_nonneg {days : Int} {l : List V} {v : V} : 0 ≤ num days l v ∧ num days l v ≤ 1 + l.length := by
  unfold num cnt
  have := List.length_filter_le (hit days v) l
  split <;> omega
theorem fine_zero {fines : List Int} {days : Int} {l : List V} {v : V} (h : (if (fines.length : Int) < num days l v then (fines.length : Int) else num days l v) = 0) : fine fines days l v = 0 := by
  have := num_nonneg (days := days) (l := l) (v := v)
  unfold fine
  rw [if_pos]
  split at h <;> omega
theorem fine_some {fines : List Int} {days : Int} {l : List V} {v : V} {x : Int} (h : ¬ (if (fines.length : Int) < num days l v then (fines.length : Int) else num days l v) = 0)
    (hx : fines[((if (fines.length : Int) < num days l v then (fines.length : Int) else num days l v) - 1).toNat]? = some x) : fine fines days l v = x := by
  have hn := num_nonneg (days := days) (l := l) (v := v)
  unfold fine
  rw [if_neg (by split at h <;> omega), List.getD_eq_getElem?_getD]
  have : min (num days l v).toNat fines.length - 1 = ((if (fines.length : Int) < num days l v then (fines.length : Int) else num days l v) - 1).toNat := by split <;> omega
  rw [this, hx]; rfl

theorem fine_w (a0 a1 a2 a3 a4 : Value) (fA : Option Addr) (fn fc : Nat) (fines : List Int) (days : Int) (A : Option Addr) (n c : Nat) (vs : List V) (v : V) (w : World) (hf : IntsAt w fA fn fines) (hx : VsAt w A n vs) (h256 : vs.length ≤ 256) (ht : Timely vs) (hv : 0 ≤ v.moment ∧ v.moment ≤ 4294943999) (hd : 0 ≤ days ∧ days ≤ 49709) :
    Calls Tryz.prog 205 #[.agg #[a0, a1, a2, a3, a4, .slice fA fn fc, .int .i64 days], .slice A n c, .agg v.cells.toArray] w fun e w' => e = .returned (.int .i64 (fine fines days vs v)) ∧ Bel w w' := by
  have hl := hf.1
  have hn := num_nonneg (days := days) (l := vs) (v := v)
  subst hl
  refine H_enter Tryz.func205 rfl Tryz.ntmps205 rfl ?_
  refine H_seq ?_
  refine R0 ?_
  refine X_box (v := .agg _) rfl rfl fun b3 => ?_
  refine X_box (v := .agg _) rfl rfl fun b5 => ?_
  refine xV (e_as (v := .int _ _) (q0 rfl)) rfl rfl ?_
  refine XN ?_
  refine thenJ_normal ?_
  refine H_seq ?_
  refine R1 rfl (by decide +kernel) ?_
  refine xV (eS Tryz.isAgg48 Tryz.sizeOf48 (q0 rfl)) rfl rfl ?_
  refine xV (e_mv (v := .slice _ _ _) (q0 rfl)) rfl rfl ?_
  refine xV (eS Tryz.isAgg26 Tryz.sizeOf26 (q0 rfl)) rfl rfl ?_
  refine xC (en Tryz.call204 (ha3 (q0 rfl) (q0 rfl) (q0 rfl))) (fun _ w hm => number_w a0 a1 a2 a3 a4 fA fines.length fc days A n c vs v w (hx.mem hm) h256 ht hv hd) rfl rfl ?_
  refine xV (e_fld Tryz.underlying48 rfl Tryz.sizeOf42 rfl (q0 rfl)) rfl rfl ?_
  refine xV (eL Tryz.isAgg42 (q0 rfl)) rfl rfl ?_
  refine xV (e_len Tryz.underlying42 (q0 rfl)) rfl rfl ?_
  refine xV (e_min (q0 rfl) (q0 rfl)) rfl rfl ?_
  refine xV (e_as (v := .int _ _) (q0 rfl)) rfl rfl ?_
  refine XN ?_
  refine thenJ_normal ?_
  refine H_seq ?_
  refine H_seq ?_
  refine R0 ?_
  refine xV (e_mv (v := .int _ _) (q0 rfl)) rfl rfl ?_
  refine xV (e_eq (q0 rfl) (q0 rfl)) rfl rfl ?_
  refine XN ?_
  refine thenJ_normal ?_
  refine H_cond rfl (fun hz => ?_) (fun hz => ?_)
  · refine H_seq ?_
    refine R0 ?_
    refine xV (e_as (v := .int _ _) (q0 rfl)) rfl rfl ?_
    refine XN ?_
    refine thenJ_normal ?_
    refine H_ret ?_
    refine thenJ_ret ?_
    exact ret1 (v := .int _ _) rfl rfl rfl fun w' hw => ⟨ret_int (fine_zero (by simpa using hz)).symm, hw.1⟩
  · have hz' := of_decide_eq_false hz
    obtain ⟨b, off, x, rfl, hbl, hxk, hr⟩ := hf.at_ (i := ((if (fines.length : Int) < num days vs v then (fines.length : Int) else num days vs v) - 1).toNat) (by split at hz' <;> split <;> omega)
    refine H_skip ?_
    refine thenJ_normal ?_
    refine H_seq ?_
    refine R0 ?_
    refine xV (e_fld Tryz.underlying48 rfl Tryz.sizeOf42 rfl (q0 rfl)) rfl rfl ?_
    refine xV (eL Tryz.isAgg42 (q0 rfl)) rfl rfl ?_
    refine xV (e_mv (v := .int _ _) (q0 rfl)) rfl rfl ?_
    refine xV (e_sub (q0 rfl) (q0 rfl) (fun _ => ⟨rfl, by split <;> omega, by split <;> omega⟩)) rfl rfl ?_
    refine xV (e_idx _ Tryz.underlying42 Tryz.sizeOf3 (q0 rfl) (q0 rfl) (fun _ => ⟨(Int.toNat_of_nonneg (by split at hz' <;> split <;> omega)).symm, by split at hz' <;> split <;> omega⟩)) rfl rfl ?_
    refine xV (eL Tryz.isAgg3 (q0 rfl)) rfl rfl ?_
    refine xV (e_as (v := .int _ _) (q0 rfl)) rfl rfl ?_
    refine XN ?_
    refine thenJ_normal ?_
    refine H_ret ?_
    exact ret1 (v := .int _ _) rfl rfl rfl fun w' hw => ⟨ret_int (fine_some hz' hxk).symm, hw.1⟩

theorem check2_w (a0 a1 a2 a3 a4 : Value) (fA : Option Addr) (fn fc : Nat) (fines : List Int) (days : Int) (A : Option Addr) (n c : Nat) (vs : List V) (w : World) (hf : IntsAt w fA fn fines) (hx : VsAt w A n vs) :
    Calls Tryz.prog 203 #[.agg #[a0, a1, a2, a3, a4, .slice fA fn fc, .int .i64 days], .slice A n c] w fun e w' => e = .returned (.int .i64 (cErr fines days vs)) ∧ Bel w w' := by
  refine H_enter Tryz.func203 rfl Tryz.ntmps203 rfl ?_
  refine H_seq ?_
  refine R0 ?_
  refine X_box (v := .agg _) rfl rfl fun b2 => ?_
  refine xV (e_as (v := .int _ _) (q0 rfl)) rfl rfl ?_
  refine XN ?_
  refine thenJ_normal ?_
  refine H_seq ?_
  refine H_seq ?_
  refine R0 ?_
  refine xV (eS Tryz.isAgg48 Tryz.sizeOf48 (q0 rfl)) rfl rfl ?_
  refine xC (en Tryz.call95 (ha1 (q0 rfl))) (fun _ w hm => check_w a0 a1 a2 a3 a4 fA fn fc fines days w (hf.mem hm)) rfl rfl ?_
  refine xV (e_as (v := .int _ _) (q0 rfl)) rfl rfl ?_
  refine XN ?_
  refine thenJ_normal ?_
  refine H_seq ?_
  refine R0 ?_
  refine xV (e_mv (v := .int _ _) (q0 rfl)) rfl rfl ?_
  refine xV (e_ne (q0 rfl) (q0 rfl)) rfl rfl ?_
  refine XN ?_
  refine thenJ_normal ?_
  refine H_cond rfl (fun hz => ?_) (fun hz => ?_)
  · refine H_seq ?_
    refine R0 ?_
    refine xV (e_mv (v := .int _ _) (q0 rfl)) rfl rfl ?_
    refine xV (e_as (v := .int _ _) (q0 rfl)) rfl rfl ?_
    refine XN ?_
    refine thenJ_normal ?_
    refine H_ret ?_
    refine thenJ_ret ?_
    exact ret1 (v := .int _ _) rfl rfl rfl fun w' hw => ⟨ret_int (by simp at hz; unfold cErr; rw [if_pos hz]), hw.1⟩
  · refine H_skip ?_
    refine thenJ_normal ?_
    refine H_seq ?_
    refine R0 ?_
    refine xV (e_mv (v := .slice _ _ _) (q0 rfl)) rfl rfl ?_
    refine xC (en Tryz.call144 (ha1 (q0 rfl))) (fun _ w hm => verd_w A n c vs w (hx.mem hm)) rfl rfl ?_
    refine xV (e_as (v := .int _ _) (q0 rfl)) rfl rfl ?_
    refine XN ?_
    refine thenJ_normal ?_
    refine H_ret ?_
    exact ret1 (v := .int _ _) rfl rfl rfl fun w' hw => ⟨ret_int (by simp at hz; unfold cErr; rw [if_neg (by simpa using hz)]), hw.1⟩

/-! what no error means -/
theorem vErrL_ok {seen l : List V} (h : vErrL seen l = 0) : ∀ x ∈ l, vBad x = 0 := by
  induction l generalizing seen with
  | nil => simp
  | cons v l ih =>
    unfold vErrL at h
    by_cases h1 : vOne seen v ≠ 0
    · rw [if_pos h1] at h; exact absurd h h1
    · rw [if_neg h1] at h
      intro x hx
      rcases List.mem_cons.1 hx with rfl | hx
      · simp only [ne_eq, Decidable.not_not] at h1
        unfold vOne at h1
        split at h1
        · exact h1
        · rename_i hb; simpa using hb
      · exact ih h x hx
theorem vErr_ok {l : List V} (h : vErr l = 0) : l.length ≤ 256 ∧ ∀ x ∈ l, vBad x = 0 := by
  unfold vErr at h
  split at h
  · cases h
  · exact ⟨by omega, vErrL_ok h⟩
theorem vBad_ok {v : V} (h : vBad v = 0) : 1 ≤ v.ride ∧ v.ride ≤ 1000000 ∧ 0 ≤ v.rider ∧ v.rider < 128 ∧ 0 ≤ v.moment ∧ v.moment ≤ 4294943999 ∧ 1 ≤ v.kind ∧ v.kind ≤ 3 := by
  unfold vBad at h
  split at h
  · cases h
  · split at h
    · cases h
    · omega
theorem timely_of {l : List V} (h : vErr l = 0) : Timely l := fun x hx => by
  have := vBad_ok ((vErr_ok h).2 x hx); omega
theorem pErr_ok2 {xs : List Int} {d : Int} (h : pErr xs d = 0) : xs.length ≤ 512 ∧ (∀ x ∈ xs, 0 ≤ x ∧ x ≤ 1000000) ∧ 0 ≤ d ∧ d ≤ 49709 := by
  unfold pErr at h
  split at h
  · cases h
  · split at h
    · cases h
    · split at h
      · cases h
      · rename_i h1 h2 h3
        refine ⟨by omega, fun x hx => ?_, by omega⟩
        simp only [List.any_eq_true, not_exists, not_and, Bool.not_eq_true] at h2
        have := h2 x hx
        simp [fineBad] at this; omega
theorem cErr_ok {fines : List Int} {d : Int} {l : List V} (h : cErr fines d l = 0) : pErr fines d = 0 ∧ vErr l = 0 := by
  unfold cErr at h
  split at h
  · rename_i h1; exact absurd h h1
  · rename_i h1; exact ⟨by simpa using h1, h⟩

theorem Number_w (a0 a1 a2 a3 a4 : Value) (fA : Option Addr) (fn fc : Nat) (fines : List Int) (days : Int) (A : Option Addr) (n c : Nat) (vs : List V) (i : Int) (w : World) (hf : IntsAt w fA fn fines) (hx : VsAt w A n vs) :
    Calls Tryz.prog 153 #[.agg #[a0, a1, a2, a3, a4, .slice fA fn fc, .int .i64 days], .slice A n c, .int .i64 i] w fun e w' => e = .returned (.tuple #[.int .i64 (numR fines days vs i).1, .int .i64 (numR fines days vs i).2]) ∧ Bel w w' := by
  have hl := hx.1
  refine H_enter Tryz.func153 rfl Tryz.ntmps153 rfl ?_
  refine H_seq ?_
  refine R0 ?_
  refine X_box (v := .agg _) rfl rfl fun b3 => ?_
  refine xV (e_as (v := .int _ _) (q0 rfl)) rfl rfl ?_
  refine xV (e_as (v := .int _ _) (q0 rfl)) rfl rfl ?_
  refine XN ?_
  refine thenJ_normal ?_
  refine H_seq ?_
  refine H_seq ?_
  refine R0 ?_
  refine xV (eS Tryz.isAgg48 Tryz.sizeOf48 (q0 rfl)) rfl rfl ?_
  refine xV (e_mv (v := .slice _ _ _) (q0 rfl)) rfl rfl ?_
  refine xC (en Tryz.call203 (ha2 (q0 rfl) (q0 rfl))) (fun _ w hm => check2_w a0 a1 a2 a3 a4 fA fn fc fines days A n c vs w (hf.mem hm) (hx.mem hm)) rfl rfl ?_
  refine xV (e_as (v := .int _ _) (q0 rfl)) rfl rfl ?_
  refine XN ?_
  refine thenJ_normal ?_
  refine H_seq ?_
  refine R0 ?_
  refine xV (e_mv (v := .int _ _) (q0 rfl)) rfl rfl ?_
  refine xV (e_ne (q0 rfl) (q0 rfl)) rfl rfl ?_
  refine XN ?_
  refine thenJ_normal ?_
  refine H_cond rfl (fun hz => ?_) (fun hz => ?_)
  · refine H_seq ?_
    refine R0 ?_
    refine xV (e_mv (v := .int _ _) (q0 rfl)) rfl rfl ?_
    refine xV (e_as (v := .int _ _) (q0 rfl)) rfl rfl ?_
    refine xV (e_as (v := .int _ _) (q0 rfl)) rfl rfl ?_
    refine XN ?_
    refine thenJ_normal ?_
    refine H_ret ?_
    refine thenJ_ret ?_
    exact ret2 (v := .int _ _) (x := .int _ _) rfl rfl rfl rfl fun w' hw => ⟨by simp at hz; unfold numR; rw [if_pos hz] <;> rfl, hw.1⟩
  · have hz' : cErr fines days vs = 0 := by simpa using hz
    obtain ⟨hp, hv⟩ := cErr_ok hz'
    refine H_skip ?_
    refine thenJ_normal ?_
    refine H_seq ?_
    refine H_seq ?_
    refine R0 ?_
    refine xV (e_mv (v := .int _ _) (q0 rfl)) rfl rfl ?_
    refine xV (e_lt (q0 rfl) (q0 rfl)) rfl rfl ?_
    refine xV (e_mv (v := .bool _) (q0 rfl)) rfl rfl ?_
    refine xVF (e_mv (v := .int _ _) (q0 rfl)) rfl rfl rfl rfl ?_
    refine xVF (e_mv (v := .slice _ _ _) (q0 rfl)) rfl rfl rfl rfl ?_
    refine xVF (e_len Tryz.underlying105 (q1 rfl)) rfl rfl rfl rfl ?_
    refine xVF (e_ge (q1 rfl) (q1 rfl)) rfl rfl rfl rfl ?_
    refine xV (e_or (q0 rfl) rfl (fun h => by first | rfl | (rw [h]; rfl))) rfl rfl ?_
    refine XN ?_
    refine thenJ_normal ?_
    refine H_cond rfl (fun hi => ?_) (fun hi => ?_)
    · refine H_seq ?_
      refine R0 ?_
      refine xV (e_as (v := .int _ _) (q0 rfl)) rfl rfl ?_
      refine xV (e_as (v := .int _ _) (q0 rfl)) rfl rfl ?_
      refine XN ?_
      refine thenJ_normal ?_
      refine H_ret ?_
      refine thenJ_ret ?_
      exact ret2 (v := .int _ _) (x := .int _ _) rfl rfl rfl rfl fun w' hw => ⟨by unfold numR; rw [if_neg (by simpa using hz'), if_pos (by simp at hi; omega)] <;> rfl, hw.1⟩
    · simp at hi
      obtain ⟨k, rfl⟩ := Int.eq_ofNat_of_zero_le hi.1
      obtain ⟨b, off, v, rfl, hbl, hvk, hr⟩ := hx.at_ (i := k) (by omega)
      refine H_skip ?_
      refine thenJ_normal ?_
      refine H_seq ?_
      refine R1 rfl (by decide +kernel) ?_
      refine xV (eS Tryz.isAgg48 Tryz.sizeOf48 (q0 rfl)) rfl rfl ?_
      refine xV (e_mv (v := .slice _ _ _) (q0 rfl)) rfl rfl ?_
      refine xV (e_mv (v := .slice _ _ _) (q0 rfl)) rfl rfl ?_
      refine xV (e_mv (v := .int _ _) (q0 rfl)) rfl rfl ?_
      refine xV (e_idx _ Tryz.underlying105 Tryz.sizeOf26 (q0 rfl) (q0 rfl) (fun _ => ⟨rfl, by omega⟩)) rfl rfl ?_
      refine xV (eS Tryz.isAgg26 Tryz.sizeOf26 (q0 rfl)) rfl rfl ?_
      refine xC (en Tryz.call204 (ha3 (q0 rfl) (q0 rfl) (q0 rfl))) (fun _ w hm => number_w a0 a1 a2 a3 a4 fA fn fc days _ n c vs v w (hx.mem hm) (vErr_ok hv).1 (timely_of hv) (timely_of hv v (List.mem_of_getElem? hvk)) (pErr_ok2 hp).2.2) rfl rfl ?_
      refine xV (e_as (v := .int _ _) (q0 rfl)) rfl rfl ?_
      refine xV (e_as (v := .int _ _) (q0 rfl)) rfl rfl ?_
      refine XN ?_
      refine thenJ_normal ?_
      refine H_ret ?_
      exact ret2 (v := .int _ _) (x := .int _ _) rfl rfl rfl rfl fun w' hw => ⟨by unfold numR; rw [if_neg (by simpa using hz'), if_neg (by omega), List.getD_eq_getElem?_getD, Int.toNat_natCast, hvk] <;> rfl, hw.1⟩

theorem Fine_w (a0 a1 a2 a3 a4 : Value) (fA : Option Addr) (fn fc : Nat) (fines : List Int) (days : Int) (A : Option Addr) (n c : Nat) (vs : List V) (i : Int) (w : World) (hf : IntsAt w fA fn fines) (hx : VsAt w A n vs) :
    Calls Tryz.prog 154 #[.agg #[a0, a1, a2, a3, a4, .slice fA fn fc, .int .i64 days], .slice A n c, .int .i64 i] w fun e w' => e = .returned (.tuple #[.int .i64 (fineR fines days vs i).1, .int .i64 (fineR fines days vs i).2]) ∧ Bel w w' := by
  have hl := hx.1
  refine H_enter Tryz.func154 rfl Tryz.ntmps154 rfl ?_
  refine H_seq ?_
  refine R0 ?_
  refine X_box (v := .agg _) rfl rfl fun b3 => ?_
  refine xV (e_as (v := .int _ _) (q0 rfl)) rfl rfl ?_
  refine xV (e_as (v := .int _ _) (q0 rfl)) rfl rfl ?_
  refine XN ?_
  refine thenJ_normal ?_
  refine H_seq ?_
  refine H_seq ?_
  refine R0 ?_
  refine xV (eS Tryz.isAgg48 Tryz.sizeOf48 (q0 rfl)) rfl rfl ?_
  refine xV (e_mv (v := .slice _ _ _) (q0 rfl)) rfl rfl ?_
  refine xC (en Tryz.call203 (ha2 (q0 rfl) (q0 rfl))) (fun _ w hm => check2_w a0 a1 a2 a3 a4 fA fn fc fines days A n c vs w (hf.mem hm) (hx.mem hm)) rfl rfl ?_
  refine xV (e_as (v := .int _ _) (q0 rfl)) rfl rfl ?_
  refine XN ?_
  refine thenJ_normal ?_
  refine H_seq ?_
  refine R0 ?_
  refine xV (e_mv (v := .int _ _) (q0 rfl)) rfl rfl ?_
  refine xV (e_ne (q0 rfl) (q0 rfl)) rfl rfl ?_
  refine XN ?_
  refine thenJ_normal ?_
  refine H_cond rfl (fun hz => ?_) (fun hz => ?_)
  · refine H_seq ?_
    refine R0 ?_
    refine xV (e_mv (v := .int _ _) (q0 rfl)) rfl rfl ?_
    refine xV (e_as (v := .int _ _) (q0 rfl)) rfl rfl ?_
    refine xV (e_as (v := .int _ _) (q0 rfl)) rfl rfl ?_
    refine XN ?_
    refine thenJ_normal ?_
    refine H_ret ?_
    refine thenJ_ret ?_
    exact ret2 (v := .int _ _) (x := .int _ _) rfl rfl rfl rfl fun w' hw => ⟨by simp at hz; unfold fineR; rw [if_pos hz] <;> rfl, hw.1⟩
  · have hz' : cErr fines days vs = 0 := by simpa using hz
    obtain ⟨hp, hv⟩ := cErr_ok hz'
    refine H_skip ?_
    refine thenJ_normal ?_
    refine H_seq ?_
    refine H_seq ?_
    refine R0 ?_
    refine xV (e_mv (v := .int _ _) (q0 rfl)) rfl rfl ?_
    refine xV (e_lt (q0 rfl) (q0 rfl)) rfl rfl ?_
    refine xV (e_mv (v := .bool _) (q0 rfl)) rfl rfl ?_
    refine xVF (e_mv (v := .int _ _) (q0 rfl)) rfl rfl rfl rfl ?_
    refine xVF (e_mv (v := .slice _ _ _) (q0 rfl)) rfl rfl rfl rfl ?_
    refine xVF (e_len Tryz.underlying105 (q1 rfl)) rfl rfl rfl rfl ?_
    refine xVF (e_ge (q1 rfl) (q1 rfl)) rfl rfl rfl rfl ?_
    refine xV (e_or (q0 rfl) rfl (fun h => by first | rfl | (rw [h]; rfl))) rfl rfl ?_
    refine XN ?_
    refine thenJ_normal ?_
    refine H_cond rfl (fun hi => ?_) (fun hi => ?_)
    · refine H_seq ?_
      refine R0 ?_
      refine xV (e_as (v := .int _ _) (q0 rfl)) rfl rfl ?_
      refine xV (e_as (v := .int _ _) (q0 rfl)) rfl rfl ?_
      refine XN ?_
      refine thenJ_normal ?_
      refine H_ret ?_
      refine thenJ_ret ?_
      exact ret2 (v := .int _ _) (x := .int _ _) rfl rfl rfl rfl fun w' hw => ⟨by unfold fineR; rw [if_neg (by simpa using hz'), if_pos (by simp at hi; omega)] <;> rfl, hw.1⟩
    · simp at hi
      obtain ⟨k, rfl⟩ := Int.eq_ofNat_of_zero_le hi.1
      obtain ⟨b, off, v, rfl, hbl, hvk, hr⟩ := hx.at_ (i := k) (by omega)
      refine H_skip ?_
      refine thenJ_normal ?_
      refine H_seq ?_
      refine R1 rfl (by decide +kernel) ?_
      refine xV (eS Tryz.isAgg48 Tryz.sizeOf48 (q0 rfl)) rfl rfl ?_
      refine xV (e_mv (v := .slice _ _ _) (q0 rfl)) rfl rfl ?_
      refine xV (e_mv (v := .slice _ _ _) (q0 rfl)) rfl rfl ?_
      refine xV (e_mv (v := .int _ _) (q0 rfl)) rfl rfl ?_
      refine xV (e_idx _ Tryz.underlying105 Tryz.sizeOf26 (q0 rfl) (q0 rfl) (fun _ => ⟨rfl, by omega⟩)) rfl rfl ?_
      refine xV (eS Tryz.isAgg26 Tryz.sizeOf26 (q0 rfl)) rfl rfl ?_
      refine xC (en Tryz.call205 (ha3 (q0 rfl) (q0 rfl) (q0 rfl))) (fun _ w hm => fine_w a0 a1 a2 a3 a4 fA fn fc fines days _ n c vs v w (hf.mem hm) (hx.mem hm) (vErr_ok hv).1 (timely_of hv) (timely_of hv v (List.mem_of_getElem? hvk)) (pErr_ok2 hp).2.2) rfl rfl ?_
      refine xV (e_as (v := .int _ _) (q0 rfl)) rfl rfl ?_
      refine xV (e_as (v := .int _ _) (q0 rfl)) rfl rfl ?_
      refine XN ?_
      refine thenJ_normal ?_
      refine H_ret ?_
      exact ret2 (v := .int _ _) (x := .int _ _) rfl rfl rfl rfl fun w' hw => ⟨by unfold fineR; rw [if_neg (by simpa using hz'), if_neg (by omega), List.getD_eq_getElem?_getD, Int.toNat_natCast, hvk] <;> rfl, hw.1⟩

theorem fine_le {fines : List Int} {days : Int} {l : List V} {v : V} (h : ∀ x ∈ fines, 0 ≤ x ∧ x ≤ 1000000) : 0 ≤ fine fines days l v ∧ fine fines days l v ≤ 1000000 := by
  unfold fine
  split
  · omega
  · rw [List.getD_eq_getElem?_getD]
    cases hx : fines[min (num days l v).toNat fines.length - 1]? with
    | none => simp
    | some x => exact h x (List.mem_of_getElem? hx)
theorem sumF_le {f : V → Int} (hf : ∀ v, 0 ≤ f v ∧ f v ≤ 1000000) : ∀ l : List V, 0 ≤ sumF f l ∧ sumF f l ≤ 1000000 * l.length
  | [] => by simp [sumF]
  | v :: l => by
    have h1 := hf v
    have h2 := sumF_le hf l
    simp only [sumF, List.map_cons, List.sum_cons, List.length_cons] at h2 ⊢
    omega
theorem sumF_snoc {f : V → Int} {l : List V} {v : V} : sumF f (l ++ [v]) = sumF f l + f v := by simp [sumF]

end Go.Proofs.Pen
