import Derived.Test.YtlihpbblpmpcfaaGreatRidP
import Derived.Test.YtlihpbblpmpcfaaGreatRid3
import Derived.Test.YtlihpbblpmpcfaaGreatCusR
set_option linter.unusedVariables false
set_option linter.unusedSimpArgs false
/-
  The walks: the reference's story of rides: open, paused, begin, finish.
-/
namespace Go.Proofs.Rid
open Go Go.RowKit Go.Proofs.E Go.Proofs.Cus

theorem fl63 {fs : Array Field} (h : Tryz.prog.underlying 63 = some (.struct fs) := by exact Tryz.underlying63) : FieldsLie Tryz.prog fs [(0, 1), (1, 1)] := by
  rw [Tryz.underlying63] at h
  cases h
  intro w
  kernel_rfl
/-! a first place, as an integer -/
def fndP (p : Rd → Bool) : List Rd → Nat → Int
  | [], _ => -1
  | r :: l, k => if p r = true then (k : Int) else fndP p l (k + 1)
theorem fndP_cons (p : Rd → Bool) (r : Rd) (l : List Rd) (k : Nat) : fndP p (r :: l) k = if p r = true then (k : Int) else fndP p l (k + 1) := rfl
theorem fndP_eq (p : Rd → Bool) : ∀ (l : List Rd) (n : Nat), fndP p l n = match l.findIdx? p with | none => -1 | some k => ((n + k : Nat) : Int)
  | [], n => rfl
  | r :: l, n => by
    rw [fndP_cons, fndP_eq p l (n + 1), List.findIdx?_cons]
    by_cases h : p r = true
    · rw [if_pos h, if_pos h]; rfl
    · rw [if_neg h, if_neg h]
      cases l.findIdx? p with
      | none => rfl
      | some k => simp only [Option.map_some]; congr 1; omega
theorem fnd_P (id : Int) : ∀ (l : List Rd) (n : Nat), fnd id l n = fndP (fun r => decide (r.id = id)) l n
  | [], _ => rfl
  | r :: l, n => by
    rw [fnd_cons, fndP_cons, fnd_P id l (n + 1)]
    by_cases h : r.id = id
    · rw [if_pos h, if_pos (by simpa using h)]
    · rw [if_neg h, if_neg (by simpa using h)]
theorem fnd_foundI (id : Int) (l : List Rd) : fnd id l 0 = optI (foundI l id) := by
  rw [fnd_P, fndP_eq]
  unfold foundI
  cases l.findIdx? fun r => decide (r.id = id) with
  | none => rfl
  | some k => show ((0 + k : Nat) : Int) = (k : Int); omega
theorem fndP_openI (bike : Int) (l : List Rd) : fndP (isOn bike) l 0 = optI (openI l bike) := by
  rw [fndP_eq]
  unfold openI
  cases l.findIdx? (isOn bike) with
  | none => rfl
  | some k => show ((0 + k : Nat) : Int) = (k : Int); omega

/-! the story in memory -/
structure RYA where
  rA : Option Addr
  rc : Nat
  eA : Option Addr
  ec : Nat
structure TR where
  xs : List RX
  es : List Int
def TR.plain (t : TR) : RY := ⟨t.xs.map (·.r), t.es⟩
def ryV (a : RYA) (t : TR) : List Value := [.slice a.rA t.xs.length a.rc, .slice a.eA t.es.length a.ec]
abbrev stR (a : RYA) (t : TR) : List E.Item := [rdRow a.rA a.rc t.xs, rdBag t.xs, inRow a.eA a.ec t.es]
abbrev ROut (p : RY) : Type := { y : RYA × TR // y.2.plain = p }
theorem ret_ry {a : RYA} {t t' : TR} (h1 : t'.xs.length = t.xs.length) (h2 : t'.es.length = t.es.length) : Ending.returned (.agg (ryV a t).toArray) = .returned (.agg (ryV a t').toArray) := by unfold ryV; rw [h1, h2]
/-- what keeps the reference from panicking -/
structure RW (t : TR) : Prop where
  len : t.es.length = t.xs.length
  num : t.xs.length ≤ 1000
  nn : ∀ n ∈ t.es, 0 ≤ n ∧ n ≤ 1000
  legs : ∀ x ∈ t.xs, 0 < x.r.legs.length ∧ x.r.legs.length ≤ 1000 ∧ x.r.pauses.length ≤ 1000

set_option maxRecDepth 20000 in
theorem ropen_w (A : Option Addr) (n c : Nat) (xs : List RX) (bike : Int) (w : World) (hx : RdsAt w A n xs) (hs : ∀ x ∈ xs, 0 < x.r.legs.length ∧ x.r.legs.length ≤ 1000) : Calls Tryz.prog 43 #[.slice A n c, .int .i64 bike] w fun e w' => e = .returned (.int .i64 (optI (openI (xs.map (·.r)) bike))) ∧ Bel w w' := by
  have hl := hx.1.1
  have hn := hx.1.2.1
  rw [← fndP_openI]
  refine H_enter Tryz.func43 rfl Tryz.ntmps43 rfl ?_
  refine H_seq ?_
  refine R0 ?_
  refine xV (e_as (v := .int _ _) (q0 rfl)) rfl rfl ?_
  refine XN ?_
  refine thenJ_normal ?_
  refine H_seq ?_
  refine H_seq ?_
  refine R0 ?_
  refine xV (e_as (v := .int _ _) (q0 rfl)) rfl rfl ?_
  refine XN ?_
  refine thenJ_normal ?_
  refine H_block ?_
  refine H_loop [4, 5, 6, 7, 8, 9, 10, 11, 12, 13, 14, 15, 16, 17, 18, 19, 20, 21, 22, 23, 24, 25, 26, 27, 28, 29, 30, 31, 32, 33, 34, 35, 36] (fun k : Nat => [(5, .int .i64 k)]) (fun _ => []) (fun k => k ≤ n ∧ fndP (isOn bike) (xs.map (·.r)) 0 = fndP (isOn bike) ((xs.map (·.r)).drop k) k) (fun k => n - k) 0 ⟨rfl, trivial⟩ (fun w hw => hw) rfl ⟨Nat.zero_le _, rfl⟩ ?_
  rintro k g ⟨hk, hall⟩
  refine H_seq ?_
  refine H_seq ?_
  refine R0 ?_
  refine xV (e_mv (v := .int _ _) (q0 rfl)) rfl rfl ?_
  refine xV (e_mv (v := .slice _ _ _) (q0 rfl)) rfl rfl ?_
  refine xV (e_len Tryz.underlying28 (q0 rfl)) rfl rfl ?_
  refine xV (e_lt (q0 rfl) (q0 rfl)) rfl rfl ?_
  refine XN ?_
  refine thenJ_normal ?_
  refine H_cond rfl (fun hlt => ?_) (fun hlt => ?_)
  · have hlt' : k < n := by simpa using hlt
    obtain ⟨b, off, y, rfl, hbl, hy, hry⟩ := hx.1.at_ hlt'
    have hym := List.mem_of_getElem? hy
    have hya := (hx.2 y hym).legs
    have hyl := hs y hym
    rw [drop_of (l := xs.map (·.r)) (k := k) (x := y.r) (by simp [hy]), fndP_cons] at hall
    obtain ⟨r, ⟨lA, lc, pA, pc⟩⟩ := y
    simp only at hya hyl hall
    obtain ⟨lb, lo, z, rfl, hlbl, hz, hrz⟩ := hya.at_ (show r.legs.length - 1 < r.legs.length by omega)
    have hlast : lastBike r.legs = z.bike := by unfold lastBike; rw [getD_of hz]
    refine H_skip ?_
    refine thenJ_normal ?_
    refine H_seq ?_
    refine H_block ?_
    refine H_seq ?_
    refine R1 rfl (by decide +kernel) ?_
    refine xV (e_mv (v := .slice _ _ _) (q0 rfl)) rfl rfl ?_
    refine xV (e_mv (v := .int _ _) (q0 rfl)) rfl rfl ?_
    refine xV (e_idx _ Tryz.underlying28 Tryz.sizeOf41 (q0 rfl) (q0 rfl) (fun _ => ⟨rfl, by omega⟩)) rfl rfl ?_
    refine xV (e_fld Tryz.underlying41 rfl Tryz.sizeOf4 rfl (q0 rfl)) rfl rfl ?_
    refine xV (eL Tryz.isAgg4 (q0 rfl)) rfl rfl ?_
    refine xV (e_mv (v := .bool _) (q0 rfl)) rfl rfl ?_
    refine xVT (e_mv (v := .slice _ _ _) (q0 rfl)) rfl rfl rfl rfl ?_
    refine xVT (e_mv (v := .int _ _) (q0 rfl)) rfl rfl rfl rfl ?_
    refine xVT (e_idx _ Tryz.underlying28 Tryz.sizeOf41 (q1 rfl) (q1 rfl) (fun _ => ⟨rfl, by omega⟩)) rfl rfl rfl rfl ?_
    refine xVT (e_fld Tryz.underlying41 rfl Tryz.sizeOf38 rfl (q1 rfl)) rfl rfl rfl rfl ?_
    refine xVT (eL Tryz.isAgg38 (q1 rfl)) rfl rfl rfl rfl ?_
    refine xVT (e_mv (v := .slice _ _ _) (q0 rfl)) rfl rfl rfl rfl ?_
    refine xVT (e_mv (v := .int _ _) (q0 rfl)) rfl rfl rfl rfl ?_
    refine xVT (e_idx _ Tryz.underlying28 Tryz.sizeOf41 (q1 rfl) (q1 rfl) (fun _ => ⟨rfl, by omega⟩)) rfl rfl rfl rfl ?_
    refine xVT (e_fld Tryz.underlying41 rfl Tryz.sizeOf38 rfl (q1 rfl)) rfl rfl rfl rfl ?_
    refine xVT (eL Tryz.isAgg38 (q1 rfl)) rfl rfl rfl rfl ?_
    refine xVT (e_len Tryz.underlying38 (q1 rfl)) rfl rfl rfl rfl ?_
    refine xVT (e_sub (r := ((r.legs.length - 1 : Nat) : Int)) (q1 rfl) (q0 rfl) (fun _ => ⟨by first | omega | (simp only; omega), by first | omega | (simp only; omega), by first | omega | (simp only; omega)⟩)) rfl rfl rfl rfl ?_
    refine xVT (e_idx (r.legs.length - 1) Tryz.underlying38 Tryz.sizeOf73 (q1 rfl) (q1 rfl) (fun _ => ⟨rfl, by first | omega | (simp only; omega)⟩)) rfl rfl rfl rfl ?_
    refine xVT (e_fld Tryz.underlying73 rfl Tryz.sizeOf3 rfl (q1 rfl)) rfl rfl rfl rfl ?_
    refine xVT (eL Tryz.isAgg3 (q1 rfl)) rfl rfl rfl rfl ?_
    refine xVT (e_mv (v := .int _ _) (q0 rfl)) rfl rfl rfl rfl ?_
    refine xVT (e_eq (q1 rfl) (q1 rfl)) rfl rfl rfl rfl ?_
    refine xV (e_and (q0 rfl) rfl (fun h => by first | rfl | (rw [h]; rfl))) rfl rfl ?_
    refine XN ?_
    refine thenJ_normal ?_
    refine H_cond rfl (fun hb => ?_) (fun hb => ?_)
    · have hb' : isOn bike r = true := by unfold isOn; rw [hlast]; exact hb
      rw [if_pos hb'] at hall
      refine H_seq ?_
      refine R0 ?_
      refine xV (e_mv (v := .int _ _) (q0 rfl)) rfl rfl ?_
      refine xV (e_as (v := .int _ _) (q0 rfl)) rfl rfl ?_
      refine XN ?_
      refine thenJ_normal ?_
      refine H_ret ?_
      refine blockJ_ret ?_
      refine thenJ_ret ?_
      refine loopJ_ret ?_
      refine blockJ_ret ?_
      refine thenJ_ret ?_
      exact ret1 (v := .int _ _) rfl rfl rfl fun w' hw => ⟨ret_int (by exact hall.symm), hw.1⟩
    · have hb' : isOn bike r = false := by unfold isOn; rw [hlast]; exact hb
      rw [if_neg (by rw [hb']; decide)] at hall
      refine H_skip ?_
      refine blockJ_normal ?_
      refine thenJ_normal ?_
      refine R0 ?_
      refine xV (e_mv (v := .int _ _) (q0 rfl)) rfl rfl ?_
      refine xV (e_add (q0 rfl) (q0 rfl) (fun _ => ⟨rfl, by omega, by omega⟩)) rfl rfl ?_
      refine xV (e_as (v := .int _ _) (q0 rfl)) rfl rfl ?_
      refine XN ?_
      exact loopJ_normal (k + 1) (by repeat (first | exact agree_self | exact agree_over | refine agree_upd rfl ?_ | refine agree_updL rfl ?_ | refine agree_over2 rfl ?_)) ⟨rfl, trivial⟩ (fun w hw => hw) rfl ⟨by omega, hall⟩ (by show n - (k + 1) < n - k; omega)
  · have hend : k = n := by simp at hlt; omega
    rw [List.drop_of_length_le (by simp; omega)] at hall
    rw [hall]
    refine H_exit ?_
    refine thenJ_exit ?_
    refine loopJ_exit ?_
    refine blockJ_hit ?_
    refine thenJ_normal ?_
    refine H_seq ?_
    refine R0 ?_
    refine xV (e_as (v := .int _ _) (q0 rfl)) rfl rfl ?_
    refine XN ?_
    refine thenJ_normal ?_
    refine H_ret ?_
    exact ret1 (v := .int _ _) rfl rfl rfl fun w' hw => ⟨rfl, hw.1⟩
theorem rpaused_w (x : RX) (n : Int) (w : World) : Calls Tryz.prog 62 #[.agg x.cells.toArray, .int .i64 n] w fun e w' => e = .returned (.bool (pausedR x.r n)) ∧ Bel w w' := by
  obtain ⟨r, ⟨lA, lc, pA, pc⟩⟩ := x
  refine H_enter Tryz.func62 rfl Tryz.ntmps62 rfl ?_
  refine H_seq ?_
  refine R0 ?_
  refine X_box (v := .agg _) rfl rfl fun b2 => ?_
  refine xV (e_as (v := .bool _) (q0 rfl)) rfl rfl ?_
  refine XN ?_
  refine thenJ_normal ?_
  refine H_seq ?_
  refine R0 ?_
  refine xV (e_fld Tryz.underlying41 rfl Tryz.sizeOf39 rfl (q0 rfl)) rfl rfl ?_
  refine xV (eL Tryz.isAgg39 (q0 rfl)) rfl rfl ?_
  refine xV (e_len Tryz.underlying39 (q0 rfl)) rfl rfl ?_
  refine xV (e_mv (v := .int _ _) (q0 rfl)) rfl rfl ?_
  refine xV (e_gt (q0 rfl) (q0 rfl)) rfl rfl ?_
  refine xV (e_as (v := .bool _) (q0 rfl)) rfl rfl ?_
  refine XN ?_
  refine thenJ_normal ?_
  refine H_ret ?_
  exact ret1 (v := .bool _) rfl rfl rfl fun w' hw => ⟨rfl, hw.1⟩
section
variable {a : RYA} {t : TR} {w0 w : World} {L : List E.Item}
set_option maxHeartbeats 8000000 in
set_option maxRecDepth 20000 in
theorem rbeg_w (hw : Mem w0 (stR a t ++ L) w) (hmk : marks L = []) (hW : RW t) (e : Ev) (x : Sp) :
    Calls Tryz.prog 25 #[.agg (ryV a t).toArray, .agg e.cells.toArray, .agg x.cells.toArray] w fun r w' => ∃ y : ROut (beginR t.plain e x), r = .returned (.agg (ryV y.1.1 y.1.2).toArray) ∧ Mem w0 (stR y.1.1 y.1.2 ++ L) w' := by
  have hel := hW.len
  have hnum := hW.num
  obtain ⟨ed, es, eat, el, ekind, ebike, epl, erd, erid⟩ := e
  refine H_enterM hw hmk Tryz.func25 rfl Tryz.ntmps25 rfl ?_
  refine H_seq ?_
  refine R0 ?_
  refine X_box (v := .agg _) rfl rfl fun b3 => ?_
  refine X_box (v := .agg _) rfl rfl fun b4 => ?_
  refine X_box (v := .agg _) rfl rfl fun b5 => ?_
  refine X_alloc Tryz.zeroValue63 rfl fun b6 => ?_
  refine XN ?_
  refine thenJ_normal ?_
  refine H_seq ?_
  refine R0 ?_
  refine xV (e_fld Tryz.underlying57 rfl Tryz.sizeOf3 rfl (q0 rfl)) rfl rfl ?_
  refine xV (eL Tryz.isAgg3 (q0 rfl)) rfl rfl ?_
  refine xV (e_fld Tryz.underlying57 rfl Tryz.sizeOf3 rfl (q0 rfl)) rfl rfl ?_
  refine xV (eL Tryz.isAgg3 (q0 rfl)) rfl rfl ?_
  refine xV (e_build Tryz.underlying37 fl37 Tryz.zeroValue37 (pt (v := .int _ _) rfl (pt (v := .int _ _) rfl E.p0)) rfl) rfl rfl ?_
  refine X_alloc Tryz.zeroValue37 rfl fun b7 => ?_
  refine X_st (v := .agg _) rfl rfl Tryz.sizeOf37 ?_
  refine XN ?_
  refine thenJ_normal ?_
  refine H_seq ?_
  refine R0 ?_
  refine xV (e_fld Tryz.underlying57 rfl Tryz.sizeOf3 rfl (q0 rfl)) rfl rfl ?_
  refine xV (eL Tryz.isAgg3 (q0 rfl)) rfl rfl ?_
  refine xV (e_fld Tryz.underlying57 rfl Tryz.sizeOf3 rfl (q0 rfl)) rfl rfl ?_
  refine xV (eL Tryz.isAgg3 (q0 rfl)) rfl rfl ?_
  refine xV (eS Tryz.isAgg37 Tryz.sizeOf37 (q0 rfl)) rfl rfl ?_
  refine xV (e_fld Tryz.underlying57 rfl Tryz.sizeOf3 rfl (q0 rfl)) rfl rfl ?_
  refine xV (eL Tryz.isAgg3 (q0 rfl)) rfl rfl ?_
  refine xV (eS Tryz.isAgg37 Tryz.sizeOf37 (q0 rfl)) rfl rfl ?_
  refine xV (e_build Tryz.underlying73 fl73 Tryz.zeroValue73 (pt (v := .int _ _) rfl (pt (v := .agg _) rfl E.p0)) rfl) rfl rfl ?_
  refine X_slit [(.int .i64 0), (.int .i64 0), (.int .i64 0), (.int .i64 0), (.int .i64 0)] Tryz.underlying38 Tryz.sizeOf73 Tryz.zeroValue73 rfl (by kernel_rfl) (pt (v := .agg _) rfl E.p0) rfl rfl fun b23 => ?_
  refine xV (e_fld Tryz.underlying68 rfl Tryz.sizeOf3 rfl (q0 rfl)) rfl rfl ?_
  refine xV (eL Tryz.isAgg3 (q0 rfl)) rfl rfl ?_
  refine xV (e_fld Tryz.underlying68 rfl Tryz.sizeOf3 rfl (q0 rfl)) rfl rfl ?_
  refine xV (eL Tryz.isAgg3 (q0 rfl)) rfl rfl ?_
  refine xV (e_build Tryz.underlying41 fl41 Tryz.zeroValue41 (pt (v := .int _ _) rfl (pt (v := .int _ _) rfl (pt (v := .agg _) rfl (pt (v := .bool _) rfl (pt (v := .slice _ _ _) rfl (pt (v := .int _ _) rfl (pt (v := .int _ _) rfl (pt (v := .int _ _) rfl E.p0)))))))) rfl) rfl rfl ?_
  refine X_alloc Tryz.zeroValue41 rfl fun b8 => ?_
  refine X_st (v := .agg _) rfl rfl Tryz.sizeOf41 ?_
  refine XN ?_
  refine thenJ_normal ?_
  refine H_seq ?_
  refine H_mem (fun w hw => hw.pickN 10 [7, 9, 3, 0, 6, 1, 8] (by decide) (by decide)) rfl ?_
  refine H_cut [29, 30, 31, 32, 33, 34, 35, 36, 37, 38] (fun _ : Nat × RYA => []) (fun s => [pzRow none 0 [], lgRow (some ⟨s.1, 0, none⟩) 1 [⟨ebike, ⟨eat, el⟩, zSpn⟩], box b6 63 (ryV s.2 ⟨t.xs ++ [⟨newR ⟨ed, es, eat, el, ekind, ebike, epl, erd, erid⟩ x ⟨eat, el⟩, ⟨some ⟨s.1, 0, none⟩, 1, none, 0⟩⟩], t.es ++ [0]⟩), rdRow s.2.rA s.2.rc (t.xs ++ [(⟨newR ⟨ed, es, eat, el, ekind, ebike, epl, erd, erid⟩ x ⟨eat, el⟩, ⟨some ⟨s.1, 0, none⟩, 1, none, 0⟩⟩ : RX)]), rdBag t.xs, inRow s.2.eA s.2.ec (t.es ++ [0])] ++ L) (fun _ => True) ?_ ?_
  · refine RAd 3 rfl (by decide +kernel) ?_
    refine aV 0 (by decide +kernel) rfl (e_fld Tryz.underlying63 rfl Tryz.sizeOf28 rfl (q0 rfl)) rfl ?_
    refine aV 1 (by decide +kernel) rfl (eL Tryz.isAgg28 (q0 rfl)) rfl ?_
    refine aV 2 (by decide +kernel) rfl (eS Tryz.isAgg41 Tryz.sizeOf41 (q0 rfl)) rfl ?_
    refine aV 5 (by decide +kernel) rfl (e_fld Tryz.underlying63 rfl Tryz.sizeOf22 rfl (q0 rfl)) rfl ?_
    refine aV 6 (by decide +kernel) rfl (eL Tryz.isAgg22 (q0 rfl)) rfl ?_
    refine rdy2 (i := 3) (j := 7) (by decide +kernel) (sub_drop 3) ?_ ?_
    · refine aL rfl (f_slit [(.int .i64 0), (.int .i64 0), (.int .i64 0), (.int .i64 0), (.int .i64 0), (.int .i64 0), (.bool false), (.slice none 0 0), (.slice none 0 0), (.int .i64 0), (.int .i64 0), (.int .i64 0), (.int .i64 0)] Tryz.underlying28 Tryz.sizeOf41 Tryz.zeroValue41 rfl (by kernel_rfl) (pt (v := .agg _) rfl E.p0) rfl rfl fun b32 => ?_)
      refine rdy2 (i := 4) (j := 7) (by decide +kernel) (sub_drop 4) ?_ ?_
      · (first | refine aL rfl (f_append (k := 13) (i := Tryz.t41) (enc := RX.cells) (xs := t.xs) 1 Tryz.underlying28 (by kernel_rfl) rfl rfl rfl rfl (fun _ => rfl) (fun _ => rfl) rfl rfl rfl (fun w hw => slAt_box (enc := RX.cells) (xs := [⟨newR ⟨ed, es, eat, el, ekind, ebike, epl, erd, erid⟩ x ⟨eat, el⟩, ⟨some ⟨b23, 0, none⟩, 1, none, 0⟩⟩]) hw (j := 0) rfl (fun _ => rfl) (by simp)) ⟨by simp; omega, by decide⟩ rfl fun A4 c4 => ?_) | refine aL rfl (f_append (k := 13) (i := Tryz.t41) (enc := RX.cells) (xs := t.xs) 2 Tryz.underlying28 (by kernel_rfl) rfl rfl rfl rfl (fun _ => rfl) (fun _ => rfl) rfl rfl rfl (fun w hw => slAt_box (enc := RX.cells) (xs := [⟨newR ⟨ed, es, eat, el, ekind, ebike, epl, erd, erid⟩ x ⟨eat, el⟩, ⟨some ⟨b23, 0, none⟩, 1, none, 0⟩⟩]) hw (j := 0) rfl (fun _ => rfl) (by simp)) ⟨by simp; omega, by decide⟩ rfl fun A4 c4 => ?_))
        refine rdy1 (i := 7) (by decide +kernel) (sub_drop 4) ?_
        refine aL rfl (f_slit [(.int .i64 0)] Tryz.underlying22 Tryz.sizeOf3 Tryz.zeroValue3 rfl (by kernel_rfl) (pt (v := .int _ _) rfl E.p0) rfl rfl fun b36 => ?_)
        refine aI 1 ?_
        refine rdy1 (i := 8) (by decide +kernel) (sub_drop 5) ?_
        (first | refine aL rfl (f_append (k := 1) (i := Tryz.t3) (enc := encInt) (xs := t.es) 2 Tryz.underlying22 (by kernel_rfl) rfl rfl rfl rfl (fun _ => rfl) (fun _ => rfl) rfl rfl rfl (fun w hw => slAt_box (enc := encInt) (xs := [0]) hw (j := 0) rfl (fun _ => rfl) (by simp)) ⟨by simp; omega, by decide⟩ rfl fun A8 c8 => ?_) | refine aL rfl (f_append (k := 1) (i := Tryz.t3) (enc := encInt) (xs := t.es) 3 Tryz.underlying22 (by kernel_rfl) rfl rfl rfl rfl (fun _ => rfl) (fun _ => rfl) rfl rfl rfl (fun w hw => slAt_box (enc := encInt) (xs := [0]) hw (j := 1) rfl (fun _ => rfl) (by simp)) ⟨by simp; omega, by decide⟩ rfl fun A8 c8 => ?_))
        refine aV 9 (by decide +kernel) rfl (e_build Tryz.underlying63 fl63 Tryz.zeroValue63 (pt (v := .slice _ _ _) rfl (pt (v := .slice _ _ _) rfl E.p0)) rfl) rfl ?_
        refine rdy1 (i := 10) (by decide +kernel) (sub_drop 5) ?_
        refine aL rfl (f_st (v := .agg _) rfl rfl Tryz.sizeOf63 ?_)
        refine aZ (by decide +kernel) (sub_drop 5) ?_
        exact cutJ_normal ((b23, ⟨A4, c4, A8, c8⟩) : Nat × RYA) (by repeat (first | exact agree_self | exact agree_over | refine agree_upd rfl ?_ | refine agree_updL rfl ?_ | refine agree_over2 rfl ?_)) trivial (fun w hw => by have h1 := hw.pickN 9 [7, 4, 2, 8, 3] (by decide) (by decide); have h2 := h1.boxRow (j := 0) (b := b23) (e := 73) (n := 5) (enc := Lg.cells) (xs := [⟨ebike, ⟨eat, el⟩, zSpn⟩]) rfl (fun _ => rfl) (by simp); have h3 := h2.nilRow 75 4 Pz.cells (c := 0) rfl; exact h3) rfl trivial
      · refine aL rfl (f_slit [(.int .i64 0)] Tryz.underlying22 Tryz.sizeOf3 Tryz.zeroValue3 rfl (by kernel_rfl) (pt (v := .int _ _) rfl E.p0) rfl rfl fun b36 => ?_)
        refine aI 1 ?_
        refine rdy1 (i := 4) (by decide +kernel) (sub_drop 5) ?_
        (first | refine aL rfl (f_append (k := 13) (i := Tryz.t41) (enc := RX.cells) (xs := t.xs) 1 Tryz.underlying28 (by kernel_rfl) rfl rfl rfl rfl (fun _ => rfl) (fun _ => rfl) rfl rfl rfl (fun w hw => slAt_box (enc := RX.cells) (xs := [⟨newR ⟨ed, es, eat, el, ekind, ebike, epl, erd, erid⟩ x ⟨eat, el⟩, ⟨some ⟨b23, 0, none⟩, 1, none, 0⟩⟩]) hw (j := 0) rfl (fun _ => rfl) (by simp)) ⟨by simp; omega, by decide⟩ rfl fun A4 c4 => ?_) | refine aL rfl (f_append (k := 13) (i := Tryz.t41) (enc := RX.cells) (xs := t.xs) 2 Tryz.underlying28 (by kernel_rfl) rfl rfl rfl rfl (fun _ => rfl) (fun _ => rfl) rfl rfl rfl (fun w hw => slAt_box (enc := RX.cells) (xs := [⟨newR ⟨ed, es, eat, el, ekind, ebike, epl, erd, erid⟩ x ⟨eat, el⟩, ⟨some ⟨b23, 0, none⟩, 1, none, 0⟩⟩]) hw (j := 0) rfl (fun _ => rfl) (by simp)) ⟨by simp; omega, by decide⟩ rfl fun A4 c4 => ?_))
        refine rdy1 (i := 8) (by decide +kernel) (sub_drop 5) ?_
        (first | refine aL rfl (f_append (k := 1) (i := Tryz.t3) (enc := encInt) (xs := t.es) 2 Tryz.underlying22 (by kernel_rfl) rfl rfl rfl rfl (fun _ => rfl) (fun _ => rfl) rfl rfl rfl (fun w hw => slAt_box (enc := encInt) (xs := [0]) hw (j := 0) rfl (fun _ => rfl) (by simp)) ⟨by simp; omega, by decide⟩ rfl fun A8 c8 => ?_) | refine aL rfl (f_append (k := 1) (i := Tryz.t3) (enc := encInt) (xs := t.es) 3 Tryz.underlying22 (by kernel_rfl) rfl rfl rfl rfl (fun _ => rfl) (fun _ => rfl) rfl rfl rfl (fun w hw => slAt_box (enc := encInt) (xs := [0]) hw (j := 1) rfl (fun _ => rfl) (by simp)) ⟨by simp; omega, by decide⟩ rfl fun A8 c8 => ?_))
        refine aV 9 (by decide +kernel) rfl (e_build Tryz.underlying63 fl63 Tryz.zeroValue63 (pt (v := .slice _ _ _) rfl (pt (v := .slice _ _ _) rfl E.p0)) rfl) rfl ?_
        refine rdy1 (i := 10) (by decide +kernel) (sub_drop 5) ?_
        refine aL rfl (f_st (v := .agg _) rfl rfl Tryz.sizeOf63 ?_)
        refine aZ (by decide +kernel) (sub_drop 5) ?_
        exact cutJ_normal ((b23, ⟨A4, c4, A8, c8⟩) : Nat × RYA) (by repeat (first | exact agree_self | exact agree_over | refine agree_upd rfl ?_ | refine agree_updL rfl ?_ | refine agree_over2 rfl ?_)) trivial (fun w hw => by have h1 := hw.pickN 9 [7, 4, 2, 8, 3] (by decide) (by decide); have h2 := h1.boxRow (j := 0) (b := b23) (e := 73) (n := 5) (enc := Lg.cells) (xs := [⟨ebike, ⟨eat, el⟩, zSpn⟩]) rfl (fun _ => rfl) (by simp); have h3 := h2.nilRow 75 4 Pz.cells (c := 0) rfl; exact h3) rfl trivial
    · refine aL rfl (f_slit [(.int .i64 0)] Tryz.underlying22 Tryz.sizeOf3 Tryz.zeroValue3 rfl (by kernel_rfl) (pt (v := .int _ _) rfl E.p0) rfl rfl fun b36 => ?_)
      refine rdy1 (i := 3) (by decide +kernel) (sub_drop 4) ?_
      refine aL rfl (f_slit [(.int .i64 0), (.int .i64 0), (.int .i64 0), (.int .i64 0), (.int .i64 0), (.int .i64 0), (.bool false), (.slice none 0 0), (.slice none 0 0), (.int .i64 0), (.int .i64 0), (.int .i64 0), (.int .i64 0)] Tryz.underlying28 Tryz.sizeOf41 Tryz.zeroValue41 rfl (by kernel_rfl) (pt (v := .agg _) rfl E.p0) rfl rfl fun b32 => ?_)
      refine rdy1 (i := 4) (by decide +kernel) (sub_drop 5) ?_
      (first | refine aL rfl (f_append (k := 13) (i := Tryz.t41) (enc := RX.cells) (xs := t.xs) 1 Tryz.underlying28 (by kernel_rfl) rfl rfl rfl rfl (fun _ => rfl) (fun _ => rfl) rfl rfl rfl (fun w hw => slAt_box (enc := RX.cells) (xs := [⟨newR ⟨ed, es, eat, el, ekind, ebike, epl, erd, erid⟩ x ⟨eat, el⟩, ⟨some ⟨b23, 0, none⟩, 1, none, 0⟩⟩]) hw (j := 0) rfl (fun _ => rfl) (by simp)) ⟨by simp; omega, by decide⟩ rfl fun A4 c4 => ?_) | refine aL rfl (f_append (k := 13) (i := Tryz.t41) (enc := RX.cells) (xs := t.xs) 2 Tryz.underlying28 (by kernel_rfl) rfl rfl rfl rfl (fun _ => rfl) (fun _ => rfl) rfl rfl rfl (fun w hw => slAt_box (enc := RX.cells) (xs := [⟨newR ⟨ed, es, eat, el, ekind, ebike, epl, erd, erid⟩ x ⟨eat, el⟩, ⟨some ⟨b23, 0, none⟩, 1, none, 0⟩⟩]) hw (j := 0) rfl (fun _ => rfl) (by simp)) ⟨by simp; omega, by decide⟩ rfl fun A4 c4 => ?_))
      refine rdy1 (i := 8) (by decide +kernel) (sub_drop 5) ?_
      (first | refine aL rfl (f_append (k := 1) (i := Tryz.t3) (enc := encInt) (xs := t.es) 2 Tryz.underlying22 (by kernel_rfl) rfl rfl rfl rfl (fun _ => rfl) (fun _ => rfl) rfl rfl rfl (fun w hw => slAt_box (enc := encInt) (xs := [0]) hw (j := 0) rfl (fun _ => rfl) (by simp)) ⟨by simp; omega, by decide⟩ rfl fun A8 c8 => ?_) | refine aL rfl (f_append (k := 1) (i := Tryz.t3) (enc := encInt) (xs := t.es) 3 Tryz.underlying22 (by kernel_rfl) rfl rfl rfl rfl (fun _ => rfl) (fun _ => rfl) rfl rfl rfl (fun w hw => slAt_box (enc := encInt) (xs := [0]) hw (j := 1) rfl (fun _ => rfl) (by simp)) ⟨by simp; omega, by decide⟩ rfl fun A8 c8 => ?_))
      refine aV 9 (by decide +kernel) rfl (e_build Tryz.underlying63 fl63 Tryz.zeroValue63 (pt (v := .slice _ _ _) rfl (pt (v := .slice _ _ _) rfl E.p0)) rfl) rfl ?_
      refine rdy1 (i := 10) (by decide +kernel) (sub_drop 5) ?_
      refine aL rfl (f_st (v := .agg _) rfl rfl Tryz.sizeOf63 ?_)
      refine aZ (by decide +kernel) (sub_drop 5) ?_
      exact cutJ_normal ((b23, ⟨A4, c4, A8, c8⟩) : Nat × RYA) (by repeat (first | exact agree_self | exact agree_over | refine agree_upd rfl ?_ | refine agree_updL rfl ?_ | refine agree_over2 rfl ?_)) trivial (fun w hw => by have h1 := hw.pickN 9 [7, 4, 2, 8, 3] (by decide) (by decide); have h2 := h1.boxRow (j := 0) (b := b23) (e := 73) (n := 5) (enc := Lg.cells) (xs := [⟨ebike, ⟨eat, el⟩, zSpn⟩]) rfl (fun _ => rfl) (by simp); have h3 := h2.nilRow 75 4 Pz.cells (c := 0) rfl; exact h3) rfl trivial
  · rintro ⟨lb, ya⟩ g5 _
    refine thenJ_normal ?_
    refine H_ret ?_
    exact ret_of hmk (resc1 2 rfl rfl Tryz.isAgg63 Tryz.sizeOf63 rfl rfl) fun w' hw => ⟨⟨(ya, ⟨t.xs ++ [⟨newR ⟨ed, es, eat, el, ekind, ebike, epl, erd, erid⟩ x ⟨eat, el⟩, ⟨some ⟨lb, 0, none⟩, 1, none, 0⟩⟩], t.es ++ [0]⟩), by unfold beginR TR.plain spanE; simp⟩, rfl, by
      have h1 := hw.pickN 6 [1, 0, 4, 3, 5] (by decide) (by decide)
      have h2 := Mem.pushed (f := rdParts) (y := ⟨newR ⟨ed, es, eat, el, ekind, ebike, epl, erd, erid⟩ x ⟨eat, el⟩, ⟨some ⟨lb, 0, none⟩, 1, none, 0⟩⟩) (xs := t.xs) h1
      exact h2.pickN 3 [1, 0, 2] (by decide) (by decide)⟩
end

end Go.Proofs.Rid

/-
  The walks: the reference's story of rides: an end, a change.
-/
namespace Go.Proofs.Rid
open Go Go.RowKit Go.Proofs.E Go.Proofs.Cus

/-- the story with the k-th ride apart -/
abbrev stRK (a : RYA) (t : TR) (k : Nat) (x : RX) : List E.Item :=
  [rdRow a.rA a.rc t.xs, pzRow x.a.pA x.a.pc x.r.pauses, lgRow x.a.lA x.a.lc x.r.legs, inRow a.eA a.ec t.es, bag ((t.xs.eraseIdx k).flatMap rdParts)]
section
variable {a : RYA} {t : TR} {w0 w : World} {L : List E.Item} {k : Nat} {x : RX}
theorem ropenK (h : Mem w0 (stR a t ++ L) w) (hx : t.xs[k]? = some x) : Mem w0 (stRK a t k x ++ L) w := by
  have h1 := h.pickN 3 [1, 0, 2] (by decide) (by decide)
  have h2 := Mem.apart h1 hx
  exact h2.pickN 5 [3, 1, 0, 4, 2] (by decide) (by decide)
theorem rcloseK {es : List Int} (y : RX) (hk : k < t.xs.length) (h : Mem w0 ([rdRow a.rA a.rc (t.xs.set k y), pzRow y.a.pA y.a.pc y.r.pauses, lgRow y.a.lA y.a.lc y.r.legs, inRow a.eA a.ec es, bag ((t.xs.eraseIdx k).flatMap rdParts)] ++ L) w) : Mem w0 (stR a ⟨t.xs.set k y, es⟩ ++ L) w := by
  have h1 := h.pickN 5 [2, 1, 4, 0, 3] (by decide) (by decide)
  have h2 := Mem.joined (f := rdParts) (y := y) (xs := t.xs) (k := k) h1 hk
  exact h2.pickN 3 [1, 0, 2] (by decide) (by decide)
theorem row_again {A : Option Addr} {c : Nat} {xs : List RX} {y z : RX} (hk : xs[k]? = some x) (h : z.cells = y.cells) : rdRow A c (xs.set k y) = rdRow A c (xs.set k z) := by
  have h1 := rowT_same (e := 41) (n := 13) (c := c) (enc := RX.cells) (A := A) (k := k) (xs := xs.set k y) (x := y) (y := z) (set_self hk) h
  rw [List.set_set] at h1
  exact h1.symm
theorem plainR_getD (hx : t.xs[k]? = some x) : t.plain.rides.getD k default = x.r := getD_of (by unfold TR.plain; simp [hx])
set_option maxHeartbeats 2000000 in
set_option maxRecDepth 20000 in
theorem rfin_w (hw : Mem w0 (stR a t ++ L) w) (hmk : marks L = []) (hW : RW t) (hx : t.xs[k]? = some x) (e : Ev) :
    Calls Tryz.prog 44 #[.agg (ryV a t).toArray, .int .i64 k, .agg e.cells.toArray] w fun r w' => ∃ y : ROut (finishY t.plain k e), r = .returned (.agg (ryV y.1.1 y.1.2).toArray) ∧ Mem w0 (stR y.1.1 y.1.2 ++ L) w' := by
  have hi := (List.getElem?_eq_some_iff.1 hx).1
  have hlen := hW.len
  have hnum := hW.num
  have hlo := hW.legs x (List.mem_of_getElem? hx)
  obtain ⟨m, hm⟩ : ∃ m, t.es[k]? = some m := ⟨_, List.getElem?_eq_getElem (by omega)⟩
  have hm0 := hW.nn m (List.mem_of_getElem? hm)
  have hfd : finishY t.plain k e = ⟨(t.xs.map (·.r)).set k (finR x.r m e), t.es⟩ := by
    unfold finishY
    rw [plainR_getD hx, show t.plain.ended.getD k 0 = m from getD_of hm]; rfl
  rw [hfd]
  have hw2 := ropenK hw hx
  obtain ⟨rb, hrb⟩ := rowT_at (j := 0) hw2 rfl (by omega)
  obtain ⟨lb, hlb⟩ := rowT_at (j := 2) hw2 rfl hlo.1
  obtain ⟨eb, heb⟩ := rowT_at (j := 3) hw2 rfl (by omega)
  have hcl := fun (y : RX) (u : World) => rcloseK (a := a) (t := t) (w0 := w0) (w := u) (L := L) (es := t.es) (k := k) y hi
  obtain ⟨arA, arc, aeA, aec⟩ := a
  obtain ⟨xr, ⟨lA, lc, pA, pc⟩⟩ := x
  simp only at hrb hlb heb hlo hw2
  subst hrb
  subst hlb
  subst heb
  obtain ⟨g, hg⟩ : ∃ g, xr.legs[xr.legs.length - 1]? = some g := ⟨_, List.getElem?_eq_getElem (by omega)⟩
  obtain ⟨ed, es, eat, el, ekind, ebike, epl, erd, erid⟩ := e
  refine H_enterM hw2 hmk Tryz.func44 rfl Tryz.ntmps44 rfl ?_
  refine H_seq ?_
  refine R0 ?_
  refine X_box (v := .agg _) rfl rfl fun b3 => ?_
  refine X_box (v := .agg _) rfl rfl fun b5 => ?_
  refine X_alloc Tryz.zeroValue63 rfl fun b6 => ?_
  refine XN ?_
  refine thenJ_normal ?_
  refine H_seq ?_
  refine R0 ?_
  refine xV (e_fld Tryz.underlying57 rfl Tryz.sizeOf3 rfl (q0 rfl)) rfl rfl ?_
  refine xV (eL Tryz.isAgg3 (q0 rfl)) rfl rfl ?_
  refine xV (e_fld Tryz.underlying57 rfl Tryz.sizeOf3 rfl (q0 rfl)) rfl rfl ?_
  refine xV (eL Tryz.isAgg3 (q0 rfl)) rfl rfl ?_
  refine xV (e_build Tryz.underlying37 fl37 Tryz.zeroValue37 (pt (v := .int _ _) rfl (pt (v := .int _ _) rfl E.p0)) rfl) rfl rfl ?_
  refine X_alloc Tryz.zeroValue37 rfl fun b7 => ?_
  refine X_st (v := .agg _) rfl rfl Tryz.sizeOf37 ?_
  refine XN ?_
  refine thenJ_normal ?_
  refine H_seq ?_
  refine R0 ?_
  refine xV (e_fld Tryz.underlying63 rfl Tryz.sizeOf28 rfl (q0 rfl)) rfl rfl ?_
  refine xV (eL Tryz.isAgg28 (q0 rfl)) rfl rfl ?_
  refine xV (e_mv (v := .int _ _) (q0 rfl)) rfl rfl ?_
  refine xV (e_idx k Tryz.underlying28 Tryz.sizeOf41 (q0 rfl) (q0 rfl) (fun _ => ⟨rfl, hi⟩)) rfl rfl ?_
  refine xV (e_lds (vs := RX.cells ⟨xr, ⟨some ⟨lb, 0, none⟩, lc, pA, pc⟩⟩) Tryz.isAgg41 Tryz.sizeOf41 (q0 rfl) (rrs 4 rfl hx) rfl) rfl rfl ?_
  refine X_alloc Tryz.zeroValue41 rfl fun b8 => ?_
  refine X_st (v := .agg _) rfl rfl Tryz.sizeOf41 ?_
  refine XN ?_
  refine thenJ_normal ?_
  refine H_seq ?_
  refine R0 ?_
  refine xV (e_fld Tryz.underlying41 rfl Tryz.sizeOf4 rfl (q0 rfl)) rfl rfl ?_
  refine X_st (v := .bool _) rfl rfl Tryz.sizeOf4 ?_
  refine XN ?_
  refine thenJ_normal ?_
  refine H_seq ?_
  refine R0 ?_
  refine xV (eS Tryz.isAgg37 Tryz.sizeOf37 (q0 rfl)) rfl rfl ?_
  refine xV (e_fld Tryz.underlying41 rfl Tryz.sizeOf37 rfl (q0 rfl)) rfl rfl ?_
  refine X_st (v := .agg _) rfl rfl Tryz.sizeOf37 ?_
  refine XN ?_
  refine thenJ_normal ?_
  refine H_seq ?_
  refine R0 ?_
  refine xV (e_fld Tryz.underlying41 rfl Tryz.sizeOf38 rfl (q0 rfl)) rfl rfl ?_
  refine xV (eL Tryz.isAgg38 (q0 rfl)) rfl rfl ?_
  refine xV (e_fld Tryz.underlying41 rfl Tryz.sizeOf38 rfl (q0 rfl)) rfl rfl ?_
  refine xV (eL Tryz.isAgg38 (q0 rfl)) rfl rfl ?_
  refine xV (e_len Tryz.underlying38 (q0 rfl)) rfl rfl ?_
  refine xV (e_sub (r := ((xr.legs.length - 1 : Nat) : Int)) (q0 rfl) (q0 rfl) (fun _ => ⟨by first | omega | (simp only; omega), by first | omega | (simp only; omega), by first | omega | (simp only; omega)⟩)) rfl rfl ?_
  refine xV (eS Tryz.isAgg37 Tryz.sizeOf37 (q0 rfl)) rfl rfl ?_
  refine xV (e_idx (xr.legs.length - 1) Tryz.underlying38 Tryz.sizeOf73 (q0 rfl) (q0 rfl) (fun _ => ⟨rfl, by first | omega | (simp only; omega)⟩)) rfl rfl ?_
  refine xV (e_fld Tryz.underlying73 rfl Tryz.sizeOf37 rfl (q0 rfl)) rfl rfl ?_
  refine X_eff (f_storeR 7 (i := xr.legs.length - 1) (off := 3) { g with to_ := ⟨eat, el⟩ } rfl rfl Tryz.sizeOf37 rfl rfl rfl hg rfl rfl ?_)
  refine XN ?_
  refine thenJ_normal ?_
  refine H_seq ?_
  refine H_seq ?_
  refine R1 rfl (by decide +kernel) ?_
  refine xV (eS Tryz.isAgg41 Tryz.sizeOf41 (q0 rfl)) rfl rfl ?_
  refine xV (e_fld Tryz.underlying63 rfl Tryz.sizeOf22 rfl (q0 rfl)) rfl rfl ?_
  refine xV (eL Tryz.isAgg22 (q0 rfl)) rfl rfl ?_
  refine xV (e_mv (v := .int _ _) (q0 rfl)) rfl rfl ?_
  refine xV (e_idx k Tryz.underlying22 Tryz.sizeOf3 (q0 rfl) (q0 rfl) (fun _ => ⟨rfl, by first | omega | (simp only; omega)⟩)) rfl rfl ?_
  refine xV (e_ld (v := .int .i64 m) Tryz.isAgg3 (q0 rfl) (by exact rr0 8 (k := 1) (enc := encInt) rfl hm rfl)) rfl rfl ?_
  refine xC (en Tryz.call62 (ha2 (q0 rfl) (q0 rfl))) (fun _ w _ => rpaused_w ⟨{ xr with open_ := false, end_ := ⟨eat, el⟩ }, ⟨some ⟨lb, 0, none⟩, lc, pA, pc⟩⟩ m w) rfl rfl ?_
  refine XN ?_
  refine thenJ_normal ?_
  refine H_cut [38, 39, 40, 41, 42, 43, 44, 45, 46] (fun _ : List Pz => []) (fun ps => [box b8 41 (RX.cells ⟨{ xr with open_ := false, end_ := ⟨eat, el⟩ }, ⟨some ⟨lb, 0, none⟩, lc, pA, pc⟩⟩), box b7 37 [.int .i64 eat, .int .i64 el], box b6 63 [.slice none 0 0, .slice none 0 0], box b5 57 (Ev.cells ⟨ed, es, eat, el, ekind, ebike, epl, erd, erid⟩), box b3 63 (ryV ⟨some ⟨rb, 0, none⟩, arc, some ⟨eb, 0, none⟩, aec⟩ t), rdRow (some ⟨rb, 0, none⟩) arc t.xs, pzRow pA pc ps, lgRow (some ⟨lb, 0, none⟩) lc (xr.legs.set (xr.legs.length - 1) { g with to_ := ⟨eat, el⟩ }), inRow (some ⟨eb, 0, none⟩) aec t.es, bag ((t.xs.eraseIdx k).flatMap rdParts)] ++ L) (fun ps => ps = if pausedR xr m = true then endPz ⟨eat, el⟩ xr.pauses else xr.pauses) ?_ ?_
  · have _ht : True := trivial
    refine H_cond rfl (fun hp => ?_) (fun hp => ?_)
    · have hp' : pausedR xr m = true := hp
      have hpl : 0 < xr.pauses.length := by unfold pausedR at hp'; simp at hp'; omega
      obtain ⟨z, hz⟩ : ∃ z, xr.pauses[xr.pauses.length - 1]? = some z := ⟨_, List.getElem?_eq_getElem (by omega)⟩
      refine H_know (fun w hw => rowT_at (j := 6) hw rfl hpl) fun ⟨zb, hzb⟩ => ?_
      subst hzb
      refine R0 ?_
      refine xV (e_fld Tryz.underlying41 rfl Tryz.sizeOf39 rfl (q0 rfl)) rfl rfl ?_
      refine xV (eL Tryz.isAgg39 (q0 rfl)) rfl rfl ?_
      refine xV (e_fld Tryz.underlying41 rfl Tryz.sizeOf39 rfl (q0 rfl)) rfl rfl ?_
      refine xV (eL Tryz.isAgg39 (q0 rfl)) rfl rfl ?_
      refine xV (e_len Tryz.underlying39 (q0 rfl)) rfl rfl ?_
      refine xV (e_sub (r := ((xr.pauses.length - 1 : Nat) : Int)) (q0 rfl) (q0 rfl) (fun _ => ⟨by first | omega | (simp only; omega), by first | omega | (simp only; omega), by first | omega | (simp only; omega)⟩)) rfl rfl ?_
      refine xV (eS Tryz.isAgg37 Tryz.sizeOf37 (q0 rfl)) rfl rfl ?_
      refine xV (e_idx (xr.pauses.length - 1) Tryz.underlying39 Tryz.sizeOf75 (q0 rfl) (q0 rfl) (fun _ => ⟨rfl, by first | omega | (simp only; omega)⟩)) rfl rfl ?_
      refine xV (e_fld Tryz.underlying75 rfl Tryz.sizeOf37 rfl (q0 rfl)) rfl rfl ?_
      refine X_eff (f_storeR 6 (i := xr.pauses.length - 1) (off := 2) { z with to_ := ⟨eat, el⟩ } rfl rfl Tryz.sizeOf37 rfl rfl rfl hz rfl rfl ?_)
      refine XN ?_
      exact cutJ_normal (xr.pauses.set (xr.pauses.length - 1) { z with to_ := ⟨eat, el⟩ }) (by repeat (first | exact agree_self | exact agree_over | refine agree_upd rfl ?_ | refine agree_updL rfl ?_ | refine agree_over2 rfl ?_)) trivial (fun w hw => hw) rfl (by rw [if_pos hp', endPz_at hz])
    · have hp' : pausedR xr m = false := hp
      refine H_skip ?_
      exact cutJ_normal xr.pauses (by repeat (first | exact agree_self | exact agree_over | refine agree_upd rfl ?_ | refine agree_updL rfl ?_ | refine agree_over2 rfl ?_)) trivial (fun w hw => hw) rfl (by rw [if_neg (by rw [hp']; decide)])
  · rintro ps g5 hps
    have hpsl : ps.length = xr.pauses.length := by rw [hps]; split <;> simp [endPz_len]
    refine thenJ_normal ?_
    refine H_seq ?_
    refine R0 ?_
    refine xV (e_fld Tryz.underlying41 rfl Tryz.sizeOf3 rfl (q0 rfl)) rfl rfl ?_
    refine X_st (v := .int _ _) rfl rfl Tryz.sizeOf3 ?_
    refine xV (e_fld Tryz.underlying41 rfl Tryz.sizeOf3 rfl (q0 rfl)) rfl rfl ?_
    refine X_st (v := .int _ _) rfl rfl Tryz.sizeOf3 ?_
    refine XN ?_
    refine thenJ_normal ?_
    refine H_seq ?_
    refine H_seq ?_
    refine R0 ?_
    refine xV (e_fld Tryz.underlying57 rfl Tryz.sizeOf3 rfl (q0 rfl)) rfl rfl ?_
    refine xV (eL Tryz.isAgg3 (q0 rfl)) rfl rfl ?_
    refine xV (e_eq (q0 rfl) (q0 rfl)) rfl rfl ?_
    refine XN ?_
    refine thenJ_normal ?_
    refine H_cut [52, 53, 54, 55] (fun _ : Int × Int => []) (fun s => [box b8 41 (RX.cells ⟨{ xr with open_ := false, end_ := ⟨eat, el⟩, wh := s.1, pl := s.2 }, ⟨some ⟨lb, 0, none⟩, lc, pA, pc⟩⟩), box b7 37 [.int .i64 eat, .int .i64 el], box b6 63 [.slice none 0 0, .slice none 0 0], box b5 57 (Ev.cells ⟨ed, es, eat, el, ekind, ebike, epl, erd, erid⟩), box b3 63 (ryV ⟨some ⟨rb, 0, none⟩, arc, some ⟨eb, 0, none⟩, aec⟩ t), rdRow (some ⟨rb, 0, none⟩) arc t.xs, pzRow pA pc ps, lgRow (some ⟨lb, 0, none⟩) lc (xr.legs.set (xr.legs.length - 1) { g with to_ := ⟨eat, el⟩ }), inRow (some ⟨eb, 0, none⟩) aec t.es, bag ((t.xs.eraseIdx k).flatMap rdParts)] ++ L) (fun s => s = if ekind = 1 then (1, epl) else (6, 0)) ?_ ?_
    · have _ht : True := trivial
      refine H_cond rfl (fun hk1 => ?_) (fun hk1 => ?_)
      · have hk1' : ekind = 1 := by simpa using hk1
        refine RAd 1 rfl (by decide +kernel) ?_
        refine aV 0 (by decide +kernel) rfl (e_fld Tryz.underlying57 rfl Tryz.sizeOf3 rfl (q0 rfl)) rfl ?_
        refine aV 1 (by decide +kernel) rfl (eL Tryz.isAgg3 (q0 rfl)) rfl ?_
        refine aV 2 (by decide +kernel) rfl (e_fld Tryz.underlying41 rfl Tryz.sizeOf3 rfl (q0 rfl)) rfl ?_
        refine rdy1 (i := 3) (by decide +kernel) (sub_drop 1) ?_
        refine aL rfl (f_st (v := .int _ _) rfl rfl Tryz.sizeOf3 ?_)
        refine aV 4 (by decide +kernel) rfl (e_fld Tryz.underlying41 rfl Tryz.sizeOf3 rfl (q0 rfl)) rfl ?_
        refine rdy1 (i := 5) (by decide +kernel) (sub_drop 1) ?_
        refine aL rfl (f_st (v := .int _ _) rfl rfl Tryz.sizeOf3 ?_)
        refine aZ (by decide +kernel) (sub_drop 1) ?_
        exact cutJ_normal (1, epl) (by repeat (first | exact agree_self | exact agree_over | refine agree_upd rfl ?_ | refine agree_updL rfl ?_ | refine agree_over2 rfl ?_)) trivial (fun w hw => hw) rfl (by rw [if_pos hk1'])
      · have hk1' : ¬ ekind = 1 := by simpa using hk1
        refine H_skip ?_
        exact cutJ_normal (6, 0) (by repeat (first | exact agree_self | exact agree_over | refine agree_upd rfl ?_ | refine agree_updL rfl ?_ | refine agree_over2 rfl ?_)) trivial (fun w hw => hw) rfl (by rw [if_neg hk1'])
    · rintro s1 g6 hs1
      refine thenJ_normal ?_
      refine H_seq ?_
      refine H_seq ?_
      refine R0 ?_
      refine xV (e_fld Tryz.underlying57 rfl Tryz.sizeOf3 rfl (q0 rfl)) rfl rfl ?_
      refine xV (eL Tryz.isAgg3 (q0 rfl)) rfl rfl ?_
      refine xV (e_eq (q0 rfl) (q0 rfl)) rfl rfl ?_
      refine XN ?_
      refine thenJ_normal ?_
      refine H_cut [59, 60, 61, 62] (fun _ : Int × Int => []) (fun s => [box b8 41 (RX.cells ⟨{ xr with open_ := false, end_ := ⟨eat, el⟩, wh := s.1, pl := s.2 }, ⟨some ⟨lb, 0, none⟩, lc, pA, pc⟩⟩), box b7 37 [.int .i64 eat, .int .i64 el], box b6 63 [.slice none 0 0, .slice none 0 0], box b5 57 (Ev.cells ⟨ed, es, eat, el, ekind, ebike, epl, erd, erid⟩), box b3 63 (ryV ⟨some ⟨rb, 0, none⟩, arc, some ⟨eb, 0, none⟩, aec⟩ t), rdRow (some ⟨rb, 0, none⟩) arc t.xs, pzRow pA pc ps, lgRow (some ⟨lb, 0, none⟩) lc (xr.legs.set (xr.legs.length - 1) { g with to_ := ⟨eat, el⟩ }), inRow (some ⟨eb, 0, none⟩) aec t.es, bag ((t.xs.eraseIdx k).flatMap rdParts)] ++ L) (fun s => s = if ekind = 2 then (2, epl) else if ekind = 1 then (1, epl) else (6, 0)) ?_ ?_
      · have _ht : True := trivial
        refine H_cond rfl (fun hk2 => ?_) (fun hk2 => ?_)
        · have hk2' : ekind = 2 := by simpa using hk2
          refine RAd 1 rfl (by decide +kernel) ?_
          refine aV 0 (by decide +kernel) rfl (e_fld Tryz.underlying57 rfl Tryz.sizeOf3 rfl (q0 rfl)) rfl ?_
          refine aV 1 (by decide +kernel) rfl (eL Tryz.isAgg3 (q0 rfl)) rfl ?_
          refine aV 2 (by decide +kernel) rfl (e_fld Tryz.underlying41 rfl Tryz.sizeOf3 rfl (q0 rfl)) rfl ?_
          refine rdy1 (i := 3) (by decide +kernel) (sub_drop 1) ?_
          refine aL rfl (f_st (v := .int _ _) rfl rfl Tryz.sizeOf3 ?_)
          refine aV 4 (by decide +kernel) rfl (e_fld Tryz.underlying41 rfl Tryz.sizeOf3 rfl (q0 rfl)) rfl ?_
          refine rdy1 (i := 5) (by decide +kernel) (sub_drop 1) ?_
          refine aL rfl (f_st (v := .int _ _) rfl rfl Tryz.sizeOf3 ?_)
          refine aZ (by decide +kernel) (sub_drop 1) ?_
          exact cutJ_normal (2, epl) (by repeat (first | exact agree_self | exact agree_over | refine agree_upd rfl ?_ | refine agree_updL rfl ?_ | refine agree_over2 rfl ?_)) trivial (fun w hw => hw) rfl (by rw [if_pos hk2'])
        · have hk2' : ¬ ekind = 2 := by simpa using hk2
          refine H_skip ?_
          exact cutJ_normal s1 (by repeat (first | exact agree_self | exact agree_over | refine agree_upd rfl ?_ | refine agree_updL rfl ?_ | refine agree_over2 rfl ?_)) trivial (fun w hw => hw) rfl (by rw [if_neg hk2', hs1])
      · rintro ⟨wh, pl⟩ g7 hs2
        have hfin : finR xr m ⟨ed, es, eat, el, ekind, ebike, epl, erd, erid⟩ = { xr with legs := xr.legs.set (xr.legs.length - 1) { g with to_ := ⟨eat, el⟩ }, pauses := ps, open_ := false, end_ := ⟨eat, el⟩, wh := wh, pl := pl } := by
          have hw1 : wh = (endWh ⟨ed, es, eat, el, ekind, ebike, epl, erd, erid⟩).where_ ∧ pl = (endWh ⟨ed, es, eat, el, ekind, ebike, epl, erd, erid⟩).place := by
            unfold endWh
            simp only
            by_cases h2 : ekind = 2
            · rw [if_pos h2] at hs2; rw [if_pos h2]; cases hs2; exact ⟨rfl, rfl⟩
            · rw [if_neg h2] at hs2; rw [if_neg h2]
              by_cases h1 : ekind = 1
              · rw [if_pos h1] at hs2; rw [if_pos h1]; cases hs2; exact ⟨rfl, rfl⟩
              · rw [if_neg h1] at hs2; rw [if_neg h1]; cases hs2; exact ⟨rfl, rfl⟩
          rw [hw1.1, hw1.2, hps]
          unfold finR finishR spanE
          by_cases hp : pausedR xr m = true
          · simp only [if_pos hp]; rw [endLeg_at hg]
          · simp only [if_neg hp]; rw [endLeg_at hg]
        refine thenJ_normal ?_
        refine H_seq ?_
        refine R0 ?_
        refine xV (e_fld Tryz.underlying63 rfl Tryz.sizeOf28 rfl (q0 rfl)) rfl rfl ?_
        refine xV (eL Tryz.isAgg28 (q0 rfl)) rfl rfl ?_
        refine xV (e_mv (v := .int _ _) (q0 rfl)) rfl rfl ?_
        refine xV (eS Tryz.isAgg41 Tryz.sizeOf41 (q0 rfl)) rfl rfl ?_
        refine xV (e_idx k Tryz.underlying28 Tryz.sizeOf41 (q0 rfl) (q0 rfl) (fun _ => ⟨rfl, hi⟩)) rfl rfl ?_
        refine X_eff (f_storeR0 5 ⟨{ xr with open_ := false, end_ := ⟨eat, el⟩, wh := wh, pl := pl }, ⟨some ⟨lb, 0, none⟩, lc, pA, pc⟩⟩ rfl rfl Tryz.sizeOf41 rfl rfl rfl hx rfl rfl ?_)
        refine XN ?_
        refine thenJ_normal ?_
        refine H_seq ?_
        refine R0 ?_
        refine xV (eS Tryz.isAgg63 Tryz.sizeOf63 (q0 rfl)) rfl rfl ?_
        refine X_st (v := .agg _) rfl rfl Tryz.sizeOf63 ?_
        refine XN ?_
        refine thenJ_normal ?_
        refine H_ret ?_
        exact ret_of hmk (resc1 2 rfl rfl Tryz.isAgg63 Tryz.sizeOf63 rfl rfl) fun w' hw => ⟨⟨(⟨some ⟨rb, 0, none⟩, arc, some ⟨eb, 0, none⟩, aec⟩, ⟨t.xs.set k ⟨finR xr m ⟨ed, es, eat, el, ekind, ebike, epl, erd, erid⟩, ⟨some ⟨lb, 0, none⟩, lc, pA, pc⟩⟩, t.es⟩), by unfold TR.plain; rw [map_setR]⟩, ret_ry (by simp) (by simp), hcl ⟨finR xr m ⟨ed, es, eat, el, ekind, ebike, epl, erd, erid⟩, ⟨some ⟨lb, 0, none⟩, lc, pA, pc⟩⟩ w' (by
          rw [hfin]
          have h1 := hw.pickN 10 [5, 6, 7, 8, 9] (by decide) (by decide)
          have e1 : rdRow (some ⟨rb, 0, none⟩) arc (t.xs.set k ⟨{ xr with legs := xr.legs.set (xr.legs.length - 1) { g with to_ := ⟨eat, el⟩ }, pauses := ps, open_ := false, end_ := ⟨eat, el⟩, wh := wh, pl := pl }, ⟨some ⟨lb, 0, none⟩, lc, pA, pc⟩⟩) = rdRow (some ⟨rb, 0, none⟩) arc (t.xs.set k ⟨{ xr with open_ := false, end_ := ⟨eat, el⟩, wh := wh, pl := pl }, ⟨some ⟨lb, 0, none⟩, lc, pA, pc⟩⟩) := row_again hx (by simp [RX.cells, Rd.cellsAt, hpsl])
          simp only
          rw [e1]
          exact h1)⟩
end

end Go.Proofs.Rid

/-
  The walks: the reference's story of rides: a change.
-/
namespace Go.Proofs.Rid
open Go Go.RowKit Go.Proofs.E Go.Proofs.Cus

theorem rds_short {w0 w : World} {L : List E.Item} {A : Option Addr} {c : Nat} {xs : List RX} (hw : Mem w0 L w) (j k : Nat) (hj : L[j]? = some (rdRow A c xs)) (hk : L[k]? = some (rdBag xs)) (hn : xs.length ≤ 1000) (hl : ∀ x ∈ xs, 0 < x.r.legs.length ∧ x.r.legs.length ≤ 1000 ∧ x.r.pauses.length ≤ 1000) : RdsAt w A xs.length xs :=
  rds_out (l := xs.map (·.r)) ⟨(A, c, xs), rfl⟩ hw j k hj hk (by simp; omega) fun r hr => by
    obtain ⟨x, hx, rfl⟩ := List.mem_map.1 hr
    have := hl x hx
    omega
section
variable {a : RYA} {t : TR} {w0 w : World} {L : List E.Item}
set_option maxHeartbeats 4000000 in
set_option maxRecDepth 20000 in
theorem rchg_w (hw : Mem w0 (stR a t ++ L) w) (hmk : marks L = []) (hW : RW t) (e : Ev) (h4 : e.kind = 4 → ∃ k, foundI t.plain.rides e.ride = some k) (h6 : e.kind = 6 → ∀ (k : Nat) x, t.xs[k]? = some x → openI t.plain.rides e.bike = some k → 0 < x.r.pauses.length) :
    Calls Tryz.prog 26 #[.agg (ryV a t).toArray, .agg e.cells.toArray] w fun r w' => ∃ y : ROut (changeR t.plain e), r = .returned (.agg (ryV y.1.1 y.1.2).toArray) ∧ Mem w0 (stR y.1.1 y.1.2 ++ L) w' := by
  have hlen := hW.len
  have hnum := hW.num
  have hlegs := hW.legs
  have hpr : t.plain.rides = t.xs.map (·.r) := rfl
  obtain ⟨ed, es, eat, el, ekind, ebike, epl, erd, erid⟩ := e
  simp only at h4 h6
  have hch : changeR t.plain ⟨ed, es, eat, el, ekind, ebike, epl, erd, erid⟩ = if ekind = 4 then (match foundI t.plain.rides erid with | none => t.plain | some i => ⟨t.plain.rides.set i (swapR ebike ⟨eat, el⟩ (t.plain.rides.getD i default)), t.plain.ended⟩) else (match openI t.plain.rides ebike with
    | none => t.plain
    | some i =>
      if ekind = 5 then ⟨t.plain.rides.set i (pauseR ⟨eat, el⟩ (t.plain.rides.getD i default)), t.plain.ended⟩
      else if ekind = 6 then ⟨t.plain.rides.set i { t.plain.rides.getD i default with pauses := endPz ⟨eat, el⟩ (t.plain.rides.getD i default).pauses }, t.plain.ended.set i (t.plain.ended.getD i 0 + 1)⟩
      else if ekind = 1 ∨ ekind = 2 ∨ ekind = 9 then finishY t.plain i ⟨ed, es, eat, el, ekind, ebike, epl, erd, erid⟩
      else t.plain) := rfl
  rw [hch]
  clear hch
  refine H_enterM hw hmk Tryz.func26 rfl Tryz.ntmps26 rfl ?_
  refine H_seq ?_
  refine R0 ?_
  refine X_box (v := .agg _) rfl rfl fun b2 => ?_
  refine X_box (v := .agg _) rfl rfl fun b3 => ?_
  refine X_alloc Tryz.zeroValue63 rfl fun b4 => ?_
  refine XN ?_
  refine thenJ_normal ?_
  refine H_seq ?_
  refine R0 ?_
  refine xV (e_fld Tryz.underlying57 rfl Tryz.sizeOf3 rfl (q0 rfl)) rfl rfl ?_
  refine xV (eL Tryz.isAgg3 (q0 rfl)) rfl rfl ?_
  refine xV (e_fld Tryz.underlying57 rfl Tryz.sizeOf3 rfl (q0 rfl)) rfl rfl ?_
  refine xV (eL Tryz.isAgg3 (q0 rfl)) rfl rfl ?_
  refine xV (e_build Tryz.underlying37 fl37 Tryz.zeroValue37 (pt (v := .int _ _) rfl (pt (v := .int _ _) rfl E.p0)) rfl) rfl rfl ?_
  refine X_alloc Tryz.zeroValue37 rfl fun b5 => ?_
  refine X_st (v := .agg _) rfl rfl Tryz.sizeOf37 ?_
  refine XN ?_
  refine thenJ_normal ?_
  refine H_seq ?_
  refine H_seq ?_
  refine R0 ?_
  refine xV (e_fld Tryz.underlying57 rfl Tryz.sizeOf3 rfl (q0 rfl)) rfl rfl ?_
  refine xV (eL Tryz.isAgg3 (q0 rfl)) rfl rfl ?_
  refine xV (e_eq (q0 rfl) (q0 rfl)) rfl rfl ?_
  refine XN ?_
  refine thenJ_normal ?_
  refine H_cond rfl (fun hk4 => ?_) (fun hk4 => ?_)
  · have hk4' : ekind = 4 := by simpa using hk4
    obtain ⟨k, hfk⟩ := h4 hk4'
    rw [if_pos hk4', hfk]
    simp only
    have hkx : k < t.xs.length := by
      have := (List.findIdx?_eq_some_iff_getElem.1 hfk).1
      simpa [TR.plain] using this
    obtain ⟨x, hx⟩ : ∃ x, t.xs[k]? = some x := ⟨_, List.getElem?_eq_getElem hkx⟩
    have hfd := fun (w : World) (h : RdsAt w a.rA t.xs.length t.xs) => by
      have h1 := rfound_w a.rA t.xs.length a.rc t.xs erid w h
      rw [fnd_foundI, ← hpr, hfk] at h1
      exact h1
    have hlo := hW.legs x (List.mem_of_getElem? hx)
    have hop := fun (X : List E.Item) (w : World) (h : Mem w0 (stR a t ++ X) w) => ropenK h hx
    have hcl := fun (A : Option Addr) (c : Nat) (y : RX) (u : World) => rcloseK (a := ⟨A, c, a.eA, a.ec⟩) (t := t) (w0 := w0) (w := u) (L := L) (es := t.es) (k := k) y hkx
    refine H_seq ?_
    refine R0 ?_
    refine xV (e_fld Tryz.underlying63 rfl Tryz.sizeOf28 rfl (q0 rfl)) rfl rfl ?_
    refine xV (eL Tryz.isAgg28 (q0 rfl)) rfl rfl ?_
    refine xV (e_fld Tryz.underlying57 rfl Tryz.sizeOf3 rfl (q0 rfl)) rfl rfl ?_
    refine xV (eL Tryz.isAgg3 (q0 rfl)) rfl rfl ?_
    refine xC (en Tryz.call42 (ha2 (q0 rfl) (q0 rfl))) (fun _ w hw => hfd w (rds_short hw 4 5 rfl rfl hnum hlegs)) rfl rfl ?_
    refine xV (e_as (v := .int _ _) (q0 rfl)) rfl rfl ?_
    refine XN ?_
    refine thenJ_normal ?_
    refine H_seq ?_
    refine H_mem (fun w hw => hop _ w (Mem.rot (X := [_, _, _, _]) (S := stR a t) hw)) rfl ?_
    refine H_know (fun w hw => rowT_at (j := 0) hw rfl (by omega)) fun ⟨rb, hrb⟩ => ?_
    refine H_know (fun w hw => rowT_at (j := 2) hw rfl hlo.1) fun ⟨lb, hlb⟩ => ?_
    obtain ⟨arA, arc, aeA, aec⟩ := a
    obtain ⟨xr, ⟨lA, lc, pA, pc⟩⟩ := x
    simp only at hrb hlb hlo
    subst hrb
    subst hlb
    obtain ⟨g, hg⟩ : ∃ g, xr.legs[xr.legs.length - 1]? = some g := ⟨_, List.getElem?_eq_getElem (by omega)⟩
    have hsw : swapR ebike ⟨eat, el⟩ xr = { xr with legs := xr.legs.set (xr.legs.length - 1) { g with to_ := ⟨eat, el⟩ } ++ [⟨ebike, ⟨eat, el⟩, zSpn⟩] } := by unfold swapR; rw [endLeg_at hg]
    refine R0 ?_
    refine xV (e_fld Tryz.underlying63 rfl Tryz.sizeOf28 rfl (q0 rfl)) rfl rfl ?_
    refine xV (eL Tryz.isAgg28 (q0 rfl)) rfl rfl ?_
    refine xV (e_mv (v := .int _ _) (q0 rfl)) rfl rfl ?_
    refine xV (e_idx k Tryz.underlying28 Tryz.sizeOf41 (q0 rfl) (q0 rfl) (fun _ => ⟨rfl, hkx⟩)) rfl rfl ?_
    refine xV (e_lds (vs := RX.cells ⟨xr, ⟨some ⟨lb, 0, none⟩, lc, pA, pc⟩⟩) Tryz.isAgg41 Tryz.sizeOf41 (q0 rfl) (rrs 0 rfl hx) rfl) rfl rfl ?_
    refine X_alloc Tryz.zeroValue41 rfl fun b7 => ?_
    refine X_st (v := .agg _) rfl rfl Tryz.sizeOf41 ?_
    refine XN ?_
    refine thenJ_normal ?_
    refine H_seq ?_
    refine R0 ?_
    refine xV (e_fld Tryz.underlying41 rfl Tryz.sizeOf38 rfl (q0 rfl)) rfl rfl ?_
    refine xV (eL Tryz.isAgg38 (q0 rfl)) rfl rfl ?_
    refine xV (e_fld Tryz.underlying41 rfl Tryz.sizeOf38 rfl (q0 rfl)) rfl rfl ?_
    refine xV (eL Tryz.isAgg38 (q0 rfl)) rfl rfl ?_
    refine xV (e_len Tryz.underlying38 (q0 rfl)) rfl rfl ?_
    refine xV (e_sub (r := ((xr.legs.length - 1 : Nat) : Int)) (q0 rfl) (q0 rfl) (fun _ => ⟨by first | omega | (simp only; omega), by first | omega | (simp only; omega), by first | omega | (simp only; omega)⟩)) rfl rfl ?_
    refine xV (eS Tryz.isAgg37 Tryz.sizeOf37 (q0 rfl)) rfl rfl ?_
    refine xV (e_idx (xr.legs.length - 1) Tryz.underlying38 Tryz.sizeOf73 (q0 rfl) (q0 rfl) (fun _ => ⟨rfl, by first | omega | (simp only; omega)⟩)) rfl rfl ?_
    refine xV (e_fld Tryz.underlying73 rfl Tryz.sizeOf37 rfl (q0 rfl)) rfl rfl ?_
    refine X_eff (f_storeR 3 (i := xr.legs.length - 1) (off := 3) { g with to_ := ⟨eat, el⟩ } rfl rfl Tryz.sizeOf37 rfl rfl rfl hg rfl rfl ?_)
    refine XN ?_
    refine thenJ_normal ?_
    refine H_seq ?_
    refine R0 ?_
    refine xV (e_fld Tryz.underlying41 rfl Tryz.sizeOf38 rfl (q0 rfl)) rfl rfl ?_
    refine xV (eL Tryz.isAgg38 (q0 rfl)) rfl rfl ?_
    refine xV (e_fld Tryz.underlying57 rfl Tryz.sizeOf3 rfl (q0 rfl)) rfl rfl ?_
    refine xV (eL Tryz.isAgg3 (q0 rfl)) rfl rfl ?_
    refine xV (eS Tryz.isAgg37 Tryz.sizeOf37 (q0 rfl)) rfl rfl ?_
    refine xV (e_build Tryz.underlying73 fl73 Tryz.zeroValue73 (pt (v := .int _ _) rfl (pt (v := .agg _) rfl E.p0)) rfl) rfl rfl ?_
    refine X_push (k := 5) (i := Tryz.t73) (xs := xr.legs.set (xr.legs.length - 1) { g with to_ := ⟨eat, el⟩ }) 3 ((⟨ebike, ⟨eat, el⟩, zSpn⟩ : Lg)) Tryz.underlying38 (by kernel_rfl) rfl rfl rfl rfl Tryz.sizeOf73 Tryz.zeroValue73 rfl rfl rfl (by rw [List.length_set]; rfl) rfl rfl ⟨by simp; omega, by decide⟩ rfl rfl fun B6 A1 c1 => ?_
    refine xV (e_fld Tryz.underlying41 rfl Tryz.sizeOf38 rfl (q0 rfl)) rfl rfl ?_
    refine X_st (v := .slice _ _ _) rfl rfl Tryz.sizeOf38 ?_
    refine XN ?_
    refine thenJ_normal ?_
    refine H_seq ?_
    refine R0 ?_
    refine xV (e_fld Tryz.underlying63 rfl Tryz.sizeOf28 rfl (q0 rfl)) rfl rfl ?_
    refine xV (eL Tryz.isAgg28 (q0 rfl)) rfl rfl ?_
    refine xV (e_mv (v := .int _ _) (q0 rfl)) rfl rfl ?_
    refine xV (eS Tryz.isAgg41 Tryz.sizeOf41 (q0 rfl)) rfl rfl ?_
    refine xV (e_idx k Tryz.underlying28 Tryz.sizeOf41 (q0 rfl) (q0 rfl) (fun _ => ⟨rfl, hkx⟩)) rfl rfl ?_
    refine X_eff (f_storeR0 1 ⟨{ xr with legs := xr.legs.set (xr.legs.length - 1) { g with to_ := ⟨eat, el⟩ } ++ [⟨ebike, ⟨eat, el⟩, zSpn⟩] }, ⟨A1, c1, pA, pc⟩⟩ rfl rfl Tryz.sizeOf41 rfl rfl rfl hx rfl rfl ?_)
    refine XN ?_
    refine thenJ_normal ?_
    refine H_seq ?_
    refine R0 ?_
    refine xV (eS Tryz.isAgg63 Tryz.sizeOf63 (q0 rfl)) rfl rfl ?_
    refine X_st (v := .agg _) rfl rfl Tryz.sizeOf63 ?_
    refine XN ?_
    refine thenJ_normal ?_
    refine H_ret ?_
    refine thenJ_ret ?_
    exact ret_of hmk (resc1 7 rfl rfl Tryz.isAgg63 Tryz.sizeOf63 rfl rfl) fun w' hw => ⟨⟨(⟨some ⟨rb, 0, none⟩, arc, aeA, aec⟩, ⟨t.xs.set k ⟨{ xr with legs := xr.legs.set (xr.legs.length - 1) { g with to_ := ⟨eat, el⟩ } ++ [⟨ebike, ⟨eat, el⟩, zSpn⟩] }, ⟨A1, c1, pA, pc⟩⟩, t.es⟩), by rw [plainR_getD hx, hsw]; unfold TR.plain; rw [map_setR]⟩, ret_ry (by simp) (by simp), hcl _ _ ⟨{ xr with legs := xr.legs.set (xr.legs.length - 1) { g with to_ := ⟨eat, el⟩ } ++ [⟨ebike, ⟨eat, el⟩, zSpn⟩] }, ⟨A1, c1, pA, pc⟩⟩ w' (hw.pickN 10 [1, 2, 3, 4, 5] (by decide) (by decide))⟩
  · have hk4' : ¬ ekind = 4 := by simpa using hk4
    rw [if_neg hk4']
    have hopn := fun (w : World) (h : RdsAt w a.rA t.xs.length t.xs) => by
      have h1 := ropen_w a.rA t.xs.length a.rc t.xs ebike w h (fun x hx => ⟨(hlegs x hx).1, (hlegs x hx).2.1⟩)
      rw [← hpr] at h1
      exact h1
    cases hok : openI t.plain.rides ebike with
    | none =>
      rw [hok] at hopn
      simp only
      refine H_skip ?_
      refine thenJ_normal ?_
      refine H_seq ?_
      refine R0 ?_
      refine xV (e_fld Tryz.underlying63 rfl Tryz.sizeOf28 rfl (q0 rfl)) rfl rfl ?_
      refine xV (eL Tryz.isAgg28 (q0 rfl)) rfl rfl ?_
      refine xV (e_fld Tryz.underlying57 rfl Tryz.sizeOf3 rfl (q0 rfl)) rfl rfl ?_
      refine xV (eL Tryz.isAgg3 (q0 rfl)) rfl rfl ?_
      refine xC (en Tryz.call43 (ha2 (q0 rfl) (q0 rfl))) (fun _ w hw => hopn w (rds_short hw 4 5 rfl rfl hnum hlegs)) rfl rfl ?_
      refine xV (e_as (v := .int _ _) (q0 rfl)) rfl rfl ?_
      refine XN ?_
      refine thenJ_normal ?_
      refine H_seq ?_
      refine H_seq ?_
      refine R0 ?_
      refine xV (e_mv (v := .int _ _) (q0 rfl)) rfl rfl ?_
      refine xV (e_lt (q0 rfl) (q0 rfl)) rfl rfl ?_
      refine XN ?_
      refine thenJ_normal ?_
      refine H_cond rfl (fun hneg => ?_) (fun hneg => ?_)
      · refine H_seq ?_
        refine R0 ?_
        refine xV (eS Tryz.isAgg63 Tryz.sizeOf63 (q0 rfl)) rfl rfl ?_
        refine X_st (v := .agg _) rfl rfl Tryz.sizeOf63 ?_
        refine XN ?_
        refine thenJ_normal ?_
        refine H_ret ?_
        refine thenJ_ret ?_
        exact ret_of hmk (resc1 1 rfl rfl Tryz.isAgg63 Tryz.sizeOf63 rfl rfl) fun w' hw => ⟨⟨(a, t), rfl⟩, rfl, Mem.cutX (X := [_, _, _, _]) (L := stR a t ++ L) hw⟩
      · exact absurd hneg (by decide)
    | some k =>
      rw [hok] at hopn
      simp only
      have hkx : k < t.xs.length := by
        have := (List.findIdx?_eq_some_iff_getElem.1 hok).1
        simpa [TR.plain] using this
      obtain ⟨x, hx⟩ : ∃ x, t.xs[k]? = some x := ⟨_, List.getElem?_eq_getElem hkx⟩
      have hlo := hW.legs x (List.mem_of_getElem? hx)
      obtain ⟨m, hm⟩ : ∃ m, t.es[k]? = some m := ⟨_, List.getElem?_eq_getElem (by omega)⟩
      have hm0 := hW.nn m (List.mem_of_getElem? hm)
      have hmd : t.plain.ended.getD k 0 = m := getD_of hm
      have hop := fun (X : List E.Item) (w : World) (h : Mem w0 (stR a t ++ X) w) => ropenK h hx
      rw [plainR_getD hx, hmd]
      have h6' := fun h => h6 h k x hx hok
      refine H_skip ?_
      refine thenJ_normal ?_
      refine H_seq ?_
      refine R0 ?_
      refine xV (e_fld Tryz.underlying63 rfl Tryz.sizeOf28 rfl (q0 rfl)) rfl rfl ?_
      refine xV (eL Tryz.isAgg28 (q0 rfl)) rfl rfl ?_
      refine xV (e_fld Tryz.underlying57 rfl Tryz.sizeOf3 rfl (q0 rfl)) rfl rfl ?_
      refine xV (eL Tryz.isAgg3 (q0 rfl)) rfl rfl ?_
      refine xC (en Tryz.call43 (ha2 (q0 rfl) (q0 rfl))) (fun _ w hw => hopn w (rds_short hw 4 5 rfl rfl hnum hlegs)) rfl rfl ?_
      refine xV (e_as (v := .int _ _) (q0 rfl)) rfl rfl ?_
      refine XN ?_
      refine thenJ_normal ?_
      refine H_seq ?_
      refine H_seq ?_
      refine R0 ?_
      refine xV (e_mv (v := .int _ _) (q0 rfl)) rfl rfl ?_
      refine xV (e_lt (q0 rfl) (q0 rfl)) rfl rfl ?_
      refine XN ?_
      refine thenJ_normal ?_
      refine H_cond rfl (fun hneg => ?_) (fun hneg => ?_)
      · exact absurd (of_decide_eq_true hneg) (by show ¬ ((k : Int) < 0); omega)
      · refine H_skip ?_
        refine thenJ_normal ?_
        refine H_seq ?_
        refine H_seq ?_
        refine R0 ?_
        refine xV (e_fld Tryz.underlying57 rfl Tryz.sizeOf3 rfl (q0 rfl)) rfl rfl ?_
        refine xV (eL Tryz.isAgg3 (q0 rfl)) rfl rfl ?_
        refine XN ?_
        refine thenJ_normal ?_
        refine H_block ?_
        refine H_seq ?_
        refine R0 ?_
        refine xV (e_eq (q0 rfl) (q0 rfl)) rfl rfl ?_
        refine xV (e_as (v := .bool _) (q0 rfl)) rfl rfl ?_
        refine XN ?_
        refine thenJ_normal ?_
        refine H_cond rfl (fun hk5 => ?_) (fun hk5 => ?_)
        · have hk5' : ekind = 5 := by simpa using hk5
          rw [if_pos hk5']
          refine H_mem (fun w hw => hop _ w (Mem.rot (X := [_, _, _, _]) (S := stR a t) hw)) rfl ?_
          refine H_know (fun w hw => rowT_at (j := 0) hw rfl (by omega)) fun ⟨rb, hrb⟩ => ?_
          have hcl := fun (y : RX) (u : World) => rcloseK (a := a) (t := t) (w0 := w0) (w := u) (L := L) (es := t.es) (k := k) y hkx
          obtain ⟨arA, arc, aeA, aec⟩ := a
          obtain ⟨xr, ⟨lA, lc, pA, pc⟩⟩ := x
          simp only at hrb hlo
          subst hrb
          refine H_cut [63, 64, 65, 66, 67, 68, 69, 70, 71, 72, 73, 74, 75, 76, 77] (fun _ : Option Addr × Nat => []) (fun s => [rdRow (some ⟨rb, 0, none⟩) arc (t.xs.set k ⟨pauseR ⟨eat, el⟩ xr, ⟨lA, lc, s.1, s.2⟩⟩), pzRow s.1 s.2 (xr.pauses ++ [⟨⟨eat, el⟩, zSpn⟩]), lgRow lA lc xr.legs, inRow aeA aec t.es, bag ((t.xs.eraseIdx k).flatMap rdParts), box b5 37 [.int .i64 eat, .int .i64 el], box b4 63 [.slice none 0 0, .slice none 0 0], box b3 57 (Ev.cells ⟨ed, es, eat, el, ekind, ebike, epl, erd, erid⟩), box b2 63 (ryV ⟨some ⟨rb, 0, none⟩, arc, aeA, aec⟩ t)] ++ L) (fun _ => True) ?_ ?_
          · refine RAd 2 rfl (by decide +kernel) ?_
            refine aV 0 (by decide +kernel) rfl (e_fld Tryz.underlying63 rfl Tryz.sizeOf28 rfl (q0 rfl)) rfl ?_
            refine aV 1 (by decide +kernel) rfl (eL Tryz.isAgg28 (q0 rfl)) rfl ?_
            refine aV 2 (by decide +kernel) rfl (e_mv (v := .int _ _) (q0 rfl)) rfl ?_
            refine aV 3 (by decide +kernel) rfl (e_fld Tryz.underlying63 rfl Tryz.sizeOf28 rfl (q0 rfl)) rfl ?_
            refine aV 4 (by decide +kernel) rfl (eL Tryz.isAgg28 (q0 rfl)) rfl ?_
            refine aV 5 (by decide +kernel) rfl (e_mv (v := .int _ _) (q0 rfl)) rfl ?_
            refine aV 6 (by decide +kernel) rfl (e_idx k Tryz.underlying28 Tryz.sizeOf41 (q0 rfl) (q0 rfl) (fun _ => ⟨rfl, hkx⟩)) rfl ?_
            refine aV 7 (by decide +kernel) rfl (e_fld Tryz.underlying41 rfl Tryz.sizeOf39 rfl (q0 rfl)) rfl ?_
            refine aV 9 (by decide +kernel) rfl (eS Tryz.isAgg37 Tryz.sizeOf37 (q0 rfl)) rfl ?_
            refine aV 10 (by decide +kernel) rfl (e_build Tryz.underlying75 fl75 Tryz.zeroValue75 (pt (v := .agg _) rfl E.p0) rfl) rfl ?_
            refine rdy2 (i := 8) (j := 11) (by decide +kernel) (sub_drop 2) ?_ ?_
            · refine aL rfl (f_ev (e_ld (v := .slice pA xr.pauses.length pc) Tryz.isAgg39 (q0 rfl) (by first | exact rr 0 (r := 8) rfl hx rfl | exact rr 1 (r := 8) rfl hx rfl)) rfl rfl ?_)
              refine rdy1 (i := 11) (by decide +kernel) (sub_drop 2) ?_
              refine aL rfl (f_slit [(.int .i64 0), (.int .i64 0), (.int .i64 0), (.int .i64 0)] Tryz.underlying39 Tryz.sizeOf75 Tryz.zeroValue75 rfl (by kernel_rfl) (pt (v := .agg _) rfl E.p0) rfl rfl fun b74 => ?_)
              refine rdy1 (i := 12) (by decide +kernel) (sub_drop 3) ?_
              refine aL rfl (f_append (k := 4) (i := Tryz.t75) (enc := Pz.cells) (xs := xr.pauses) 2 Tryz.underlying39 (by kernel_rfl) rfl rfl rfl rfl (fun _ => rfl) (fun _ => rfl) rfl rfl rfl (fun w hw => slAt_box (enc := Pz.cells) (xs := [⟨⟨eat, el⟩, zSpn⟩]) hw (j := 0) rfl (fun _ => rfl) (by simp)) ⟨by simp; omega, by decide⟩ rfl fun A1 c1 => ?_)
              refine aV 13 (by decide +kernel) rfl (e_idx k Tryz.underlying28 Tryz.sizeOf41 (q0 rfl) (q0 rfl) (fun _ => ⟨rfl, hkx⟩)) rfl ?_
              refine aV 14 (by decide +kernel) rfl (e_fld Tryz.underlying41 rfl Tryz.sizeOf39 rfl (q0 rfl)) rfl ?_
              refine rdy1 (i := 15) (by decide +kernel) (sub_drop 3) ?_
              refine aL rfl (f_storeR 1 (i := k) (off := 8) ⟨pauseR ⟨eat, el⟩ xr, ⟨lA, lc, A1, c1⟩⟩ rfl rfl Tryz.sizeOf39 rfl rfl rfl hx rfl rfl ?_)
              refine aZ (by decide +kernel) (sub_drop 3) ?_
              exact cutJ_normal ((A1, c1) : Option Addr × Nat) (by repeat (first | exact agree_self | exact agree_over | refine agree_upd rfl ?_ | refine agree_updL rfl ?_ | refine agree_over2 rfl ?_)) trivial (fun w hw => hw.tail) rfl trivial
            · refine aL rfl (f_slit [(.int .i64 0), (.int .i64 0), (.int .i64 0), (.int .i64 0)] Tryz.underlying39 Tryz.sizeOf75 Tryz.zeroValue75 rfl (by kernel_rfl) (pt (v := .agg _) rfl E.p0) rfl rfl fun b74 => ?_)
              refine rdy1 (i := 8) (by decide +kernel) (sub_drop 3) ?_
              refine aL rfl (f_ev (e_ld (v := .slice pA xr.pauses.length pc) Tryz.isAgg39 (q0 rfl) (by first | exact rr 0 (r := 8) rfl hx rfl | exact rr 1 (r := 8) rfl hx rfl)) rfl rfl ?_)
              refine rdy1 (i := 12) (by decide +kernel) (sub_drop 3) ?_
              refine aL rfl (f_append (k := 4) (i := Tryz.t75) (enc := Pz.cells) (xs := xr.pauses) 2 Tryz.underlying39 (by kernel_rfl) rfl rfl rfl rfl (fun _ => rfl) (fun _ => rfl) rfl rfl rfl (fun w hw => slAt_box (enc := Pz.cells) (xs := [⟨⟨eat, el⟩, zSpn⟩]) hw (j := 0) rfl (fun _ => rfl) (by simp)) ⟨by simp; omega, by decide⟩ rfl fun A1 c1 => ?_)
              refine aV 13 (by decide +kernel) rfl (e_idx k Tryz.underlying28 Tryz.sizeOf41 (q0 rfl) (q0 rfl) (fun _ => ⟨rfl, hkx⟩)) rfl ?_
              refine aV 14 (by decide +kernel) rfl (e_fld Tryz.underlying41 rfl Tryz.sizeOf39 rfl (q0 rfl)) rfl ?_
              refine rdy1 (i := 15) (by decide +kernel) (sub_drop 3) ?_
              refine aL rfl (f_storeR 1 (i := k) (off := 8) ⟨pauseR ⟨eat, el⟩ xr, ⟨lA, lc, A1, c1⟩⟩ rfl rfl Tryz.sizeOf39 rfl rfl rfl hx rfl rfl ?_)
              refine aZ (by decide +kernel) (sub_drop 3) ?_
              exact cutJ_normal ((A1, c1) : Option Addr × Nat) (by repeat (first | exact agree_self | exact agree_over | refine agree_upd rfl ?_ | refine agree_updL rfl ?_ | refine agree_over2 rfl ?_)) trivial (fun w hw => hw.tail) rfl trivial
          · rintro ⟨A1, c1⟩ g5 _
            refine blockJ_normal ?_
            refine thenJ_normal ?_
            refine H_seq ?_
            refine R0 ?_
            refine xV (eS Tryz.isAgg63 Tryz.sizeOf63 (q0 rfl)) rfl rfl ?_
            refine X_st (v := .agg _) rfl rfl Tryz.sizeOf63 ?_
            refine XN ?_
            refine thenJ_normal ?_
            refine H_ret ?_
            exact ret_of hmk (resc1 6 rfl rfl Tryz.isAgg63 Tryz.sizeOf63 rfl rfl) fun w' hw => ⟨⟨(⟨some ⟨rb, 0, none⟩, arc, aeA, aec⟩, ⟨t.xs.set k ⟨pauseR ⟨eat, el⟩ xr, ⟨lA, lc, A1, c1⟩⟩, t.es⟩), by unfold TR.plain; rw [map_setR]⟩, ret_ry (by simp) (by simp), hcl ⟨pauseR ⟨eat, el⟩ xr, ⟨lA, lc, A1, c1⟩⟩ w' (hw.pickN 9 [0, 1, 2, 3, 4] (by decide) (by decide))⟩
        · have hk5' : ¬ ekind = 5 := by simpa using hk5
          rw [if_neg hk5']
          refine H_seq ?_
          refine R0 ?_
          refine xV (e_eq (q0 rfl) (q0 rfl)) rfl rfl ?_
          refine xV (e_as (v := .bool _) (q0 rfl)) rfl rfl ?_
          refine XN ?_
          refine thenJ_normal ?_
          refine H_cond rfl (fun hk6 => ?_) (fun hk6 => ?_)
          · have hk6' : ekind = 6 := by simpa using hk6
            rw [if_pos hk6']
            have hpl := h6' hk6'
            refine H_seq ?_
            refine H_mem (fun w hw => hop _ w (Mem.rot (X := [_, _, _, _]) (S := stR a t) hw)) rfl ?_
            refine H_know (fun w hw => rowT_at (j := 0) hw rfl (by omega)) fun ⟨rb, hrb⟩ => ?_
            refine H_know (fun w hw => rowT_at (j := 1) hw rfl hpl) fun ⟨zb, hzb⟩ => ?_
            refine H_know (fun w hw => rowT_at (j := 3) hw rfl (by omega)) fun ⟨eb, heb⟩ => ?_
            have hcl := fun (y : RX) (u : World) => rcloseK (a := a) (t := t) (w0 := w0) (w := u) (L := L) (es := t.es.set k (m + 1)) (k := k) y hkx
            obtain ⟨arA, arc, aeA, aec⟩ := a
            obtain ⟨xr, ⟨lA, lc, pA, pc⟩⟩ := x
            simp only at hrb hzb heb hlo hpl
            subst hrb
            subst hzb
            subst heb
            obtain ⟨z, hz⟩ : ∃ z, xr.pauses[xr.pauses.length - 1]? = some z := ⟨_, List.getElem?_eq_getElem (by omega)⟩
            refine E.RT rfl rfl (by decide +kernel) ?_
            refine xV (e_fld Tryz.underlying63 rfl Tryz.sizeOf28 rfl (q0 rfl)) rfl rfl ?_
            refine xV (eL Tryz.isAgg28 (q0 rfl)) rfl rfl ?_
            refine xV (e_mv (v := .int _ _) (q0 rfl)) rfl rfl ?_
            refine xV (e_idx k Tryz.underlying28 Tryz.sizeOf41 (q0 rfl) (q0 rfl) (fun _ => ⟨rfl, hkx⟩)) rfl rfl ?_
            refine xV (e_fld Tryz.underlying41 rfl Tryz.sizeOf39 rfl (q0 rfl)) rfl rfl ?_
            refine xV (e_ld (v := .slice (some ⟨zb, 0, none⟩) xr.pauses.length pc) Tryz.isAgg39 (q0 rfl) (by exact rr 0 (r := 8) rfl hx rfl)) rfl rfl ?_
            refine xV (e_fld Tryz.underlying63 rfl Tryz.sizeOf28 rfl (q0 rfl)) rfl rfl ?_
            refine xV (eL Tryz.isAgg28 (q0 rfl)) rfl rfl ?_
            refine xV (e_mv (v := .int _ _) (q0 rfl)) rfl rfl ?_
            refine xV (e_idx k Tryz.underlying28 Tryz.sizeOf41 (q0 rfl) (q0 rfl) (fun _ => ⟨rfl, hkx⟩)) rfl rfl ?_
            refine xV (e_fld Tryz.underlying41 rfl Tryz.sizeOf39 rfl (q0 rfl)) rfl rfl ?_
            refine xV (e_ld (v := .slice (some ⟨zb, 0, none⟩) xr.pauses.length pc) Tryz.isAgg39 (q0 rfl) (by exact rr 0 (r := 8) rfl hx rfl)) rfl rfl ?_
            refine xV (e_len Tryz.underlying39 (q0 rfl)) rfl rfl ?_
            refine xV (e_sub (r := ((xr.pauses.length - 1 : Nat) : Int)) (q0 rfl) (q0 rfl) (fun _ => ⟨by first | omega | (simp only; omega), by first | omega | (simp only; omega), by first | omega | (simp only; omega)⟩)) rfl rfl ?_
            refine xV (eS Tryz.isAgg37 Tryz.sizeOf37 (q0 rfl)) rfl rfl ?_
            refine xV (e_idx (xr.pauses.length - 1) Tryz.underlying39 Tryz.sizeOf75 (q0 rfl) (q0 rfl) (fun _ => ⟨rfl, by first | omega | (simp only; omega)⟩)) rfl rfl ?_
            refine xV (e_fld Tryz.underlying75 rfl Tryz.sizeOf37 rfl (q0 rfl)) rfl rfl ?_
            refine XN ?_
            refine thenJ_normal ?_
            refine X_eff (f_storeR 1 (i := xr.pauses.length - 1) (off := 2) { z with to_ := ⟨eat, el⟩ } rfl rfl Tryz.sizeOf37 rfl rfl rfl hz rfl rfl ?_)
            refine XN ?_
            refine thenJ_normal ?_
            refine R0 ?_
            refine xV (e_fld Tryz.underlying63 rfl Tryz.sizeOf22 rfl (q0 rfl)) rfl rfl ?_
            refine xV (eL Tryz.isAgg22 (q0 rfl)) rfl rfl ?_
            refine xV (e_mv (v := .int _ _) (q0 rfl)) rfl rfl ?_
            refine xV (e_idx k Tryz.underlying22 Tryz.sizeOf3 (q0 rfl) (q0 rfl) (fun _ => ⟨rfl, by first | omega | (simp only; omega)⟩)) rfl rfl ?_
            refine xV (e_ld (v := .int .i64 m) Tryz.isAgg3 (q0 rfl) (by exact rr0 3 (k := 1) (enc := encInt) rfl hm rfl)) rfl rfl ?_
            refine xV (e_add (q0 rfl) (q0 rfl) (fun _ => ⟨rfl, by omega, by omega⟩)) rfl rfl ?_
            refine xV (e_idx k Tryz.underlying22 Tryz.sizeOf3 (q0 rfl) (q0 rfl) (fun _ => ⟨rfl, by first | omega | (simp only; omega)⟩)) rfl rfl ?_
            refine X_eff (f_storeR0 3 (k := 1) (enc := encInt) (m + 1) rfl rfl Tryz.sizeOf3 rfl rfl rfl hm rfl rfl ?_)
            refine XN ?_
            refine blockJ_normal ?_
            refine thenJ_normal ?_
            refine H_seq ?_
            refine R0 ?_
            refine xV (eS Tryz.isAgg63 Tryz.sizeOf63 (q0 rfl)) rfl rfl ?_
            refine X_st (v := .agg _) rfl rfl Tryz.sizeOf63 ?_
            refine XN ?_
            refine thenJ_normal ?_
            refine H_ret ?_
            exact ret_of hmk (resc1 6 rfl rfl Tryz.isAgg63 Tryz.sizeOf63 rfl rfl) fun w' hw => ⟨⟨(⟨some ⟨rb, 0, none⟩, arc, some ⟨eb, 0, none⟩, aec⟩, ⟨t.xs.set k ⟨{ xr with pauses := endPz ⟨eat, el⟩ xr.pauses }, ⟨lA, lc, some ⟨zb, 0, none⟩, pc⟩⟩, t.es.set k (m + 1)⟩), by unfold TR.plain; rw [map_setR]⟩, ret_ry (by simp) (by simp), hcl ⟨{ xr with pauses := endPz ⟨eat, el⟩ xr.pauses }, ⟨lA, lc, some ⟨zb, 0, none⟩, pc⟩⟩ w' (by
              have h1 := hw.pickN 9 [0, 1, 2, 3, 4] (by decide) (by decide)
              have e1 : rdRow (some ⟨rb, 0, none⟩) arc (t.xs.set k ⟨{ xr with pauses := endPz ⟨eat, el⟩ xr.pauses }, ⟨lA, lc, some ⟨zb, 0, none⟩, pc⟩⟩) = rdRow (some ⟨rb, 0, none⟩) arc t.xs := rowT_same hx (by simp [RX.cells, Rd.cellsAt, endPz_len])
              rw [e1]
              simp only
              rw [endPz_at hz]
              exact h1)⟩
          · have hk6' : ¬ ekind = 6 := by simpa using hk6
            rw [if_neg hk6']
            refine H_seq ?_
            refine H_seq ?_
            refine R0 ?_
            refine xV (e_eq (q0 rfl) (q0 rfl)) rfl rfl ?_
            refine xV (e_as (v := .bool _) (q0 rfl)) rfl rfl ?_
            refine XN ?_
            refine thenJ_normal ?_
            refine H_cut [104, 106, 107] (fun c : Bool => [(104, .bool c)]) (fun _ => [box b5 37 [.int .i64 eat, .int .i64 el], box b4 63 [.slice none 0 0, .slice none 0 0], box b3 57 (Ev.cells ⟨ed, es, eat, el, ekind, ebike, epl, erd, erid⟩), box b2 63 (ryV a t)] ++ (stR a t ++ L)) (fun c => c = true ↔ (ekind = 1 ∨ ekind = 2 ∨ ekind = 9)) ?_ ?_
            · have _ht : True := trivial
              refine H_cond rfl (fun hk1 => ?_) (fun hk1 => ?_)
              · have hk1' : ekind = 1 := by simpa using hk1
                refine H_skip ?_
                exact cutJ_normal true (by repeat (first | exact agree_self | exact agree_over | refine agree_upd rfl ?_ | refine agree_updL rfl ?_ | refine agree_over2 rfl ?_)) ⟨by show Value.bool (decide (ekind = 1)) = _; rw [hk1], trivial⟩ (fun w hw => hw) rfl (by simp [hk1'])
              · have hk1' : ¬ ekind = 1 := by simpa using hk1
                refine H_seq ?_
                refine R0 ?_
                refine xV (e_eq (q0 rfl) (q0 rfl)) rfl rfl ?_
                refine xV (e_as (v := .bool _) (q0 rfl)) rfl rfl ?_
                refine XN ?_
                refine thenJ_normal ?_
                refine H_cond rfl (fun hk2 => ?_) (fun hk2 => ?_)
                · have hk2' : ekind = 2 := by simpa using hk2
                  refine H_skip ?_
                  exact cutJ_normal true (by repeat (first | exact agree_self | exact agree_over | refine agree_upd rfl ?_ | refine agree_updL rfl ?_ | refine agree_over2 rfl ?_)) ⟨by show Value.bool (decide (ekind = 2)) = _; rw [hk2], trivial⟩ (fun w hw => hw) rfl (by simp [hk2'])
                · have hk2' : ¬ ekind = 2 := by simpa using hk2
                  refine R0 ?_
                  refine xV (e_eq (q0 rfl) (q0 rfl)) rfl rfl ?_
                  refine xV (e_as (v := .bool _) (q0 rfl)) rfl rfl ?_
                  refine XN ?_
                  exact cutJ_normal (decide (ekind = 9)) (by repeat (first | exact agree_self | exact agree_over | refine agree_upd rfl ?_ | refine agree_updL rfl ?_ | refine agree_over2 rfl ?_)) ⟨rfl, trivial⟩ (fun w hw => hw) rfl (by simp [hk1', hk2'])
            · rintro c g5 hc
              refine thenJ_normal ?_
              refine H_cond rfl (fun hcc => ?_) (fun hcc => ?_)
              · rw [if_pos (hc.1 hcc)]
                refine H_seq ?_
                refine R0 ?_
                refine xV (eS Tryz.isAgg63 Tryz.sizeOf63 (q0 rfl)) rfl rfl ?_
                refine xV (e_mv (v := .int _ _) (q0 rfl)) rfl rfl ?_
                refine xV (eS Tryz.isAgg57 Tryz.sizeOf57 (q0 rfl)) rfl rfl ?_
                refine X_eff (f_callM (en Tryz.call44 (ha3 (q0 rfl) (q0 rfl) (q0 rfl))) (fun w hw => rfin_w (L := [_, _, _, _] ++ L) (Mem.rot (X := [_, _, _, _]) (S := stR a t) hw) hmk hW hx ⟨ed, es, eat, el, ekind, ebike, epl, erd, erid⟩) rfl (fun _ => rfl) fun u => ?_)
                refine X_st (v := .agg _) rfl rfl Tryz.sizeOf63 ?_
                refine XN ?_
                refine thenJ_normal ?_
                refine H_ret ?_
                refine blockJ_ret ?_
                refine thenJ_ret ?_
                exact ret_of hmk (resc1 4 rfl rfl Tryz.isAgg63 Tryz.sizeOf63 rfl rfl) fun w' hw => ⟨u, rfl, hw.pickN 7 [0, 1, 2] (by decide) (by decide)⟩
              · rw [if_neg (fun h => by rw [hc.2 h] at hcc; cases hcc)]
                refine H_skip ?_
                refine blockJ_normal ?_
                refine thenJ_normal ?_
                refine H_seq ?_
                refine R0 ?_
                refine xV (eS Tryz.isAgg63 Tryz.sizeOf63 (q0 rfl)) rfl rfl ?_
                refine X_st (v := .agg _) rfl rfl Tryz.sizeOf63 ?_
                refine XN ?_
                refine thenJ_normal ?_
                refine H_ret ?_
                exact ret_of hmk (resc1 1 rfl rfl Tryz.isAgg63 Tryz.sizeOf63 rfl rfl) fun w' hw => ⟨⟨(a, t), rfl⟩, rfl, Mem.cutX (X := [_, _, _, _]) (L := stR a t ++ L) hw⟩
end

end Go.Proofs.Rid

/-
  The walks: the reference's rides, sorted; all of them.
-/
namespace Go.Proofs.Rid
open Go Go.RowKit Go.Proofs.E Go.Proofs.Cus

def insX (out : List RX) (x : RX) : List RX := out.takeWhile (fun y => decide (y.r.id < x.r.id)) ++ x :: out.dropWhile (fun y => decide (y.r.id < x.r.id))
def sortX (l : List RX) : List RX := l.foldl insX []
theorem take_map {p : Rd → Bool} : ∀ l : List RX, (l.map (·.r)).takeWhile p = (l.takeWhile fun y => p y.r).map (·.r) ∧ (l.map (·.r)).dropWhile p = (l.dropWhile fun y => p y.r).map (·.r)
  | [] => ⟨rfl, rfl⟩
  | y :: l => by
    obtain ⟨h1, h2⟩ := take_map (p := p) l
    simp only [List.map_cons, List.takeWhile_cons, List.dropWhile_cons]
    cases h : p y.r with
    | true => exact ⟨by simp [h1], by simp [h2]⟩
    | false => exact ⟨by simp, by simp⟩
theorem insX_map (out : List RX) (x : RX) : (insX out x).map (·.r) = insR (out.map (·.r)) x.r := by
  obtain ⟨h1, h2⟩ := take_map (p := fun y => decide (y.id < x.r.id)) out
  unfold insX insR
  rw [h1, h2, List.map_append, List.map_cons]
theorem foldX_map : ∀ (l out : List RX), (l.foldl insX out).map (·.r) = (l.map (·.r)).foldl insR (out.map (·.r))
  | [], _ => rfl
  | x :: l, out => by
    rw [List.foldl_cons, foldX_map l, insX_map]; rfl
theorem sortX_map (l : List RX) : (sortX l).map (·.r) = sortedR (l.map (·.r)) := foldX_map l []
theorem insX_perm (out : List RX) (x : RX) : (insX out x).Perm (out ++ [x]) := by
  unfold insX
  refine List.perm_middle.trans ?_
  rw [List.takeWhile_append_dropWhile]
  exact (List.perm_append_singleton x out).symm
theorem foldX_perm : ∀ (l out : List RX), (l.foldl insX out).Perm (out ++ l)
  | [], out => by simp
  | x :: l, out => by
    refine (foldX_perm l (insX out x)).trans ?_
    have := (insX_perm out x).append_right l
    simpa using this
theorem sortX_perm (l : List RX) : (sortX l).Perm l := by unfold sortX; simpa using foldX_perm l []

theorem take_whileX {p : RX → Bool} : ∀ {l : List RX} {k : Nat}, k ≤ l.length → (l.take k).all p = true → (∀ x, l[k]? = some x → p x = false) → l.takeWhile p = l.take k ∧ l.dropWhile p = l.drop k
  | [], k, hk, _, _ => by simp
  | a :: l, 0, _, _, h => by
    have := h a rfl
    simp [this]
  | a :: l, k + 1, hk, ha, h => by
    simp only [List.take_succ_cons, List.all_cons, Bool.and_eq_true] at ha
    have := take_whileX (l := l) (k := k) (by simpa using hk) ha.2 (fun x hx => h x (by simpa using hx))
    simp [ha.1, this]
set_option maxHeartbeats 1000000 in
set_option maxRecDepth 20000 in
theorem rsorted_w (A : Option Addr) (n c : Nat) (xs : List RX) (w : World) (hx : SlAt w 13 RX.cells A n xs) (hn : n ≤ 1000) : Calls Tryz.prog 27 #[.slice A n c] w fun e w' => ∃ x : Option Addr × Nat, e = .returned (.slice x.1 (sortX xs).length x.2) ∧ Mem w [rdRow x.1 x.2 (sortX xs)] w' := by
  have hl := hx.1
  obtain ⟨T, hT⟩ : ∃ T : Nat → List RX, ∀ k, T k = (xs.take k).foldl insX [] := ⟨_, fun _ => rfl⟩
  have hT0 : T 0 = [] := by rw [hT]; rfl
  have hTn : sortX xs = T n := by rw [hT, ← hl, List.take_length]; rfl
  have hTs : ∀ k x, xs[k]? = some x → T (k + 1) = insX (T k) x := fun k x h => by rw [hT, hT, take_snoc _ _ _ h, List.foldl_append]; rfl
  have hTl : ∀ k, (T k).length ≤ k := fun k => by
    rw [hT, (foldX_perm _ _).length_eq]; simp; omega
  rw [hTn]
  refine H_enter Tryz.func27 rfl Tryz.ntmps27 rfl ?_
  refine H_seq ?_
  refine R0 ?_
  refine xV (e_as (v := .slice _ _ _) (q0 rfl)) rfl rfl ?_
  refine XN ?_
  refine thenJ_normal ?_
  refine H_seq ?_
  refine R0 ?_
  refine xV (e_as (v := .slice _ _ _) (q0 rfl)) rfl rfl ?_
  refine XN ?_
  refine thenJ_normal ?_
  refine H_seq ?_
  refine H_seq ?_
  refine R0 ?_
  refine xV (e_as (v := .int _ _) (q0 rfl)) rfl rfl ?_
  refine XN ?_
  refine thenJ_normal ?_
  refine H_block ?_
  refine H_loop [3, 4, 5, 6, 7, 8, 9, 10, 11, 12, 13, 14, 15, 16, 17, 18, 19, 20, 21, 22, 23, 24, 25, 26, 27, 28, 29, 30, 31, 32, 33, 34, 35, 36, 37, 38, 39, 40, 41, 42, 43, 44, 45, 46, 47] (fun s : Nat × Option Addr × Nat => [(4, .int .i64 s.1), (3, .slice s.2.1 (T s.1).length s.2.2)]) (fun s => [rdRow s.2.1 s.2.2 (T s.1)]) (fun s => s.1 ≤ n) (fun s => n - s.1) (0, none, 0) ⟨rfl, by rw [hT0]; rfl, trivial⟩ (fun w hw => by rw [hT0]; exact hw.nilRow _ _ _ rfl) rfl (Nat.zero_le _) ?_
  rintro ⟨i, oA, oc⟩ g hi
  simp only at hi
  refine H_seq ?_
  refine H_seq ?_
  refine R0 ?_
  refine xV (e_mv (v := .int _ _) (q0 rfl)) rfl rfl ?_
  refine xV (e_mv (v := .slice _ _ _) (q0 rfl)) rfl rfl ?_
  refine xV (e_len Tryz.underlying28 (q0 rfl)) rfl rfl ?_
  refine xV (e_lt (q0 rfl) (q0 rfl)) rfl rfl ?_
  refine XN ?_
  refine thenJ_normal ?_
  refine H_cond rfl (fun hlt => ?_) (fun hlt => ?_)
  · have hlt' : i < n := by simpa using hlt
    obtain ⟨b, off, y, rfl, hbl, hy, hry⟩ := hx.at_ hlt'
    have hst := hTs i y hy
    have hll := hTl i
    generalize T i = out at *
    refine H_skip ?_
    refine thenJ_normal ?_
    refine H_seq ?_
    refine H_block ?_
    refine H_seq ?_
    refine R0 ?_
    refine xV (e_as (v := .int _ _) (q0 rfl)) rfl rfl ?_
    refine XN ?_
    refine thenJ_normal ?_
    refine H_seq ?_
    refine H_block ?_
    refine H_know (fun w hw => rowT_cap (j := 0) hw rfl) fun hcap => ?_
    refine H_loop [5, 13, 14, 15, 16, 17, 18, 19, 20, 21, 22, 23, 24, 25, 26, 27, 28, 29, 30, 31] (fun k : Nat => [(5, .int .i64 k)]) (fun _ => [rdRow oA oc out]) (fun k => k ≤ out.length ∧ (out.take k).all (fun z => decide (z.r.id < y.r.id)) = true) (fun k => out.length - k) 0 ⟨rfl, trivial⟩ (fun _ h => h) rfl ⟨Nat.zero_le _, rfl⟩ ?_
    rintro k g2 ⟨hk, hall⟩
    refine H_seq ?_
    refine H_seq ?_
    refine H_cut [13, 14, 15, 16, 17, 18, 19, 20, 21, 22, 23, 24, 25, 26, 27, 28, 29] (fun _ : Unit => [(29, .bool (decide (k < out.length) && out[k]?.any (fun z => decide (z.r.id < y.r.id))))]) (fun _ => [rdRow oA oc out]) (fun _ => True) ?_ ?_
    · have _ht : True := trivial
      by_cases hlt2 : k < out.length
      case neg =>
        have hd : decide ((k : Int) < (out.length : Int)) = false := by simp; omega
        refine R1 rfl (by decide +kernel) ?_
        refine xV (e_mv (v := .int _ _) (q0 rfl)) rfl rfl ?_
        refine xV (e_mv (v := .slice _ _ _) (q0 rfl)) rfl rfl ?_
        refine xV (e_len Tryz.underlying28 (q0 rfl)) rfl rfl ?_
        refine xV (e_lt (q0 rfl) (q0 rfl)) rfl rfl ?_
        refine xV (e_mv (v := .bool _) (q0 rfl)) rfl rfl ?_
        refine xVT (e_dead (v := .slice none 0 0) (hd)) rfl rfl rfl rfl ?_
        refine xVT (e_dead (v := .int .i64 0) (hd)) rfl rfl rfl rfl ?_
        refine xVT (e_dead (v := .pointer none) (hd)) rfl rfl rfl rfl ?_
        refine xVT (e_dead (v := .pointer none) (hd)) rfl rfl rfl rfl ?_
        refine xVT (e_dead (v := .int .i64 0) (hd)) rfl rfl rfl rfl ?_
        refine xVT (e_dead (v := .slice none 0 0) (hd)) rfl rfl rfl rfl ?_
        refine xVT (e_dead (v := .int .i64 0) (hd)) rfl rfl rfl rfl ?_
        refine xVT (e_dead (v := .pointer none) (hd)) rfl rfl rfl rfl ?_
        refine xVT (e_dead (v := .pointer none) (hd)) rfl rfl rfl rfl ?_
        refine xVT (e_dead (v := .int .i64 0) (hd)) rfl rfl rfl rfl ?_
        refine xVT (e_dead (v := .bool false) (hd)) rfl rfl rfl rfl ?_
        refine xV (e_and (q0 rfl) rfl (fun h => by first | rfl | (rw [h]; rfl))) rfl rfl ?_
        refine XN ?_
        exact cutJ_normal () (by repeat (first | exact agree_self | exact agree_over | refine agree_upd rfl ?_ | refine agree_updL rfl ?_ | refine agree_over2 rfl ?_)) ⟨by show Value.bool (decide ((k : Int) < (out.length : Int)) && _) = _; rw [hd]; simp [hlt2], trivial⟩ (fun w hw => hw) rfl trivial
      case pos =>
        obtain ⟨z, hz⟩ : ∃ z, out[k]? = some z := ⟨_, List.getElem?_eq_getElem hlt2⟩
        refine H_know (fun w hw => rowT_at (j := 0) hw rfl (by omega)) fun ⟨b4, hb4⟩ => ?_
        subst hb4
        refine R1 rfl (by decide +kernel) ?_
        refine xV (e_mv (v := .int _ _) (q0 rfl)) rfl rfl ?_
        refine xV (e_mv (v := .slice _ _ _) (q0 rfl)) rfl rfl ?_
        refine xV (e_len Tryz.underlying28 (q0 rfl)) rfl rfl ?_
        refine xV (e_lt (q0 rfl) (q0 rfl)) rfl rfl ?_
        refine xV (e_mv (v := .bool _) (q0 rfl)) rfl rfl ?_
        refine xVT (e_mv (v := .slice _ _ _) (q0 rfl)) rfl rfl rfl rfl ?_
        refine xVT (e_mv (v := .int _ _) (q0 rfl)) rfl rfl rfl rfl ?_
        refine xVT (e_idx k Tryz.underlying28 Tryz.sizeOf41 (q1 rfl) (q1 rfl) (fun _ => ⟨rfl, hlt2⟩)) rfl rfl rfl rfl ?_
        refine xVT (e_fld Tryz.underlying41 rfl Tryz.sizeOf3 rfl (q1 rfl)) rfl rfl rfl rfl ?_
        refine xVT (e_ld (v := .int .i64 z.r.id) Tryz.isAgg3 (q1 rfl) (by exact rr 0 (r := 0) rfl hz rfl)) rfl rfl rfl rfl ?_
        refine xVT (e_mv (v := .slice _ _ _) (q0 rfl)) rfl rfl rfl rfl ?_
        refine xVT (e_mv (v := .int _ _) (q0 rfl)) rfl rfl rfl rfl ?_
        refine xVT (e_idx i Tryz.underlying28 Tryz.sizeOf41 (q1 rfl) (q1 rfl) (fun _ => ⟨rfl, by omega⟩)) rfl rfl rfl rfl ?_
        refine xVT (e_fld Tryz.underlying41 rfl Tryz.sizeOf3 rfl (q1 rfl)) rfl rfl rfl rfl ?_
        refine xVT (eL Tryz.isAgg3 (q1 rfl)) rfl rfl rfl rfl ?_
        refine xVT (e_lt (q1 rfl) (q1 rfl)) rfl rfl rfl rfl ?_
        refine xV (e_and (q0 rfl) rfl (fun h => by first | rfl | (rw [h]; rfl))) rfl rfl ?_
        refine XN ?_
        exact cutJ_normal () (by repeat (first | exact agree_self | exact agree_over | refine agree_upd rfl ?_ | refine agree_updL rfl ?_ | refine agree_over2 rfl ?_)) ⟨by show Value.bool (decide ((k : Int) < (out.length : Int)) && decide (z.r.id < y.r.id)) = _; rw [hz]; simp [hlt2], trivial⟩ (fun w hw => hw) rfl trivial
    · intro s2 g3 _
      refine thenJ_normal ?_
      refine H_cond rfl (fun hc => ?_) (fun hc => ?_)
      · simp only [Bool.and_eq_true, decide_eq_true_eq] at hc
        obtain ⟨hlt2, hc⟩ := hc
        obtain ⟨z, hz⟩ : ∃ z, out[k]? = some z := ⟨_, List.getElem?_eq_getElem hlt2⟩
        rw [hz] at hc
        refine H_skip ?_
        refine thenJ_normal ?_
        refine H_block ?_
        refine R0 ?_
        refine xV (e_mv (v := .int _ _) (q0 rfl)) rfl rfl ?_
        refine xV (e_add (q0 rfl) (q0 rfl) (fun _ => ⟨rfl, by omega, by omega⟩)) rfl rfl ?_
        refine xV (e_as (v := .int _ _) (q0 rfl)) rfl rfl ?_
        refine XN ?_
        refine blockJ_normal ?_
        exact loopJ_normal (k + 1) (by repeat (first | exact agree_self | exact agree_over | refine agree_upd rfl ?_ | refine agree_updL rfl ?_ | refine agree_over2 rfl ?_)) ⟨rfl, trivial⟩ (fun _ h => h) rfl ⟨by omega, by rw [take_snoc _ _ _ hz, List.all_append, hall]; simpa using hc⟩ (by show out.length - (k + 1) < out.length - k; omega)
      · obtain ⟨e2, e3⟩ := take_whileX (p := fun z => decide (z.r.id < y.r.id)) hk hall (fun z hz => by
          have hlt2 : k < out.length := (List.getElem?_eq_some_iff.1 hz).1
          rw [hz] at hc
          simpa [hlt2] using hc)
        have hins : T (i + 1) = out.take k ++ y :: out.drop k := by rw [hst]; unfold insX; rw [e2, e3]
        refine H_exit ?_
        refine thenJ_exit ?_
        refine loopJ_exit ?_
        refine blockJ_hit ?_
        refine thenJ_normal ?_
        refine H_seq ?_
        refine R0 ?_
        refine X_eff (f_slit0 RX.cells Tryz.underlying28 Tryz.sizeOf41 rfl fun A2 c2 => ?_)
        refine xV (e_mv (v := .slice _ _ _) (q0 rfl)) rfl rfl ?_
        refine xV (e_mv (v := .int _ _) (q0 rfl)) rfl rfl ?_
        refine xV (e_slHi _ Tryz.underlying28 Tryz.sizeOf41 (q0 rfl) (q0 rfl) (fun _ => ⟨rfl, by omega⟩)) rfl rfl ?_
        refine X_append (f_append (k := 13) (i := Tryz.t41) (enc := RX.cells) 0 Tryz.underlying28 (by kernel_rfl) rfl rfl rfl rfl (fun _ => rfl) (fun _ => rfl) rfl rfl rfl (fun w hw => (slAt_row hw (j := 1) rfl (fun _ => rfl) (by omega)).take hk) ⟨by simp; omega, by decide⟩ rfl fun A3 c3 => ?_)
        refine xV (e_as (v := .slice _ _ _) (q0 rfl)) rfl rfl ?_
        refine XN ?_
        refine thenJ_normal ?_
        refine RAd 1 rfl (by decide +kernel) ?_
        refine aV 0 (by decide +kernel) rfl (e_mv (v := .slice _ _ _) (q0 rfl)) rfl ?_
        refine aV 1 (by decide +kernel) rfl (e_mv (v := .slice _ _ _) (q0 rfl)) rfl ?_
        refine aV 2 (by decide +kernel) rfl (e_mv (v := .int _ _) (q0 rfl)) rfl ?_
        refine aV 3 (by decide +kernel) rfl (e_idx i Tryz.underlying28 Tryz.sizeOf41 (q0 rfl) (q0 rfl) (fun _ => ⟨rfl, by omega⟩)) rfl ?_
        refine aV 4 (by decide +kernel) rfl (e_lds (vs := y.cells) Tryz.isAgg41 Tryz.sizeOf41 (q0 rfl) (by first | exact bxs 0 rfl | exact bxs 1 rfl | exact bxs 2 rfl | exact bxs 3 rfl | exact bxs 4 rfl | exact bxs 5 rfl | exact bxs 6 rfl | exact bxs 7 rfl | exact bxs 8 rfl | exact bxs 9 rfl | exact rcs ‹_› ‹_› | exact rrs 0 rfl ‹_› | exact rrs 1 rfl ‹_› | exact rrs 2 rfl ‹_› | exact rrs 3 rfl ‹_› | exact rrs 4 rfl ‹_› | exact rrs 5 rfl ‹_› | exact rrs 6 rfl ‹_› | exact rrs 7 rfl ‹_›) rfl) rfl ?_
        refine aV 7 (by decide +kernel) rfl (e_mv (v := .slice _ _ _) (q0 rfl)) rfl ?_
        refine aV 8 (by decide +kernel) rfl (e_mv (v := .int _ _) (q0 rfl)) rfl ?_
        refine aV 9 (by decide +kernel) rfl (e_slLoG k Tryz.underlying28 Tryz.sizeOf41 (q0 rfl) (q0 rfl) (fun _ => ⟨rfl, hk⟩)) rfl ?_
        refine rdy1 (i := 5) (by decide +kernel) (sub_drop 1) ?_
        refine aL rfl (f_slit [(.int .i64 0), (.int .i64 0), (.int .i64 0), (.int .i64 0), (.int .i64 0), (.int .i64 0), (.bool false), (.slice none 0 0), (.slice none 0 0), (.int .i64 0), (.int .i64 0), (.int .i64 0), (.int .i64 0)] Tryz.underlying28 Tryz.sizeOf41 Tryz.zeroValue41 rfl (by kernel_rfl) (pt (v := .agg _) rfl E.p0) rfl rfl fun b42 => ?_)
        refine rdy1 (i := 6) (by decide +kernel) (sub_drop 2) ?_
        refine aL rfl (f_append (k := 13) (i := Tryz.t41) (enc := RX.cells) 1 Tryz.underlying28 (by kernel_rfl) rfl rfl rfl rfl (fun _ => rfl) (fun _ => rfl) rfl rfl rfl (fun w hw => slAt_box (xs := [y]) hw (j := 0) rfl (fun _ => rfl) (by simp)) ⟨by simp; omega, by decide⟩ rfl fun A4 c4 => ?_)
        refine rdy1 (i := 10) (by decide +kernel) (sub_drop 2) ?_
        refine aL rfl (f_append (k := 13) (i := Tryz.t41) (enc := RX.cells) 1 Tryz.underlying28 (by kernel_rfl) rfl rfl rfl rfl (fun _ => rfl) (fun _ => rfl) rfl rfl rfl (fun w hw => (slAt_row hw (j := 2) rfl (fun _ => rfl) (by omega)).drop hk hcap.1) ⟨by simp; omega, by decide⟩ rfl fun A5 c5 => ?_)
        refine aV 11 (by decide +kernel) rfl (e_as (v := .slice _ _ _) (q0 rfl)) rfl ?_
        refine aZ (by decide +kernel) (sub_drop 2) ?_
        refine blockJ_normal ?_
        refine thenJ_normal ?_
        refine R0 ?_
        refine xV (e_mv (v := .int _ _) (q0 rfl)) rfl rfl ?_
        refine xV (e_add (q0 rfl) (q0 rfl) (fun _ => ⟨rfl, by omega, by omega⟩)) rfl rfl ?_
        refine xV (e_as (v := .int _ _) (q0 rfl)) rfl rfl ?_
        refine XN ?_
        exact loopJ_normal (i + 1, A5, c5) (by repeat (first | exact agree_self | exact agree_over | refine agree_upd rfl ?_ | refine agree_updL rfl ?_ | refine agree_over2 rfl ?_)) ⟨rfl, by show Value.slice A5 (([] ++ out.take k ++ [y] ++ out.drop k).length) c5 = Value.slice A5 (T (i + 1)).length c5; rw [hins]; simp, trivial⟩ (fun w hw => by show Mem _ [rdRow A5 c5 (T (i + 1))] w; rw [hins]; simpa using hw.pick [1] (by decide)) rfl (by show i + 1 ≤ n; omega) (by show n - (i + 1) < n - i; omega)
  · have hend : i = n := by simp at hlt; omega
    subst hend
    refine H_exit ?_
    refine thenJ_exit ?_
    refine loopJ_exit ?_
    refine blockJ_hit ?_
    refine thenJ_normal ?_
    refine H_seq ?_
    refine R0 ?_
    refine xV (e_mv (v := .slice _ _ _) (q0 rfl)) rfl rfl ?_
    refine xV (e_as (v := .slice _ _ _) (q0 rfl)) rfl rfl ?_
    refine XN ?_
    refine thenJ_normal ?_
    refine H_ret ?_
    exact ret1 (v := .slice _ _ _) rfl rfl rfl fun w' hw => ⟨(oA, oc), rfl, hw⟩

end Go.Proofs.Rid

/-
  The walks: the reference's rides of events; the law.
-/
namespace Go.Proofs.Rid
open Go Go.RowKit Go.Proofs.E Go.Proofs.Cus

theorem rw_of {f : Fl} (hok : flErr f = 0) (xs : List Ev) {i : Nat} (hi : i ≤ (accOf f xs).length) (hn : (accOf f xs).length ≤ 1000) {t : TR} (ht : t.plain = rStory f (accOf f xs) i) : RW t := by
  have hS := SR.run hok xs i hi
  have hJ := joint_at hok xs i
  have hr : t.xs.map (·.r) = (((accOf f xs).take i).foldl tellY (beginSY (nbOf f))).rides := by rw [← hS.rides, ← ht]; rfl
  have he : t.es = (rStory f (accOf f xs) i).ended := by rw [← ht]; rfl
  have hl : t.xs.length = (((accOf f xs).take i).foldl tellY (beginSY (nbOf f))).rides.length := by rw [← hr]; simp
  have hN := List.length_take (i := i) (l := accOf f xs)
  refine ⟨by rw [he, hS.len, hl], ?_, fun n h => ?_, fun x hx => ?_⟩
  · have := hJ.wf.num
    omega
  · rw [he] at h
    have h1 := hS.nn n h
    have h2 := rStory_le f (accOf f xs) i n h
    omega
  · have := hJ.wf.legs x.r (by rw [← hr]; exact List.mem_map_of_mem hx)
    omega
attribute [local irreducible] allOf flErr accOf spotsOf rStory
set_option maxHeartbeats 4000000 in
set_option maxRecDepth 20000 in
theorem rall_w (f : Fl) (a : FA) (A : Option Addr) (n c : Nat) (xs : List Ev) (w : World) (hf : FlAt w f a) (hx : EvsAt w A n xs) (hn : n ≤ 500) (hpl : PlOk xs) :
    Calls Tryz.prog 7 #[.agg (f.cells a).toArray, .slice A n c] w fun r w' => ∃ y : RdsOut (allOf f xs), r = .returned (.tuple #[.slice y.1.1 y.1.2.2.length y.1.2.1, .int .i64 (flErr f)]) ∧ Mem w [rdRow y.1.1 y.1.2.1 y.1.2.2, rdBag y.1.2.2] w' := by
  have hxl := hx.1
  have hal := accOf_len f xs
  refine H_enter Tryz.func7 rfl Tryz.ntmps7 rfl ?_
  refine H_seq ?_
  refine R0 ?_
  refine X_box (v := .agg _) rfl rfl fun b2 => ?_
  refine xV (e_as (v := .slice _ _ _) (q0 rfl)) rfl rfl ?_
  refine xV (e_as (v := .int _ _) (q0 rfl)) rfl rfl ?_
  refine XN ?_
  refine thenJ_normal ?_
  refine H_seq ?_
  refine R0 ?_
  refine xV (eS Tryz.isAgg24 Tryz.sizeOf24 (q0 rfl)) rfl rfl ?_
  refine xV (e_mv (v := .slice _ _ _) (q0 rfl)) rfl rfl ?_
  refine xCX (en Tryz.call23 (ha2 (q0 rfl) (q0 rfl))) (fun w hw => raccepted_w f a A n c xs w (hf.mem hw) (hx.mem hw) (by omega) hpl) rfl (fun _ => rfl) fun r1 => ?_
  refine xV (e_mv (q0 rfl)) rfl rfl ?_
  refine xV (e_ext (q0 rfl) rfl) rfl rfl ?_
  refine xV (e_ext (q0 rfl) rfl) rfl rfl ?_
  refine xV (e_as (v := .slice _ _ _) (q0 rfl)) rfl rfl ?_
  refine xV (e_as (v := .int _ _) (q0 rfl)) rfl rfl ?_
  refine XN ?_
  refine thenJ_normal ?_
  refine H_seq ?_
  refine H_seq ?_
  refine R0 ?_
  refine xV (e_mv (v := .int _ _) (q0 rfl)) rfl rfl ?_
  refine xV (e_ne (q0 rfl) (q0 rfl)) rfl rfl ?_
  refine XN ?_
  refine thenJ_normal ?_
  refine H_cond rfl (fun h1 => ?_) (fun h1 => ?_)
  · have h1' : flErr f ≠ 0 := by simpa using h1
    have ho : allOf f xs = [] := by unfold allOf; rw [if_neg h1']
    refine H_seq ?_
    refine R0 ?_
    refine xV (e_mv (v := .int _ _) (q0 rfl)) rfl rfl ?_
    refine xV (e_as (v := .slice _ _ _) (q0 rfl)) rfl rfl ?_
    refine xV (e_as (v := .int _ _) (q0 rfl)) rfl rfl ?_
    refine XN ?_
    refine thenJ_normal ?_
    refine H_ret ?_
    refine thenJ_ret ?_
    exact ret2 (v := .slice _ _ _) (x := .int _ _) rfl rfl rfl rfl fun w' hw => ⟨⟨(none, 0, []), ho.symm⟩, rfl, ((mem_nil.2 hw.1).noBag (f := rdParts)).nilRow _ _ _ rfl⟩
  · have h1' : flErr f = 0 := by simpa using h1
    have hall := refAll_eq h1' xs
    have hch := fun {i : Nat} {e : Ev} (he : (accOf f xs)[i]? = some e) => change_ok h1' xs he
    have hrw := fun {i : Nat} (hi : i ≤ (accOf f xs).length) {t : TR} => rw_of h1' xs hi (by omega) (t := t)
    have hst := fun {k : Nat} {e : Ev} (h : (accOf f xs)[k]? = some e) => rStory_succ (f := f) h
    have hsl := fun (ys : List Ev) => (show (spotsOf f ys).length = nbOf f by unfold spotsOf; rw [if_pos h1']; exact spotsOf_len h1')
    have hap : PlOk (accOf f xs) := fun e he => hpl e (((set_isSet xs).mem e).1 ((acc_sublist f xs).subset he)).1
    rw [h1']
    have h00 : rStory f (accOf f xs) 0 = ⟨[], []⟩ := by unfold rStory; rfl
    generalize accOf f xs = acc at *
    obtain ⟨r11, r12⟩ := r1
    refine H_skip ?_
    refine thenJ_normal ?_
    refine H_seq ?_
    refine R0 ?_
    refine xV (e_build Tryz.underlying63 fl63 Tryz.zeroValue63 E.p0 rfl) rfl rfl ?_
    refine X_alloc Tryz.zeroValue63 rfl fun b8 => ?_
    refine X_st (v := .agg _) rfl rfl Tryz.sizeOf63 ?_
    refine XN ?_
    refine thenJ_normal ?_
    refine H_seq ?_
    refine H_seq ?_
    refine R0 ?_
    refine xV (e_as (v := .int _ _) (q0 rfl)) rfl rfl ?_
    refine XN ?_
    refine thenJ_normal ?_
    refine H_block ?_
    refine H_loop [9, 10, 11, 22, 23, 24, 25, 26, 27, 28, 29, 30, 31, 32, 33, 34, 35, 36, 37, 38, 39, 40, 41, 42, 43, 44, 45, 46, 47, 48, 49, 50, 51, 52, 53, 54, 55, 56, 57, 58, 59, 60, 61] (fun q : Nat × RYA × TR => [(9, .int .i64 q.1)]) (fun q => stR q.2.1 q.2.2 ++ [box b8 63 (ryV q.2.1 q.2.2), evRow r11 r12 acc, box b2 24 (f.cells a)]) (fun q => q.1 ≤ acc.length ∧ q.2.2.plain = rStory f acc q.1) (fun q => acc.length - q.1) (0, ⟨none, 0, none, 0⟩, ⟨[], []⟩) ⟨rfl, trivial⟩ (fun w hw => (((hw.noBag (f := rdParts)).nilRow 41 13 RX.cells (c := 0) rfl).nilRow 3 1 encInt (c := 0) rfl).pickN 6 [1, 2, 0, 3, 4, 5] (by decide) (by decide)) rfl ⟨Nat.zero_le _, by rw [h00]; rfl⟩ ?_
    rintro ⟨i, ya, ty⟩ g hi
    obtain ⟨hi, hty⟩ := hi
    simp only at hi hty
    have hW := hrw hi hty
    refine H_seq ?_
    refine H_seq ?_
    refine R0 ?_
    refine xV (e_mv (v := .int _ _) (q0 rfl)) rfl rfl ?_
    refine xV (e_mv (v := .slice _ _ _) (q0 rfl)) rfl rfl ?_
    refine xV (e_len Tryz.underlying25 (q0 rfl)) rfl rfl ?_
    refine xV (e_lt (q0 rfl) (q0 rfl)) rfl rfl ?_
    refine XN ?_
    refine thenJ_normal ?_
    refine H_cond rfl (fun hlt => ?_) (fun hlt => ?_)
    · have hlt' : i < acc.length := by simpa using hlt
      obtain ⟨e, he⟩ : ∃ e, acc[i]? = some e := ⟨_, List.getElem?_eq_getElem hlt'⟩
      obtain ⟨hc4, hc6, hb0, hb1⟩ := hch he
      have hstep := hst he
      rw [← hty] at hc4 hc6
      refine H_know (fun w hw => rowT_at (j := 4) hw rfl (by omega)) fun ⟨rb, hrb⟩ => ?_
      refine H_know (fun w hw => rowT_cap (j := 4) hw rfl) fun hcap => ?_
      subst hrb
      obtain ⟨bk, hbk⟩ : ∃ k : Nat, e.bike = k := ⟨e.bike.toNat, by omega⟩
      refine H_skip ?_
      refine thenJ_normal ?_
      refine H_seq ?_
      refine H_block ?_
      refine H_seq ?_
      refine R0 ?_
      refine xV (e_mv (v := .slice _ _ _) (q0 rfl)) rfl rfl ?_
      refine xV (e_mv (v := .int _ _) (q0 rfl)) rfl rfl ?_
      refine xV (e_idx i Tryz.underlying25 Tryz.sizeOf57 (q0 rfl) (q0 rfl) (fun _ => ⟨rfl, hlt'⟩)) rfl rfl ?_
      refine xV (e_fld Tryz.underlying57 rfl Tryz.sizeOf3 rfl (q0 rfl)) rfl rfl ?_
      refine xV (e_ld (v := .int .i64 e.kind) Tryz.isAgg3 (q0 rfl) (by exact rr 4 (r := 4) rfl he rfl)) rfl rfl ?_
      refine xV (e_eq (q0 rfl) (q0 rfl)) rfl rfl ?_
      refine XN ?_
      refine thenJ_normal ?_
      refine H_cond rfl (fun h3 => ?_) (fun h3 => ?_)
      · have h3' : e.kind = 3 := by simpa using h3
        obtain ⟨x, hxk⟩ : ∃ x, (spotsOf f (acc.take i))[bk]? = some x := ⟨_, List.getElem?_eq_getElem (by rw [hsl]; omega)⟩
        have hxd : (spotsOf f (acc.take i)).getD e.bike.toNat default = x := by rw [hbk, Int.toNat_natCast, List.getD_eq_getElem?_getD, hxk]; rfl
        have hbeg : rStory f acc (i + 1) = beginR ty.plain e x := by rw [hstep, hxd, ← hty]; unfold stpR; rw [if_pos h3']
        have hslen := hsl (acc.take i)
        refine H_seq ?_
        refine RA rfl (by decide +kernel) ?_
        refine aV 0 (by decide +kernel) rfl (eS Tryz.isAgg24 Tryz.sizeOf24 (q0 rfl)) rfl ?_
        refine aV 1 (by decide +kernel) rfl (e_mv (v := .slice _ _ _) (q0 rfl)) rfl ?_
        refine aV 2 (by decide +kernel) rfl (e_mv (v := .int _ _) (q0 rfl)) rfl ?_
        refine aV 3 (by decide +kernel) rfl (e_slHi i Tryz.underlying25 Tryz.sizeOf57 (q0 rfl) (q0 rfl) (fun _ => ⟨by omega, by omega⟩)) rfl ?_
        refine rdy1 (i := 4) (by decide +kernel) (sub_drop 0) ?_
        refine aL rfl (f_callx (en Tryz.call24 (ha2 (q0 rfl) (q0 rfl))) (fun w hw => rspots_w f a (some ⟨rb, 0, none⟩) i r12 (acc.take i) w (hf.mem hw) ((slAt_row (xs := acc) hw (j := 4) rfl (fun _ => rfl) (by omega)).take (i := i) (by omega)) (by omega) (fun e he => hap e (List.mem_of_mem_take he))) rfl (fun _ => rfl) fun sp => ?_)
        refine aRL (sub_drop 1) ?_
        refine aV 5 (by decide +kernel) rfl (e_mv (q0 rfl)) rfl ?_
        refine aV 6 (by decide +kernel) rfl (e_ext (q0 rfl) rfl) rfl ?_
        refine aV 7 (by decide +kernel) rfl (e_ext (q0 rfl) rfl) rfl ?_
        refine aV 8 (by decide +kernel) rfl (e_as (v := .slice _ _ _) (q0 rfl)) rfl ?_
        refine aV 9 (by decide +kernel) rfl (e_as (v := .int _ _) (q0 rfl)) rfl ?_
        refine aZ (by decide +kernel) (sub_drop 0) ?_
        refine thenJ_normal ?_
        refine H_know (fun w hw => rowT_at (j := 0) hw rfl (by omega)) fun ⟨sb, hsb⟩ => ?_
        obtain ⟨sp1, sp2⟩ := sp
        simp only at hsb
        subst hsb
        refine H_mem (fun w hw => hw.pickN 7 [1, 2, 3, 4, 0, 5, 6] (by decide) (by decide)) rfl ?_
        refine RAd 4 rfl (by decide +kernel) ?_
        refine aV 1 (by decide +kernel) rfl (e_mv (v := .slice _ _ _) (q0 rfl)) rfl ?_
        refine aV 2 (by decide +kernel) rfl (e_mv (v := .int _ _) (q0 rfl)) rfl ?_
        refine aV 3 (by decide +kernel) rfl (e_idx i Tryz.underlying25 Tryz.sizeOf57 (q0 rfl) (q0 rfl) (fun _ => ⟨rfl, hlt'⟩)) rfl ?_
        refine aV 4 (by decide +kernel) rfl (e_lds (vs := e.cells) Tryz.isAgg57 Tryz.sizeOf57 (q0 rfl) (rrs 1 rfl he) rfl) rfl ?_
        refine aV 5 (by decide +kernel) rfl (e_mv (v := .slice _ _ _) (q0 rfl)) rfl ?_
        refine aV 6 (by decide +kernel) rfl (e_mv (v := .slice _ _ _) (q0 rfl)) rfl ?_
        refine aV 7 (by decide +kernel) rfl (e_mv (v := .int _ _) (q0 rfl)) rfl ?_
        refine aV 8 (by decide +kernel) rfl (e_idx i Tryz.underlying25 Tryz.sizeOf57 (q0 rfl) (q0 rfl) (fun _ => ⟨rfl, hlt'⟩)) rfl ?_
        refine aV 9 (by decide +kernel) rfl (e_fld Tryz.underlying57 rfl Tryz.sizeOf3 rfl (q0 rfl)) rfl ?_
        refine aV 10 (by decide +kernel) rfl (e_ld (v := .int .i64 bk) Tryz.isAgg3 (q0 rfl) (by exact rr 1 (r := 5) rfl he (by rw [← hbk]; rfl))) rfl ?_
        refine aV 11 (by decide +kernel) rfl (e_idx bk Tryz.underlying52 Tryz.sizeOf68 (q0 rfl) (q0 rfl) (fun _ => ⟨rfl, by omega⟩)) rfl ?_
        refine aV 12 (by decide +kernel) rfl (e_lds (vs := x.cells) Tryz.isAgg68 Tryz.sizeOf68 (q0 rfl) (rrs 0 rfl hxk) rfl) rfl ?_
        refine rdy1 (i := 0) (by decide +kernel) (sub_drop 4) ?_
        refine aL rfl (f_ev (e_lds (vs := ryV ya ty) Tryz.isAgg63 Tryz.sizeOf63 (q0 rfl) (bxs 3 rfl) rfl) rfl rfl ?_)
        refine rdy1 (i := 13) (by decide +kernel) (sub_drop 4) ?_
        refine aL rfl (f_callM (en Tryz.call25 (ha3 (q0 rfl) (q0 rfl) (q0 rfl))) (fun w hw => rbeg_w (a := ya) (t := ty) (L := [_, _, _, _]) hw rfl hW e x) rfl (fun _ => rfl) fun y => ?_)
        refine rdy1 (i := 14) (by decide +kernel) (sub_drop 4) ?_
        refine aL rfl (f_st (v := .agg _) rfl rfl Tryz.sizeOf63 ?_)
        refine aZ (by decide +kernel) (sub_drop 4) ?_
        refine blockJ_normal ?_
        refine thenJ_normal ?_
        refine R0 ?_
        refine xV (e_mv (v := .int _ _) (q0 rfl)) rfl rfl ?_
        refine xV (e_add (q0 rfl) (q0 rfl) (fun _ => ⟨rfl, by omega, by omega⟩)) rfl rfl ?_
        refine xV (e_as (v := .int _ _) (q0 rfl)) rfl rfl ?_
        refine XN ?_
        exact loopJ_normal (i + 1, y.1.1, y.1.2) (by repeat (first | exact agree_self | exact agree_over | refine agree_upd rfl ?_ | refine agree_updL rfl ?_ | refine agree_over2 rfl ?_)) ⟨rfl, trivial⟩ (fun w hw => hw.pickN 7 [0, 1, 2, 3, 5, 6] (by decide) (by decide)) rfl ⟨by show i + 1 ≤ _; omega, by show y.1.2.plain = _; rw [hbeg]; exact y.2⟩ (by show acc.length - (i + 1) < acc.length - i; omega)
      · have h3' : ¬ e.kind = 3 := by simpa using h3
        have hcg : rStory f acc (i + 1) = changeR ty.plain e := by rw [hstep, ← hty]; unfold stpR; rw [if_neg h3']
        refine H_mem (fun w hw => hw.pickN 6 [0, 1, 2, 3, 4, 5] (by decide) (by decide)) rfl ?_
        refine RAd 4 rfl (by decide +kernel) ?_
        refine aV 1 (by decide +kernel) rfl (e_mv (v := .slice _ _ _) (q0 rfl)) rfl ?_
        refine aV 2 (by decide +kernel) rfl (e_mv (v := .int _ _) (q0 rfl)) rfl ?_
        refine aV 3 (by decide +kernel) rfl (e_idx i Tryz.underlying25 Tryz.sizeOf57 (q0 rfl) (q0 rfl) (fun _ => ⟨rfl, hlt'⟩)) rfl ?_
        refine aV 4 (by decide +kernel) rfl (e_lds (vs := e.cells) Tryz.isAgg57 Tryz.sizeOf57 (q0 rfl) (rrs 0 rfl he) rfl) rfl ?_
        refine rdy1 (i := 0) (by decide +kernel) (sub_drop 4) ?_
        refine aL rfl (f_ev (e_lds (vs := ryV ya ty) Tryz.isAgg63 Tryz.sizeOf63 (q0 rfl) (bxs 3 rfl) rfl) rfl rfl ?_)
        refine rdy1 (i := 5) (by decide +kernel) (sub_drop 4) ?_
        refine aL rfl (f_callM (en Tryz.call26 (ha2 (q0 rfl) (q0 rfl))) (fun w hw => rchg_w (a := ya) (t := ty) (L := [_, _, _]) hw rfl hW e hc4 (fun h k x hx ho => hc6 h k x.r (by unfold TR.plain; simp [hx]) ho)) rfl (fun _ => rfl) fun y => ?_)
        refine rdy1 (i := 6) (by decide +kernel) (sub_drop 4) ?_
        refine aL rfl (f_st (v := .agg _) rfl rfl Tryz.sizeOf63 ?_)
        refine aZ (by decide +kernel) (sub_drop 4) ?_
        refine blockJ_normal ?_
        refine thenJ_normal ?_
        refine R0 ?_
        refine xV (e_mv (v := .int _ _) (q0 rfl)) rfl rfl ?_
        refine xV (e_add (q0 rfl) (q0 rfl) (fun _ => ⟨rfl, by omega, by omega⟩)) rfl rfl ?_
        refine xV (e_as (v := .int _ _) (q0 rfl)) rfl rfl ?_
        refine XN ?_
        exact loopJ_normal (i + 1, y.1.1, y.1.2) (by repeat (first | exact agree_self | exact agree_over | refine agree_upd rfl ?_ | refine agree_updL rfl ?_ | refine agree_over2 rfl ?_)) ⟨rfl, trivial⟩ (fun w hw => hw) rfl ⟨by show i + 1 ≤ _; omega, by show y.1.2.plain = _; rw [hcg]; exact y.2⟩ (by show acc.length - (i + 1) < acc.length - i; omega)
    · have hend : i = acc.length := by simp at hlt; omega
      subst hend
      have hnum := hW.num
      have hfin : (sortX ty.xs).map (·.r) = allOf f xs := by rw [sortX_map, ← hall, ← hty]; rfl
      refine H_exit ?_
      refine thenJ_exit ?_
      refine loopJ_exit ?_
      refine blockJ_hit ?_
      refine thenJ_normal ?_
      refine H_seq ?_
      refine R0 ?_
      refine xV (e_fld Tryz.underlying63 rfl Tryz.sizeOf28 rfl (q0 rfl)) rfl rfl ?_
      refine xV (eL Tryz.isAgg28 (q0 rfl)) rfl rfl ?_
      refine xCX (en Tryz.call27 (ha1 (q0 rfl))) (fun w hw => rsorted_w ya.rA ty.xs.length ya.rc ty.xs w (slAt_row hw (j := 0) rfl (fun _ => rfl) (by omega)) (by omega)) rfl (fun _ => rfl) fun z => ?_
      refine xV (e_as (v := .slice _ _ _) (q0 rfl)) rfl rfl ?_
      refine xV (e_as (v := .int _ _) (q0 rfl)) rfl rfl ?_
      refine XN ?_
      refine thenJ_normal ?_
      refine H_ret ?_
      exact ret2 (v := .slice _ _ _) (x := .int _ _) rfl rfl rfl rfl fun w' hw => ⟨⟨(z.1, z.2, sortX ty.xs), hfin⟩, rfl, (Mem.bagPerm (hw.pick [2, 0] (by decide)) (T' := (sortX ty.xs).flatMap rdParts) ((sortX_perm ty.xs).flatMap_right _)).pick [1, 0] (by decide)⟩
set_option maxHeartbeats 1000000 in
set_option maxRecDepth 20000 in
theorem allsLaw_w (f : Fl) (a : FA) (A : Option Addr) (n c : Nat) (xs : List Ev) (w : World) (hf : FlAt w f a) (hx : EvsAt w A n xs) (hpl : PlOk xs) :
    Calls Tryz.prog 3 #[.agg (f.cells a).toArray, .slice A n c] w fun r w' => r = .returned (.bool true) ∧ Bel w w' := by
  have hl := hx.1
  refine H_enter Tryz.func3 rfl Tryz.ntmps3 rfl ?_
  refine H_seq ?_
  refine R0 ?_
  refine X_box (v := .agg _) rfl rfl fun b2 => ?_
  refine xV (e_as (v := .bool _) (q0 rfl)) rfl rfl ?_
  refine XN ?_
  refine thenJ_normal ?_
  refine H_seq ?_
  refine H_seq ?_
  refine R0 ?_
  refine xV (eS Tryz.isAgg24 Tryz.sizeOf24 (q0 rfl)) rfl rfl ?_
  refine xV (e_mv (v := .slice _ _ _) (q0 rfl)) rfl rfl ?_
  refine xC (en Tryz.call4 (ha2 (q0 rfl) (q0 rfl))) (fun _ w _ => few_w f a A n c w) rfl rfl ?_
  refine xV (e_not (q0 rfl)) rfl rfl ?_
  refine XN ?_
  refine thenJ_normal ?_
  refine H_cond rfl (fun h0 => ?_) (fun h0 => ?_)
  · refine H_seq ?_
    refine R0 ?_
    refine xC (en Tryz.call5 (ha0)) (fun _ w _ => awake_w w) rfl rfl ?_
    refine xV (e_as (v := .bool _) (q0 rfl)) rfl rfl ?_
    refine XN ?_
    refine thenJ_normal ?_
    refine H_ret ?_
    refine thenJ_ret ?_
    exact ret1 (v := .bool _) rfl rfl rfl fun w' hw => ⟨rfl, hw.1⟩
  · have hn := few_n h0
    subst hl
    have hr := story20 f hn
    have hl40 := all_len (f := f) xs
    have hsh : ∀ r ∈ allOf f xs, r.legs.length ≤ 100000 ∧ r.pauses.length ≤ 100000 := fun r hr => by have := short_of f hn r hr; omega
    refine H_skip ?_
    refine thenJ_normal ?_
    refine H_seq ?_
    refine R0 ?_
    refine xV (eS Tryz.isAgg24 Tryz.sizeOf24 (q0 rfl)) rfl rfl ?_
    refine xV (e_mv (v := .slice _ _ _) (q0 rfl)) rfl rfl ?_
    refine xCX (en Tryz.call6 (ha2 (q0 rfl) (q0 rfl))) (fun w hw => all_w f a A _ c xs w (hf.mem hw) (hx.mem hw) (by omega) hpl hr) rfl (fun _ => rfl) fun x => ?_
    refine xV (e_mv (q0 rfl)) rfl rfl ?_
    refine xV (e_ext (q0 rfl) rfl) rfl rfl ?_
    refine xV (e_ext (q0 rfl) rfl) rfl rfl ?_
    refine xV (e_as (v := .slice _ _ _) (q0 rfl)) rfl rfl ?_
    refine xV (e_as (v := .int _ _) (q0 rfl)) rfl rfl ?_
    refine XN ?_
    refine thenJ_normal ?_
    refine H_seq ?_
    refine R0 ?_
    refine xV (eS Tryz.isAgg24 Tryz.sizeOf24 (q0 rfl)) rfl rfl ?_
    refine xV (e_mv (v := .slice _ _ _) (q0 rfl)) rfl rfl ?_
    refine xCX (en Tryz.call7 (ha2 (q0 rfl) (q0 rfl))) (fun w hw => rall_w f a A _ c xs w (hf.mem hw) (hx.mem hw) (by omega) hpl) rfl (fun _ => rfl) fun y => ?_
    have hxy : x.1.2.2.map (·.r) = y.1.2.2.map (·.r) := by rw [x.2, y.2]
    refine xV (e_mv (q0 rfl)) rfl rfl ?_
    refine xV (e_ext (q0 rfl) rfl) rfl rfl ?_
    refine xV (e_ext (q0 rfl) rfl) rfl rfl ?_
    refine xV (e_as (v := .slice _ _ _) (q0 rfl)) rfl rfl ?_
    refine xV (e_as (v := .int _ _) (q0 rfl)) rfl rfl ?_
    refine XN ?_
    refine thenJ_normal ?_
    refine H_seq ?_
    refine R0 ?_
    refine xV (e_mv (v := .slice _ _ _) (q0 rfl)) rfl rfl ?_
    refine xV (e_mv (v := .slice _ _ _) (q0 rfl)) rfl rfl ?_
    refine xC (en Tryz.call8 (ha2 (q0 rfl) (q0 rfl))) (fun _ w hw => same_w x.1.1 y.1.1 _ _ x.1.2.1 y.1.2.1 x.1.2.2 y.1.2.2 w (rds_out x hw 2 3 rfl rfl (by omega) hsh) (rds_out y hw 0 1 rfl rfl (by omega) hsh)) rfl rfl ?_
    refine xV (e_mv (v := .bool _) (q0 rfl)) rfl rfl ?_
    refine xVT (e_mv (v := .int _ _) (q0 rfl)) rfl rfl rfl rfl ?_
    refine xVT (e_mv (v := .int _ _) (q0 rfl)) rfl rfl rfl rfl ?_
    refine xVT (e_eq (q1 rfl) (q1 rfl)) rfl rfl rfl rfl ?_
    refine xV (e_and (q0 rfl) rfl (fun h => by first | rfl | (rw [h]; rfl))) rfl rfl ?_
    refine xV (e_mv (v := .bool _) (q0 rfl)) rfl rfl ?_
    refine xCT (en Tryz.call5 (ha0)) (fun _ w _ => awake_w w) rfl rfl rfl rfl ?_
    refine xV (e_and (q0 rfl) rfl (fun h => by first | rfl | (rw [h]; rfl))) rfl rfl ?_
    refine xV (e_as (v := .bool _) (q0 rfl)) rfl rfl ?_
    refine XN ?_
    refine thenJ_normal ?_
    refine H_ret ?_
    exact ret1 (v := .bool _) rfl rfl rfl fun w' hw => ⟨ret_bool (by simp [hxy]), hw.1⟩

end Go.Proofs.Rid
