import Derived.Test.YticakimgoedknaaGreatSysF
set_option linter.unusedVariables false
set_option linter.unusedSimpArgs false
/-
  Roads, nights and noise: what is wrong with them; the program's checks.
-/
namespace Go.Proofs.Sys
open Go Go.RowKit Go.Proofs.E Go.Proofs.Cus Go.Proofs.Far


structure Eg where
  a : Int
  b : Int
  s : Int
structure Tk where
  d : Int
  c : Int
  lo : Int
  hi : Int
structure Nd where
  n : Int
  m : Int
def Eg.cells (x : Eg) : List Value := [.int .i64 x.a, .int .i64 x.b, .int .i64 x.s]
def Tk.cells (x : Tk) : List Value := [.int .i64 x.d, .int .i64 x.c, .int .i64 x.lo, .int .i64 x.hi]
def Nd.cells (x : Nd) : List Value := [.int .i64 x.n, .int .i64 x.m]
/-- the first error of a list -/
def fe {α : Type} (f : α → Int) : List α → Int
  | [] => 0
  | x :: l => if f x = 0 then fe f l else f x
theorem fe_bad {α : Type} {f : α → Int} : ∀ {l : List α} {k : Nat} {x : α}, (∀ y ∈ l.take k, f y = 0) → l[k]? = some x → f x ≠ 0 → fe f l = f x
  | [], _, _, _, h, _ => by cases h
  | y :: l, 0, x, _, h, hx => by cases h; rw [fe, if_neg hx]
  | y :: l, k + 1, x, h0, h, hx => by
    rw [fe, if_pos (h0 y (by simp))]
    exact fe_bad (fun z hz => h0 z (by simp [hz])) h hx
theorem fe_on {α : Type} {f : α → Int} {l : List α} {k : Nat} {x : α} (h : ∀ y ∈ l.take k, f y = 0) (hk : l[k]? = some x) (hx : f x = 0) : ∀ y ∈ l.take (k + 1), f y = 0 := by
  intro y hy
  rw [snocT _ _ _ hk] at hy
  rcases List.mem_append.1 hy with hy | hy
  · exact h y hy
  · simp at hy; subst hy; exact hx
theorem fe_end {α : Type} {f : α → Int} : ∀ {l : List α} {k : Nat}, (∀ y ∈ l.take k, f y = 0) → l.length ≤ k → fe f l = 0
  | [], _, _, _ => rfl
  | y :: l, 0, _, h => by simp at h
  | y :: l, k + 1, h, hk => by
    rw [fe, if_pos (h y (by simp))]
    exact fe_end (k := k) (fun z hz => h z (by simp [hz])) (by simpa using hk)
/-- does one of the places below n have it -/
def ax (p : Nat → Bool) (n : Nat) : Bool := (List.range n).any p
theorem ax_bad {p : Nat → Bool} {n k : Nat} (hk : k < n) (h : p k = true) : ax p n = true := List.any_eq_true.2 ⟨k, List.mem_range.2 hk, h⟩
theorem ax_end {p : Nat → Bool} {n : Nat} (h : ∀ j, j < n → p j = false) : ax p n = false := by
  cases hc : ax p n with
  | false => rfl
  | true =>
    obtain ⟨j, hj, h1⟩ := List.any_eq_true.1 hc
    rw [h j (List.mem_range.1 hj)] at h1
    cases h1
theorem ax_on {p : Nat → Bool} {k : Nat} (h : ∀ j, j < k → p j = false) (hk : p k = false) : ∀ j, j < k + 1 → p j = false := by
  intro j hj
  rcases Nat.lt_succ_iff_lt_or_eq.1 hj with hj | rfl
  · exact h j hj
  · exact hk
def nd (n x : Int) : Bool := decide (0 ≤ x) && decide (x < n)
theorem nd_in (n x : Int) : nd n x = inI x 0 (n - 1) := by
  unfold nd inI
  congr 1
  exact decide_eq_decide.2 (by omega)
theorem inI_or (x a b : Int) : (!inI x a b) = (decide (x < a) || decide (b < x)) := by
  unfold inI
  rw [Bool.not_and, ← decide_not, ← decide_not]
  congr 1
  · exact decide_eq_decide.2 (by omega)
  · exact decide_eq_decide.2 (by omega)
def egErr (n : Int) (x : Eg) : Int := if ((!nd n x.a) || !nd n x.b) = true then 7 else if (decide (x.s < 1) || decide (1000 < x.s)) = true then 1 else 0
def rdErr (n : Int) (es : List Eg) : Int := if n < 1 ∨ 64 < n then 1 else if 512 < es.length then 8 else fe (egErr n) es
def tkErr (n : Int) (x : Tk) : Int := if (!nd n x.d) = true then 7 else if ((((!inI x.c 1 32) || decide (x.lo < 0)) || decide (x.hi < x.lo)) || decide (86400 < x.hi)) = true then 1 else 0
def neErr (n : Int) (x : Nd) : Int := if (!nd n x.n) = true then 7 else if (decide (x.m = 0) || !inI x.m (-32) 32) = true then 1 else 0
def twAt (l : List Nd) (j : Nat) : Bool := match l[j]? with
  | some x => (l.take j).any fun y => decide (y.n = x.n)
  | none => false
/-- a night -/
structure Ng where
  n : Int
  es : List Eg
  ts : List Tk
  ds : List Nd
  h : Int
def ngErr (g : Ng) : Int :=
  if rdErr g.n g.es ≠ 0 then rdErr g.n g.es
  else if 8 < g.ts.length ∨ 16 < g.ds.length then 8
  else if fe (tkErr g.n) g.ts ≠ 0 then fe (tkErr g.n) g.ts
  else if fe (neErr g.n) g.ds ≠ 0 then fe (neErr g.n) g.ds
  else if ax (twAt g.ds) g.ds.length = true then 6
  else if (!inI g.h 0 3600) = true then 1 else 0
def wtAt (l : List Int) (j : Nat) : Bool := match l[j]? with
  | some x => (decide (x < 1) || decide (16777216 < x)) || (decide (0 < j) && match l[j - 1]? with | some y => decide (y < x) | none => false)
  | none => false
def nzErr (l : List Int) : Int := if l.length < 1 ∨ 33 < l.length then 32 else if ax (wtAt l) l.length = true then 32 else 0
def rdC (n : Int) (s : Sl) : List Value := [.int .i64 n, .slice s.A s.n s.c]
def ngC (n h : Int) (e t d : Sl) : List Value := [.int .i64 n, .slice e.A e.n e.c, .slice t.A t.n t.c, .slice d.A d.n d.c, .int .i64 h]
theorem rd_ok {n : Int} {es : List Eg} (h : rdErr n es = 0) : 1 ≤ n ∧ n ≤ 64 := by
  unfold rdErr at h
  split at h
  · cases h
  · omega
theorem pre_at {α : Type} {w : World} {k : Nat} {enc : α → List Value} {A : Option Addr} {n : Nat} {xs : List α} (h : SlAt w k enc A n xs) {j : Nat} (hj : j ≤ n) : SlAt w k enc A j (xs.take j) := by
  obtain ⟨h1, h2, h3⟩ := h
  refine ⟨by rw [List.length_take]; omega, by omega, fun hp => ?_⟩
  obtain ⟨b, off, e, hb, hr⟩ := h3 (by omega)
  refine ⟨b, off, e, hb, fun i x hx => ?_⟩
  rw [List.getElem?_take] at hx
  split at hx
  · exact hr i x hx
  · cases hx
theorem fl31 {fs : Array Field} (h : Tryz.prog.underlying 31 = some (.struct fs) := by exact Tryz.underlying31) : FieldsLie Tryz.prog fs [(0, 1), (1, 1)] := by
  rw [Tryz.underlying31] at h
  cases h
  intro w
  kernel_rfl
theorem fl35 {fs : Array Field} (h : Tryz.prog.underlying 35 = some (.struct fs) := by exact Tryz.underlying35) : FieldsLie Tryz.prog fs [(0, 2), (2, 1), (3, 1), (4, 1)] := by
  rw [Tryz.underlying35] at h
  cases h
  intro w
  kernel_rfl
theorem fl37 {fs : Array Field} (h : Tryz.prog.underlying 37 = some (.struct fs) := by exact Tryz.underlying37) : FieldsLie Tryz.prog fs [(0, 1)] := by
  rw [Tryz.underlying37] at h
  cases h
  intro w
  kernel_rfl
theorem fl165 {fs : Array Field} (h : Tryz.prog.underlying 165 = some (.struct fs) := by exact Tryz.underlying165) : FieldsLie Tryz.prog fs [(0, 1), (1, 1), (2, 1)] := by
  rw [Tryz.underlying165] at h
  cases h
  intro w
  kernel_rfl
theorem fl150 {fs : Array Field} (h : Tryz.prog.underlying 150 = some (.struct fs) := by exact Tryz.underlying150) : FieldsLie Tryz.prog fs [(0, 1), (1, 1), (2, 2)] := by
  rw [Tryz.underlying150] at h
  cases h
  intro w
  kernel_rfl
theorem fl153 {fs : Array Field} (h : Tryz.prog.underlying 153 = some (.struct fs) := by exact Tryz.underlying153) : FieldsLie Tryz.prog fs [(0, 1), (1, 1)] := by
  rw [Tryz.underlying153] at h
  cases h
  intro w
  kernel_rfl
theorem fl111 {fs : Array Field} (h : Tryz.prog.underlying 111 = some (.struct fs) := by exact Tryz.underlying111) : FieldsLie Tryz.prog fs [(0, 1), (1, 1)] := by
  rw [Tryz.underlying111] at h
  cases h
  intro w
  kernel_rfl
theorem node_w (n x : Int) (s : Sl) (w : World) : Calls Tryz.prog 114 #[.agg (rdC n s).toArray, .int .i64 x] w fun e w' => e = .returned (.bool (nd n x)) ∧ Bel w w' := by
  refine H_enter Tryz.func114 rfl Tryz.ntmps114 rfl ?_
  refine H_seq ?_
  refine R0 ?_
  refine X_box (v := .agg _) rfl rfl fun b2 => ?_
  refine xV (e_as (v := .bool _) (q0 rfl)) rfl rfl ?_
  refine XN ?_
  refine thenJ_normal ?_
  refine H_seq ?_
  refine R0 ?_
  refine xV (e_mv (v := .int _ _) (q0 rfl)) rfl rfl ?_
  refine xV (e_le (q0 rfl) (q0 rfl)) rfl rfl ?_
  refine xV (e_mv (v := .bool _) (q0 rfl)) rfl rfl ?_
  refine xVT (e_mv (v := .int _ _) (q0 rfl)) rfl rfl rfl rfl ?_
  refine xVT (e_fld Tryz.underlying31 rfl Tryz.sizeOf3 rfl (q0 rfl)) rfl rfl rfl rfl ?_
  refine xVT (eL Tryz.isAgg3 (q1 rfl)) rfl rfl rfl rfl ?_
  refine xVT (e_lt (q1 rfl) (q1 rfl)) rfl rfl rfl rfl ?_
  refine xV (e_and (q0 rfl) rfl (fun h => by first | rfl | (rw [h]; rfl))) rfl rfl ?_
  refine xV (e_as (v := .bool _) (q0 rfl)) rfl rfl ?_
  refine XN ?_
  refine thenJ_normal ?_
  refine H_ret ?_
  exact ret1 (v := .bool _) rfl rfl rfl fun w' hw => ⟨rfl, hw.1⟩
set_option maxRecDepth 20000 in
theorem road_w (n : Int) (s : Sl) (es : List Eg) (w : World) (hx : SlAt w 3 Eg.cells s.A s.n es) : Calls Tryz.prog 78 #[.agg (rdC n s).toArray] w fun e w' => e = .returned (.int .i64 (rdErr n es)) ∧ Bel w w' := by
  obtain ⟨A, m, c⟩ := s
  have hl := hx.1
  have hn := hx.2.1
  simp only at hl hn hx
  refine H_enter Tryz.func78 rfl Tryz.ntmps78 rfl ?_
  refine H_seq ?_
  refine R0 ?_
  refine X_box (v := .agg _) rfl rfl fun b1 => ?_
  refine xV (e_as (v := .int _ _) (q0 rfl)) rfl rfl ?_
  refine XN ?_
  refine thenJ_normal ?_
  refine H_seq ?_
  refine H_seq ?_
  refine R0 ?_
  refine xV (e_fld Tryz.underlying31 rfl Tryz.sizeOf3 rfl (q0 rfl)) rfl rfl ?_
  refine xV (eL Tryz.isAgg3 (q0 rfl)) rfl rfl ?_
  refine xV (e_lt (q0 rfl) (q0 rfl)) rfl rfl ?_
  refine xV (e_mv (v := .bool _) (q0 rfl)) rfl rfl ?_
  refine xVF (e_fld Tryz.underlying31 rfl Tryz.sizeOf3 rfl (q0 rfl)) rfl rfl rfl rfl ?_
  refine xVF (eL Tryz.isAgg3 (q1 rfl)) rfl rfl rfl rfl ?_
  refine xVF (e_gt (q1 rfl) (q0 rfl)) rfl rfl rfl rfl ?_
  refine xV (e_or (q0 rfl) rfl (fun h => by first | rfl | (rw [h]; rfl))) rfl rfl ?_
  refine XN ?_
  refine thenJ_normal ?_
  refine H_cond rfl (fun h1 => ?_) (fun h1 => ?_)
  · have h1' : n < 1 ∨ 64 < n := by simp at h1; omega
    refine H_seq ?_
    refine R0 ?_
    refine xV (e_as (v := .int _ _) (q0 rfl)) rfl rfl ?_
    refine XN ?_
    refine thenJ_normal ?_
    refine H_ret ?_
    refine thenJ_ret ?_
    exact ret1 (v := .int _ _) rfl rfl rfl fun w' hw => ⟨ret_int (by unfold rdErr; rw [if_pos h1']), hw.1⟩
  · have h1' : ¬(n < 1 ∨ 64 < n) := by simp at h1; omega
    refine H_skip ?_
    refine thenJ_normal ?_
    refine H_seq ?_
    refine H_seq ?_
    refine R0 ?_
    refine xV (e_fld Tryz.underlying31 rfl Tryz.sizeOf29 rfl (q0 rfl)) rfl rfl ?_
    refine xV (eL Tryz.isAgg29 (q0 rfl)) rfl rfl ?_
    refine xV (e_len Tryz.underlying29 (q0 rfl)) rfl rfl ?_
    refine xV (e_gt (q0 rfl) (q0 rfl)) rfl rfl ?_
    refine XN ?_
    refine thenJ_normal ?_
    refine H_cond rfl (fun h2 => ?_) (fun h2 => ?_)
    · have h2' : 512 < es.length := by simp at h2; omega
      refine H_seq ?_
      refine R0 ?_
      refine xV (e_as (v := .int _ _) (q0 rfl)) rfl rfl ?_
      refine XN ?_
      refine thenJ_normal ?_
      refine H_ret ?_
      refine thenJ_ret ?_
      exact ret1 (v := .int _ _) rfl rfl rfl fun w' hw => ⟨ret_int (by unfold rdErr; rw [if_neg h1', if_pos h2']), hw.1⟩
    · have h2' : ¬512 < es.length := by simp at h2; omega
      have he : rdErr n es = fe (egErr n) es := by unfold rdErr; rw [if_neg h1', if_neg h2']
      rw [he]
      clear he
      refine H_skip ?_
      refine thenJ_normal ?_
      refine H_seq ?_
      refine H_seq ?_
      refine R0 ?_
      refine xV (e_fld Tryz.underlying31 rfl Tryz.sizeOf29 rfl (q0 rfl)) rfl rfl ?_
      refine xV (eL Tryz.isAgg29 (q0 rfl)) rfl rfl ?_
      refine xV (e_len Tryz.underlying29 (q0 rfl)) rfl rfl ?_
      refine xV (e_mv (v := .int _ _) (q0 rfl)) rfl rfl ?_
      refine XN ?_
      refine thenJ_normal ?_
      refine H_block ?_
      refine H_loop [2, 4, 20, 21, 22, 23, 24, 25, 26, 27, 28, 29, 30, 31, 32, 33, 34, 35, 36, 37, 38, 39, 40, 41, 42, 43, 44] (fun k : Nat => [(20, .int .i64 k)]) (fun _ => [box b1 31 (rdC n ⟨A, m, c⟩)]) (fun k => k ≤ m ∧ ∀ y ∈ es.take k, egErr n y = 0) (fun k => m - k) 0 ⟨rfl, trivial⟩ (fun w hw => hw) rfl ⟨Nat.zero_le _, fun y hy => by simp at hy⟩ ?_
      rintro k g ⟨hk, hall⟩
      refine H_seq ?_
      refine R0 ?_
      refine xV (e_lt (q0 rfl) (q0 rfl)) rfl rfl ?_
      refine XN ?_
      refine thenJ_normal ?_
      refine H_seq ?_
      refine H_cond rfl (fun hlt => ?_) (fun hlt => ?_)
      · have hlt' : k < m := by simpa using hlt
        obtain ⟨b, off, x, rfl, hbl, hxk, hrx⟩ := hx.at_ hlt'
        refine H_skip ?_
        refine thenJ_normal ?_
        refine H_seq ?_
        refine H_block ?_
        refine H_seq ?_
        refine R0 ?_
        refine xV (e_idx _ Tryz.underlying29 Tryz.sizeOf165 (q0 rfl) (q0 rfl) (fun _ => ⟨rfl, by omega⟩)) rfl rfl ?_
        refine xV (eS Tryz.isAgg165 Tryz.sizeOf165 (q0 rfl)) rfl rfl ?_
        refine X_alloc Tryz.zeroValue165 rfl fun b4 => ?_
        refine X_st (v := .agg _) rfl rfl Tryz.sizeOf165 ?_
        refine XN ?_
        refine thenJ_normal ?_
        refine H_seq ?_
        refine H_seq ?_
        refine R0 ?_
        refine xV (eS Tryz.isAgg31 Tryz.sizeOf31 (q0 rfl)) rfl rfl ?_
        refine xV (e_fld Tryz.underlying165 rfl Tryz.sizeOf3 rfl (q0 rfl)) rfl rfl ?_
        refine xV (eL Tryz.isAgg3 (q0 rfl)) rfl rfl ?_
        refine xC (en Tryz.call114 (ha2 (q0 rfl) (q0 rfl))) (fun _ w _ => node_w n x.a _ w) rfl rfl ?_
        refine xV (e_not (q0 rfl)) rfl rfl ?_
        refine xV (e_mv (v := .bool _) (q0 rfl)) rfl rfl ?_
        refine xVF (eS Tryz.isAgg31 Tryz.sizeOf31 (q0 rfl)) rfl rfl rfl rfl ?_
        refine xVF (e_fld Tryz.underlying165 rfl Tryz.sizeOf3 rfl (q0 rfl)) rfl rfl rfl rfl ?_
        refine xVF (eL Tryz.isAgg3 (q1 rfl)) rfl rfl rfl rfl ?_
        refine xCF (en Tryz.call114 (ha2 (q1 (v := .agg _) rfl) (q1 (v := .int _ _) rfl))) (fun _ w _ => node_w n x.b _ w) rfl rfl rfl rfl ?_
        refine xVF (e_not (q1 rfl)) rfl rfl rfl rfl ?_
        refine xV (e_or (q0 rfl) rfl (fun h => by first | rfl | (rw [h]; rfl))) rfl rfl ?_
        refine XN ?_
        refine thenJ_normal ?_
        refine H_cond rfl (fun hb => ?_) (fun hb => ?_)
        · have hb' : ((!nd n x.a) || !nd n x.b) = true := hb
          have h7 : egErr n x = 7 := by unfold egErr; rw [if_pos hb']
          refine H_seq ?_
          refine R0 ?_
          refine xV (e_as (v := .int _ _) (q0 rfl)) rfl rfl ?_
          refine XN ?_
          refine thenJ_normal ?_
          refine H_ret ?_
          refine thenJ_ret ?_
          refine blockJ_ret ?_
          refine thenJ_ret ?_
          refine loopJ_ret ?_
          refine blockJ_ret ?_
          refine thenJ_ret ?_
          exact ret1 (v := .int _ _) rfl rfl rfl fun w' hw => ⟨ret_int (by rw [fe_bad hall hxk (by rw [h7]; decide), h7]), hw.1⟩
        · have hb' : ¬((!nd n x.a) || !nd n x.b) = true := by
            have h : ((!nd n x.a) || !nd n x.b) = false := hb
            rw [h]; decide
          refine H_skip ?_
          refine thenJ_normal ?_
          refine H_seq ?_
          refine R0 ?_
          refine xV (e_fld Tryz.underlying165 rfl Tryz.sizeOf3 rfl (q0 rfl)) rfl rfl ?_
          refine xV (eL Tryz.isAgg3 (q0 rfl)) rfl rfl ?_
          refine xV (e_lt (q0 rfl) (q0 rfl)) rfl rfl ?_
          refine xV (e_mv (v := .bool _) (q0 rfl)) rfl rfl ?_
          refine xVF (e_fld Tryz.underlying165 rfl Tryz.sizeOf3 rfl (q0 rfl)) rfl rfl rfl rfl ?_
          refine xVF (eL Tryz.isAgg3 (q1 rfl)) rfl rfl rfl rfl ?_
          refine xVF (e_gt (q1 rfl) (q0 rfl)) rfl rfl rfl rfl ?_
          refine xV (e_or (q0 rfl) rfl (fun h => by first | rfl | (rw [h]; rfl))) rfl rfl ?_
          refine XN ?_
          refine thenJ_normal ?_
          refine H_cond rfl (fun hc => ?_) (fun hc => ?_)
          · have hc' : (decide (x.s < 1) || decide (1000 < x.s)) = true := hc
            have h7 : egErr n x = 1 := by unfold egErr; rw [if_neg hb', if_pos hc']
            refine H_seq ?_
            refine R0 ?_
            refine xV (e_as (v := .int _ _) (q0 rfl)) rfl rfl ?_
            refine XN ?_
            refine thenJ_normal ?_
            refine H_ret ?_
            refine blockJ_ret ?_
            refine thenJ_ret ?_
            refine loopJ_ret ?_
            refine blockJ_ret ?_
            refine thenJ_ret ?_
            exact ret1 (v := .int _ _) rfl rfl rfl fun w' hw => ⟨ret_int (by rw [fe_bad hall hxk (by rw [h7]; decide), h7]), hw.1⟩
          · have hc' : ¬(decide (x.s < 1) || decide (1000 < x.s)) = true := by
              have h : (decide (x.s < 1) || decide (1000 < x.s)) = false := hc
              rw [h]; decide
            have h7 : egErr n x = 0 := by unfold egErr; rw [if_neg hb', if_neg hc']
            refine H_skip ?_
            refine blockJ_normal ?_
            refine thenJ_normal ?_
            refine R0 ?_
            refine xV (e_add (q0 rfl) (q0 rfl) (fun _ => ⟨rfl, by omega, by omega⟩)) rfl rfl ?_
            refine xV (e_mv (v := .int _ _) (q0 rfl)) rfl rfl ?_
            refine XN ?_
            exact loopJ_normal (k + 1) (by repeat (first | exact agree_self | exact agree_over | refine agree_upd rfl ?_ | refine agree_updL rfl ?_ | refine agree_over2 rfl ?_)) ⟨rfl, trivial⟩ (fun w hw => hw.tail) rfl ⟨by omega, fe_on hall hxk h7⟩ (by show m - (k + 1) < m - k; omega)
      · have hend : k = m := by simp at hlt; omega
        refine H_exit ?_
        refine thenJ_exit ?_
        refine loopJ_exit ?_
        refine blockJ_hit ?_
        refine thenJ_normal ?_
        refine H_seq ?_
        refine R0 ?_
        refine xV (e_as (v := .int _ _) (q0 rfl)) rfl rfl ?_
        refine XN ?_
        refine thenJ_normal ?_
        refine H_ret ?_
        exact ret1 (v := .int _ _) rfl rfl rfl fun w' hw => ⟨ret_int (fe_end hall (by omega)).symm, hw.1⟩
theorem kin_w (n lo hi : Int) (w : World) : Calls Tryz.prog 79 #[.int .i64 n, .int .i64 lo, .int .i64 hi] w fun e w' => e = .returned (.bool (inI n lo hi)) ∧ Bel w w' := by
  refine H_enter Tryz.func79 rfl Tryz.ntmps79 rfl ?_
  refine H_seq ?_
  refine R0 ?_
  refine xV (e_as (v := .bool _) (q0 rfl)) rfl rfl ?_
  refine XN ?_
  refine thenJ_normal ?_
  refine H_seq ?_
  refine R0 ?_
  refine xV (e_mv (v := .int _ _) (q0 rfl)) rfl rfl ?_
  refine xV (e_mv (v := .int _ _) (q0 rfl)) rfl rfl ?_
  refine xV (e_le (q0 rfl) (q0 rfl)) rfl rfl ?_
  refine xV (e_mv (v := .bool _) (q0 rfl)) rfl rfl ?_
  refine xVT (e_mv (v := .int _ _) (q0 rfl)) rfl rfl rfl rfl ?_
  refine xVT (e_mv (v := .int _ _) (q0 rfl)) rfl rfl rfl rfl ?_
  refine xVT (e_le (q1 rfl) (q1 rfl)) rfl rfl rfl rfl ?_
  refine xV (e_and (q0 rfl) rfl (fun h => by first | rfl | (rw [h]; rfl))) rfl rfl ?_
  refine xV (e_as (v := .bool _) (q0 rfl)) rfl rfl ?_
  refine XN ?_
  refine thenJ_normal ?_
  refine H_ret ?_
  exact ret1 (v := .bool _) rfl rfl rfl fun w' hw => ⟨rfl, hw.1⟩
theorem sameN_w (y x : Nd) (b : Nat) (w : World) (hb : RowAt w b 0 x.cells) (hbl : b < w.heap.size) : Calls Tryz.prog 81 #[.agg y.cells.toArray, .pointer (some ⟨b, 0, none⟩)] w fun e w' => e = .returned (.bool (decide (y.n = x.n))) ∧ Bel w w' := by
  refine H_enter Tryz.func81 rfl Tryz.ntmps81 rfl ?_
  refine H_seq ?_
  refine R0 ?_
  refine X_box (v := .agg _) rfl rfl fun b2 => ?_
  refine xV (e_as (v := .bool _) (q0 rfl)) rfl rfl ?_
  refine XN ?_
  refine thenJ_normal ?_
  refine H_seq ?_
  refine R0 ?_
  refine xV (e_fld Tryz.underlying153 rfl Tryz.sizeOf3 rfl (q0 rfl)) rfl rfl ?_
  refine xV (eL Tryz.isAgg3 (q0 rfl)) rfl rfl ?_
  refine xV (e_fld Tryz.underlying153 rfl Tryz.sizeOf3 rfl (q0 rfl)) rfl rfl ?_
  refine xV (e_ld (v := .int .i64 x.n) Tryz.isAgg3 (q0 rfl) (rc (j := 0) hb hbl rfl)) rfl rfl ?_
  refine xV (e_eq (q0 rfl) (q0 rfl)) rfl rfl ?_
  refine xV (e_as (v := .bool _) (q0 rfl)) rfl rfl ?_
  refine XN ?_
  refine thenJ_normal ?_
  refine H_ret ?_
  exact ret1 (v := .bool _) rfl rfl rfl fun w' hw => ⟨rfl, hw.1⟩
theorem idxN_w (A : Option Addr) (n c : Nat) (xs : List Nd) (x : Nd) (b : Nat) (w : World) (hx : SlAt w 2 Nd.cells A n xs) (hb : RowAt w b 0 x.cells) (hbl : b < w.heap.size) : Calls Tryz.prog 115 #[.slice A n c, .func (.func 81) #[] #[.pointer (some ⟨b, 0, none⟩)]] w fun e w' => (∃ i : Int, e = .returned (.int .i64 i) ∧ (decide (0 ≤ i) = xs.any fun y => decide (y.n = x.n))) ∧ Bel w w' := by
  have hl := hx.1
  have hn := hx.2.1
  refine H_enter Tryz.func115 rfl Tryz.ntmps115 rfl ?_
  refine H_seq ?_
  refine R0 ?_
  refine xV (e_as (v := .int _ _) (q0 rfl)) rfl rfl ?_
  refine XN ?_
  refine thenJ_normal ?_
  refine H_seq ?_
  refine H_seq ?_
  refine R0 ?_
  refine xV (e_mv (v := .slice _ _ _) (q0 rfl)) rfl rfl ?_
  refine xV (e_len Tryz.underlying33 (q0 rfl)) rfl rfl ?_
  refine xV (e_mv (v := .int _ _) (q0 rfl)) rfl rfl ?_
  refine XN ?_
  refine thenJ_normal ?_
  refine H_block ?_
  refine H_loop [4, 5, 8, 9, 10, 11, 12, 13, 14, 15, 16, 17, 18] (fun k : Nat => [(8, .int .i64 k)]) (fun _ => []) (fun k => k ≤ n ∧ ((xs.take k).any fun y => decide (y.n = x.n)) = false) (fun k => n - k) 0 ⟨rfl, trivial⟩ (fun w hw => hw) rfl ⟨Nat.zero_le _, rfl⟩ ?_
  rintro k g ⟨hk, hall⟩
  refine H_seq ?_
  refine R0 ?_
  refine xV (e_lt (q0 rfl) (q0 rfl)) rfl rfl ?_
  refine XN ?_
  refine thenJ_normal ?_
  refine H_seq ?_
  refine H_cond rfl (fun hlt => ?_) (fun hlt => ?_)
  · have hlt' : k < n := by simpa using hlt
    obtain ⟨pb, off, y, rfl, hpbl, hyk, hry⟩ := hx.at_ hlt'
    refine H_skip ?_
    refine thenJ_normal ?_
    refine H_seq ?_
    refine H_block ?_
    refine H_seq ?_
    refine R0 ?_
    refine xV (e_mv (v := .int _ _) (q0 rfl)) rfl rfl ?_
    refine xV (e_as (v := .int _ _) (q0 rfl)) rfl rfl ?_
    refine XN ?_
    refine thenJ_normal ?_
    refine H_seq ?_
    refine R0 ?_
    refine xV (e_mv (q0 rfl)) rfl rfl ?_
    refine xV (e_mv (v := .slice _ _ _) (q0 rfl)) rfl rfl ?_
    refine xV (e_mv (v := .int _ _) (q0 rfl)) rfl rfl ?_
    refine xV (e_idx _ Tryz.underlying33 Tryz.sizeOf153 (q0 rfl) (q0 rfl) (fun _ => ⟨rfl, by omega⟩)) rfl rfl ?_
    refine xV (eS Tryz.isAgg153 Tryz.sizeOf153 (q0 rfl)) rfl rfl ?_
    refine xC (enV (cap := [.pointer (some ⟨b, 0, none⟩)]) (al := [.agg y.cells.toArray, .pointer (some ⟨b, 0, none⟩)]) Tryz.call81 (q0 rfl) (fun hg => by rw [ha1 (q0 (v := .agg _) rfl) hg]; rfl)) (fun _ w hw => sameN_w y x b w (fun j u hu => rcs hb hbl rfl w hw j u hu) (Nat.lt_of_lt_of_le hbl hw.1.size)) rfl rfl ?_
    refine XN ?_
    refine thenJ_normal ?_
    refine H_cond rfl (fun hv => ?_) (fun hv => ?_)
    · have hv' : decide (y.n = x.n) = true := hv
      refine H_seq ?_
      refine R0 ?_
      refine xV (e_mv (v := .int _ _) (q0 rfl)) rfl rfl ?_
      refine xV (e_as (v := .int _ _) (q0 rfl)) rfl rfl ?_
      refine XN ?_
      refine thenJ_normal ?_
      refine H_ret ?_
      refine blockJ_ret ?_
      refine thenJ_ret ?_
      refine loopJ_ret ?_
      refine blockJ_ret ?_
      refine thenJ_ret ?_
      exact ret1 (v := .int _ _) rfl rfl rfl fun w' hw => ⟨⟨k, rfl, by rw [List.any_eq_true.2 ⟨y, List.mem_of_getElem? hyk, hv'⟩]; simp⟩, hw.1⟩
    · have hv' : decide (y.n = x.n) = false := hv
      refine H_skip ?_
      refine blockJ_normal ?_
      refine thenJ_normal ?_
      refine R0 ?_
      refine xV (e_add (q0 rfl) (q0 rfl) (fun _ => ⟨rfl, by omega, by omega⟩)) rfl rfl ?_
      refine xV (e_mv (v := .int _ _) (q0 rfl)) rfl rfl ?_
      refine XN ?_
      exact loopJ_normal (k + 1) (by repeat (first | exact agree_self | exact agree_over | refine agree_upd rfl ?_ | refine agree_updL rfl ?_ | refine agree_over2 rfl ?_)) ⟨rfl, trivial⟩ (fun w hw => hw) rfl ⟨by omega, by rw [snocT _ _ _ hyk, List.any_append, hall]; simp [hv']⟩ (by show n - (k + 1) < n - k; omega)
  · have hend : k = n := by simp at hlt; omega
    rw [hend, List.take_of_length_le (by omega)] at hall
    refine H_exit ?_
    refine thenJ_exit ?_
    refine loopJ_exit ?_
    refine blockJ_hit ?_
    refine thenJ_normal ?_
    refine H_seq ?_
    refine R0 ?_
    refine xV (e_as (v := .int _ _) (q0 rfl)) rfl rfl ?_
    refine XN ?_
    refine thenJ_normal ?_
    refine H_ret ?_
    exact ret1 (v := .int _ _) rfl rfl rfl fun w' hw => ⟨⟨-1, rfl, by rw [hall]; rfl⟩, hw.1⟩
theorem conN_w (A : Option Addr) (n c : Nat) (xs : List Nd) (x : Nd) (b : Nat) (w : World) (hx : SlAt w 2 Nd.cells A n xs) (hb : RowAt w b 0 x.cells) (hbl : b < w.heap.size) : Calls Tryz.prog 80 #[.slice A n c, .func (.func 81) #[] #[.pointer (some ⟨b, 0, none⟩)]] w fun e w' => e = .returned (.bool (xs.any fun y => decide (y.n = x.n))) ∧ Bel w w' := by
  refine H_enter Tryz.func80 rfl Tryz.ntmps80 rfl ?_
  refine H_seq ?_
  refine R0 ?_
  refine xV (e_as (v := .bool _) (q0 rfl)) rfl rfl ?_
  refine XN ?_
  refine thenJ_normal ?_
  refine H_seq ?_
  refine R0 ?_
  refine xV (e_mv (v := .slice _ _ _) (q0 rfl)) rfl rfl ?_
  refine xV (e_mv (q0 rfl)) rfl rfl ?_
  refine xCX (en Tryz.call115 (ha2 (q0 rfl) (q0 rfl))) (fun w hw => (idxN_w A n c xs x b w (hx.mem hw) (fun j u hu => rcs hb hbl rfl w hw j u hu) (Nat.lt_of_lt_of_le hbl hw.1.size)).mono fun r w' h => (match h with | ⟨⟨i, h1, h2⟩, hb⟩ => (⟨(⟨i, h2⟩ : { i : Int // decide (0 ≤ i) = xs.any fun y => decide (y.n = x.n) }), h1, mem_nil.2 hb⟩ : ∃ z : { i : Int // decide (0 ≤ i) = xs.any fun y => decide (y.n = x.n) }, r = .returned (.int .i64 z.1) ∧ Mem w [] w'))) rfl (fun _ => rfl) fun z => ?_
  refine xV (e_ge (q0 rfl) (q0 rfl)) rfl rfl ?_
  refine xV (e_as (v := .bool _) (q0 rfl)) rfl rfl ?_
  refine XN ?_
  refine thenJ_normal ?_
  refine H_ret ?_
  exact ret1 (v := .bool _) rfl rfl rfl fun w' hw => ⟨ret_bool (show decide (0 ≤ z.1) = _ from z.2), hw.1⟩
theorem chain_if {a b c d r : Int} {p q : Prop} [Decidable p] [Decidable q] (h : r = if a ≠ 0 then a else if p then 8 else if b ≠ 0 then b else if c ≠ 0 then c else if q then 6 else d) : (a ≠ 0 → r = a) ∧ (a = 0 → p → r = 8) ∧ (a = 0 → ¬p → b ≠ 0 → r = b) ∧ (a = 0 → ¬p → b = 0 → c ≠ 0 → r = c) ∧ (a = 0 → ¬p → b = 0 → c = 0 → q → r = 6) ∧ (a = 0 → ¬p → b = 0 → c = 0 → ¬q → r = d) := by
  refine ⟨fun h1 => ?_, fun h1 h2 => ?_, fun h1 h2 h3 => ?_, fun h1 h2 h3 h4 => ?_, fun h1 h2 h3 h4 h5 => ?_, fun h1 h2 h3 h4 h5 => ?_⟩ <;> simp_all
theorem ng_if (g : Ng) : (rdErr g.n g.es ≠ 0 → ngErr g = rdErr g.n g.es) ∧ (rdErr g.n g.es = 0 → 8 < g.ts.length ∨ 16 < g.ds.length → ngErr g = 8) ∧ (rdErr g.n g.es = 0 → ¬(8 < g.ts.length ∨ 16 < g.ds.length) → fe (tkErr g.n) g.ts ≠ 0 → ngErr g = fe (tkErr g.n) g.ts) ∧ (rdErr g.n g.es = 0 → ¬(8 < g.ts.length ∨ 16 < g.ds.length) → fe (tkErr g.n) g.ts = 0 → fe (neErr g.n) g.ds ≠ 0 → ngErr g = fe (neErr g.n) g.ds) ∧ (rdErr g.n g.es = 0 → ¬(8 < g.ts.length ∨ 16 < g.ds.length) → fe (tkErr g.n) g.ts = 0 → fe (neErr g.n) g.ds = 0 → ax (twAt g.ds) g.ds.length = true → ngErr g = 6) ∧ (rdErr g.n g.es = 0 → ¬(8 < g.ts.length ∨ 16 < g.ds.length) → fe (tkErr g.n) g.ts = 0 → fe (neErr g.n) g.ds = 0 → ¬ax (twAt g.ds) g.ds.length = true → ngErr g = if (!inI g.h 0 3600) = true then 1 else 0) := chain_if rfl
set_option maxRecDepth 20000 in
set_option maxHeartbeats 1000000 in
theorem night_w (n : Int) (es : List Eg) (ts : List Tk) (ds : List Nd) (hh : Int) (e t d : Sl) (w : World) (hE : SlAt w 3 Eg.cells e.A e.n es) (hT : SlAt w 4 Tk.cells t.A t.n ts) (hD : SlAt w 2 Nd.cells d.A d.n ds) (hdc : d.n ≤ d.c) : Calls Tryz.prog 26 #[.agg (ngC n hh e t d).toArray] w fun e w' => e = .returned (.int .i64 (ngErr ⟨n, es, ts, ds, hh⟩)) ∧ Bel w w' := by
  obtain ⟨i1, i2, i3, i4, i5, i6⟩ := ng_if ⟨n, es, ts, ds, hh⟩
  obtain ⟨tA, tn, tc⟩ := t
  obtain ⟨dA, dn, dc⟩ := d
  have hlT := hT.1
  have hnT := hT.2.1
  have hlD := hD.1
  have hnD := hD.2.1
  simp only at hlT hnT hlD hnD hT hD hE hdc i1 i2 i3 i4 i5 i6
  refine H_enter Tryz.func26 rfl Tryz.ntmps26 rfl ?_
  refine H_seq ?_
  refine R0 ?_
  refine X_box (v := .agg _) rfl rfl fun b1 => ?_
  refine xV (e_as (v := .int _ _) (q0 rfl)) rfl rfl ?_
  refine XN ?_
  refine thenJ_normal ?_
  refine H_seq ?_
  refine H_seq ?_
  refine R0 ?_
  refine xV (e_fld Tryz.underlying35 rfl Tryz.sizeOf31 rfl (q0 rfl)) rfl rfl ?_
  refine xV (eP Tryz.isAgg31 Tryz.sizeOf31 (q0 rfl)) rfl rfl ?_
  refine xC (en Tryz.call78 (ha1 (q0 rfl))) (fun _ w hw => road_w n e es w (hE.mem hw)) rfl rfl ?_
  refine xV (e_as (v := .int _ _) (q0 rfl)) rfl rfl ?_
  refine XN ?_
  refine thenJ_normal ?_
  refine H_seq ?_
  refine R0 ?_
  refine xV (e_mv (v := .int _ _) (q0 rfl)) rfl rfl ?_
  refine xV (e_ne (q0 rfl) (q0 rfl)) rfl rfl ?_
  refine XN ?_
  refine thenJ_normal ?_
  refine H_cond rfl (fun h1 => ?_) (fun h1 => ?_)
  · have h1' : rdErr n es ≠ 0 := by simpa using h1
    refine H_seq ?_
    refine R0 ?_
    refine xV (e_mv (v := .int _ _) (q0 rfl)) rfl rfl ?_
    refine xV (e_as (v := .int _ _) (q0 rfl)) rfl rfl ?_
    refine XN ?_
    refine thenJ_normal ?_
    refine H_ret ?_
    refine thenJ_ret ?_
    exact ret1 (v := .int _ _) rfl rfl rfl fun w' hw => ⟨ret_int (i1 h1').symm, hw.1⟩
  · have h1' : rdErr n es = 0 := by simpa using h1
    have hnd := rd_ok h1'
    refine H_skip ?_
    refine thenJ_normal ?_
    refine H_seq ?_
    refine H_seq ?_
    refine R0 ?_
    refine xV (e_fld Tryz.underlying35 rfl Tryz.sizeOf32 rfl (q0 rfl)) rfl rfl ?_
    refine xV (eL Tryz.isAgg32 (q0 rfl)) rfl rfl ?_
    refine xV (e_len Tryz.underlying32 (q0 rfl)) rfl rfl ?_
    refine xV (e_gt (q0 rfl) (q0 rfl)) rfl rfl ?_
    refine xV (e_mv (v := .bool _) (q0 rfl)) rfl rfl ?_
    refine xVF (e_fld Tryz.underlying35 rfl Tryz.sizeOf33 rfl (q0 rfl)) rfl rfl rfl rfl ?_
    refine xVF (eL Tryz.isAgg33 (q1 rfl)) rfl rfl rfl rfl ?_
    refine xVF (e_len Tryz.underlying33 (q1 rfl)) rfl rfl rfl rfl ?_
    refine xVF (e_gt (q1 rfl) (q0 rfl)) rfl rfl rfl rfl ?_
    refine xV (e_or (q0 rfl) rfl (fun h => by first | rfl | (rw [h]; rfl))) rfl rfl ?_
    refine XN ?_
    refine thenJ_normal ?_
    refine H_cond rfl (fun h2 => ?_) (fun h2 => ?_)
    · have h2' : 8 < ts.length ∨ 16 < ds.length := by simp at h2; omega
      refine H_seq ?_
      refine R0 ?_
      refine xV (e_as (v := .int _ _) (q0 rfl)) rfl rfl ?_
      refine XN ?_
      refine thenJ_normal ?_
      refine H_ret ?_
      refine thenJ_ret ?_
      exact ret1 (v := .int _ _) rfl rfl rfl fun w' hw => ⟨ret_int (i2 h1' h2').symm, hw.1⟩
    · have h2' : ¬(8 < ts.length ∨ 16 < ds.length) := by simp at h2; omega
      refine H_skip ?_
      refine thenJ_normal ?_
      refine H_seq ?_
      refine H_seq ?_
      refine R0 ?_
      refine xV (e_fld Tryz.underlying35 rfl Tryz.sizeOf32 rfl (q0 rfl)) rfl rfl ?_
      refine xV (eL Tryz.isAgg32 (q0 rfl)) rfl rfl ?_
      refine xV (e_len Tryz.underlying32 (q0 rfl)) rfl rfl ?_
      refine xV (e_mv (v := .int _ _) (q0 rfl)) rfl rfl ?_
      refine XN ?_
      refine thenJ_normal ?_
      refine H_block ?_
      refine H_loop [2, 5, 29, 30, 31, 32, 33, 34, 35, 36, 37, 38, 39, 40, 41, 42, 43, 44, 45, 46, 47, 48, 49, 50, 51, 52, 53, 54, 55, 56, 57, 58, 59, 60, 61, 62, 63, 64, 65, 66] (fun k : Nat => [(29, .int .i64 k)]) (fun _ => [box b1 35 (ngC n hh e ⟨tA, tn, tc⟩ ⟨dA, dn, dc⟩)]) (fun k => k ≤ tn ∧ ∀ y ∈ ts.take k, tkErr n y = 0) (fun k => tn - k) 0 ⟨rfl, trivial⟩ (fun w hw => hw) rfl ⟨Nat.zero_le _, fun y hy => by simp at hy⟩ ?_
      rintro k g ⟨hk, hall⟩
      refine H_seq ?_
      refine R0 ?_
      refine xV (e_lt (q0 rfl) (q0 rfl)) rfl rfl ?_
      refine XN ?_
      refine thenJ_normal ?_
      refine H_seq ?_
      refine H_cond rfl (fun hlt => ?_) (fun hlt => ?_)
      · have hlt' : k < tn := by simpa using hlt
        obtain ⟨b, off, x, rfl, hbl, hxk, hrx⟩ := hT.at_ hlt'
        refine H_skip ?_
        refine thenJ_normal ?_
        refine H_seq ?_
        refine H_block ?_
        refine H_seq ?_
        refine R0 ?_
        refine xV (e_idx _ Tryz.underlying32 Tryz.sizeOf150 (q0 rfl) (q0 rfl) (fun _ => ⟨rfl, by omega⟩)) rfl rfl ?_
        refine xV (eS Tryz.isAgg150 Tryz.sizeOf150 (q0 rfl)) rfl rfl ?_
        refine X_alloc Tryz.zeroValue150 rfl fun b5 => ?_
        refine X_st (v := .agg _) rfl rfl Tryz.sizeOf150 ?_
        refine XN ?_
        refine thenJ_normal ?_
        refine H_seq ?_
        refine H_seq ?_
        refine R0 ?_
        refine xV (e_fld Tryz.underlying150 rfl Tryz.sizeOf3 rfl (q0 rfl)) rfl rfl ?_
        refine xV (eL Tryz.isAgg3 (q0 rfl)) rfl rfl ?_
        refine xV (e_fld Tryz.underlying35 rfl Tryz.sizeOf31 rfl (q0 rfl)) rfl rfl ?_
        refine xV (e_fld Tryz.underlying31 rfl Tryz.sizeOf3 rfl (q0 rfl)) rfl rfl ?_
        refine xV (eL Tryz.isAgg3 (q0 rfl)) rfl rfl ?_
        refine xV (e_sub (q0 rfl) (q0 rfl) (fun _ => ⟨rfl, by omega, by omega⟩)) rfl rfl ?_
        refine xC (en Tryz.call79 (ha3 (q0 rfl) (q0 rfl) (q0 rfl))) (fun _ w _ => kin_w x.d 0 (n - 1) w) rfl rfl ?_
        refine xV (e_not (q0 rfl)) rfl rfl ?_
        refine XN ?_
        refine thenJ_normal ?_
        refine H_cond rfl (fun hb => ?_) (fun hb => ?_)
        · have hb' : (!nd n x.d) = true := by rw [nd_in]; exact hb
          have h7 : tkErr n x = 7 := by unfold tkErr; rw [if_pos hb']
          have h8 : fe (tkErr n) ts = 7 := by rw [fe_bad hall hxk (by rw [h7]; decide), h7]
          refine H_seq ?_
          refine R0 ?_
          refine xV (e_as (v := .int _ _) (q0 rfl)) rfl rfl ?_
          refine XN ?_
          refine thenJ_normal ?_
          refine H_ret ?_
          refine thenJ_ret ?_
          refine blockJ_ret ?_
          refine thenJ_ret ?_
          refine loopJ_ret ?_
          refine blockJ_ret ?_
          refine thenJ_ret ?_
          exact ret1 (v := .int _ _) rfl rfl rfl fun w' hw => ⟨ret_int (by rw [i3 h1' h2' (by rw [h8]; decide), h8]), hw.1⟩
        · have hb' : ¬(!nd n x.d) = true := by
            have h : (!inI x.d 0 (n - 1)) = false := hb
            rw [nd_in, h]; decide
          refine H_skip ?_
          refine thenJ_normal ?_
          refine H_seq ?_
          refine R0 ?_
          refine xV (e_fld Tryz.underlying150 rfl Tryz.sizeOf3 rfl (q0 rfl)) rfl rfl ?_
          refine xV (eL Tryz.isAgg3 (q0 rfl)) rfl rfl ?_
          refine xC (en Tryz.call79 (ha3 (q0 rfl) (q0 rfl) (q0 rfl))) (fun _ w _ => kin_w x.c 1 32 w) rfl rfl ?_
          refine xV (e_not (q0 rfl)) rfl rfl ?_
          refine xV (e_mv (v := .bool _) (q0 rfl)) rfl rfl ?_
          refine xVF (e_fld Tryz.underlying150 rfl Tryz.sizeOf111 rfl (q0 rfl)) rfl rfl rfl rfl ?_
          refine xVF (e_fld Tryz.underlying111 rfl Tryz.sizeOf3 rfl (q1 rfl)) rfl rfl rfl rfl ?_
          refine xVF (eL Tryz.isAgg3 (q1 rfl)) rfl rfl rfl rfl ?_
          refine xVF (e_lt (q1 rfl) (q0 rfl)) rfl rfl rfl rfl ?_
          refine xV (e_or (q0 rfl) rfl (fun h => by first | rfl | (rw [h]; rfl))) rfl rfl ?_
          refine xV (e_mv (v := .bool _) (q0 rfl)) rfl rfl ?_
          refine xVF (e_fld Tryz.underlying150 rfl Tryz.sizeOf111 rfl (q0 rfl)) rfl rfl rfl rfl ?_
          refine xVF (e_fld Tryz.underlying111 rfl Tryz.sizeOf3 rfl (q1 rfl)) rfl rfl rfl rfl ?_
          refine xVF (eL Tryz.isAgg3 (q1 rfl)) rfl rfl rfl rfl ?_
          refine xVF (e_fld Tryz.underlying150 rfl Tryz.sizeOf111 rfl (q0 rfl)) rfl rfl rfl rfl ?_
          refine xVF (e_fld Tryz.underlying111 rfl Tryz.sizeOf3 rfl (q1 rfl)) rfl rfl rfl rfl ?_
          refine xVF (eL Tryz.isAgg3 (q1 rfl)) rfl rfl rfl rfl ?_
          refine xVF (e_gt (q1 rfl) (q1 rfl)) rfl rfl rfl rfl ?_
          refine xV (e_or (q0 rfl) rfl (fun h => by first | rfl | (rw [h]; rfl))) rfl rfl ?_
          refine xV (e_mv (v := .bool _) (q0 rfl)) rfl rfl ?_
          refine xVF (e_fld Tryz.underlying150 rfl Tryz.sizeOf111 rfl (q0 rfl)) rfl rfl rfl rfl ?_
          refine xVF (e_fld Tryz.underlying111 rfl Tryz.sizeOf3 rfl (q1 rfl)) rfl rfl rfl rfl ?_
          refine xVF (eL Tryz.isAgg3 (q1 rfl)) rfl rfl rfl rfl ?_
          refine xVF (e_gt (q1 rfl) (q0 rfl)) rfl rfl rfl rfl ?_
          refine xV (e_or (q0 rfl) rfl (fun h => by first | rfl | (rw [h]; rfl))) rfl rfl ?_
          refine XN ?_
          refine thenJ_normal ?_
          refine H_cond rfl (fun hc => ?_) (fun hc => ?_)
          · have hc' : ((((!inI x.c 1 32) || decide (x.lo < 0)) || decide (x.hi < x.lo)) || decide (86400 < x.hi)) = true := hc
            have h7 : tkErr n x = 1 := by unfold tkErr; rw [if_neg hb', if_pos hc']
            have h8 : fe (tkErr n) ts = 1 := by rw [fe_bad hall hxk (by rw [h7]; decide), h7]
            refine H_seq ?_
            refine R0 ?_
            refine xV (e_as (v := .int _ _) (q0 rfl)) rfl rfl ?_
            refine XN ?_
            refine thenJ_normal ?_
            refine H_ret ?_
            refine blockJ_ret ?_
            refine thenJ_ret ?_
            refine loopJ_ret ?_
            refine blockJ_ret ?_
            refine thenJ_ret ?_
            exact ret1 (v := .int _ _) rfl rfl rfl fun w' hw => ⟨ret_int (by rw [i3 h1' h2' (by rw [h8]; decide), h8]), hw.1⟩
          · have hc' : ¬((((!inI x.c 1 32) || decide (x.lo < 0)) || decide (x.hi < x.lo)) || decide (86400 < x.hi)) = true := by
              have h : ((((!inI x.c 1 32) || decide (x.lo < 0)) || decide (x.hi < x.lo)) || decide (86400 < x.hi)) = false := hc
              rw [h]; decide
            have h7 : tkErr n x = 0 := by unfold tkErr; rw [if_neg hb', if_neg hc']
            refine H_skip ?_
            refine blockJ_normal ?_
            refine thenJ_normal ?_
            refine R0 ?_
            refine xV (e_add (q0 rfl) (q0 rfl) (fun _ => ⟨rfl, by omega, by omega⟩)) rfl rfl ?_
            refine xV (e_mv (v := .int _ _) (q0 rfl)) rfl rfl ?_
            refine XN ?_
            exact loopJ_normal (k + 1) (by repeat (first | exact agree_self | exact agree_over | refine agree_upd rfl ?_ | refine agree_updL rfl ?_ | refine agree_over2 rfl ?_)) ⟨rfl, trivial⟩ (fun w hw => hw.tail) rfl ⟨by omega, fe_on hall hxk h7⟩ (by show tn - (k + 1) < tn - k; omega)
      · have hend : k = tn := by simp at hlt; omega
        have h3' : fe (tkErr n) ts = 0 := fe_end hall (by omega)
        clear hall
        refine H_exit ?_
        refine thenJ_exit ?_
        refine loopJ_exit ?_
        refine blockJ_hit ?_
        refine thenJ_normal ?_
        refine H_seq ?_
        refine H_seq ?_
        refine R0 ?_
        refine xV (e_fld Tryz.underlying35 rfl Tryz.sizeOf33 rfl (q0 rfl)) rfl rfl ?_
        refine xV (eL Tryz.isAgg33 (q0 rfl)) rfl rfl ?_
        refine xV (e_len Tryz.underlying33 (q0 rfl)) rfl rfl ?_
        refine xV (e_mv (v := .int _ _) (q0 rfl)) rfl rfl ?_
        refine XN ?_
        refine thenJ_normal ?_
        refine H_block ?_
        refine H_loop [2, 7, 70, 71, 72, 73, 74, 75, 76, 77, 78, 79, 80, 81, 82, 83, 84, 85, 86, 87, 88, 89, 90, 91] (fun k : Nat => [(70, .int .i64 k)]) (fun _ => [box b1 35 (ngC n hh e ⟨tA, tn, tc⟩ ⟨dA, dn, dc⟩)]) (fun k => k ≤ dn ∧ ∀ y ∈ ds.take k, neErr n y = 0) (fun k => dn - k) 0 ⟨rfl, trivial⟩ (fun w hw => hw) rfl ⟨Nat.zero_le _, fun y hy => by simp at hy⟩ ?_
        rintro k2 g2 ⟨hk2, hall⟩
        refine H_seq ?_
        refine R0 ?_
        refine xV (e_lt (q0 rfl) (q0 rfl)) rfl rfl ?_
        refine XN ?_
        refine thenJ_normal ?_
        refine H_seq ?_
        refine H_cond rfl (fun hlt2 => ?_) (fun hlt2 => ?_)
        · have hlt2' : k2 < dn := by simpa using hlt2
          obtain ⟨b, off, x, rfl, hbl, hxk, hrx⟩ := hD.at_ hlt2'
          refine H_skip ?_
          refine thenJ_normal ?_
          refine H_seq ?_
          refine H_block ?_
          refine H_seq ?_
          refine R0 ?_
          refine xV (e_idx _ Tryz.underlying33 Tryz.sizeOf153 (q0 rfl) (q0 rfl) (fun _ => ⟨rfl, by omega⟩)) rfl rfl ?_
          refine xV (eS Tryz.isAgg153 Tryz.sizeOf153 (q0 rfl)) rfl rfl ?_
          refine X_alloc Tryz.zeroValue153 rfl fun b7 => ?_
          refine X_st (v := .agg _) rfl rfl Tryz.sizeOf153 ?_
          refine XN ?_
          refine thenJ_normal ?_
          refine H_seq ?_
          refine H_seq ?_
          refine R0 ?_
          refine xV (e_fld Tryz.underlying153 rfl Tryz.sizeOf3 rfl (q0 rfl)) rfl rfl ?_
          refine xV (eL Tryz.isAgg3 (q0 rfl)) rfl rfl ?_
          refine xV (e_fld Tryz.underlying35 rfl Tryz.sizeOf31 rfl (q0 rfl)) rfl rfl ?_
          refine xV (e_fld Tryz.underlying31 rfl Tryz.sizeOf3 rfl (q0 rfl)) rfl rfl ?_
          refine xV (eL Tryz.isAgg3 (q0 rfl)) rfl rfl ?_
          refine xV (e_sub (q0 rfl) (q0 rfl) (fun _ => ⟨rfl, by omega, by omega⟩)) rfl rfl ?_
          refine xC (en Tryz.call79 (ha3 (q0 rfl) (q0 rfl) (q0 rfl))) (fun _ w _ => kin_w x.n 0 (n - 1) w) rfl rfl ?_
          refine xV (e_not (q0 rfl)) rfl rfl ?_
          refine XN ?_
          refine thenJ_normal ?_
          refine H_cond rfl (fun hb => ?_) (fun hb => ?_)
          · have hb' : (!nd n x.n) = true := by rw [nd_in]; exact hb
            have h7 : neErr n x = 7 := by unfold neErr; rw [if_pos hb']
            have h8 : fe (neErr n) ds = 7 := by rw [fe_bad hall hxk (by rw [h7]; decide), h7]
            refine H_seq ?_
            refine R0 ?_
            refine xV (e_as (v := .int _ _) (q0 rfl)) rfl rfl ?_
            refine XN ?_
            refine thenJ_normal ?_
            refine H_ret ?_
            refine thenJ_ret ?_
            refine blockJ_ret ?_
            refine thenJ_ret ?_
            refine loopJ_ret ?_
            refine blockJ_ret ?_
            refine thenJ_ret ?_
            exact ret1 (v := .int _ _) rfl rfl rfl fun w' hw => ⟨ret_int (by rw [i4 h1' h2' h3' (by rw [h8]; decide), h8]), hw.1⟩
          · have hb' : ¬(!nd n x.n) = true := by
              have h : (!inI x.n 0 (n - 1)) = false := hb
              rw [nd_in, h]; decide
            refine H_skip ?_
            refine thenJ_normal ?_
            refine H_seq ?_
            refine R0 ?_
            refine xV (e_fld Tryz.underlying153 rfl Tryz.sizeOf3 rfl (q0 rfl)) rfl rfl ?_
            refine xV (eL Tryz.isAgg3 (q0 rfl)) rfl rfl ?_
            refine xV (e_eq (q0 rfl) (q0 rfl)) rfl rfl ?_
            refine xV (e_mv (v := .bool _) (q0 rfl)) rfl rfl ?_
            refine xVF (e_fld Tryz.underlying153 rfl Tryz.sizeOf3 rfl (q0 rfl)) rfl rfl rfl rfl ?_
            refine xVF (eL Tryz.isAgg3 (q1 rfl)) rfl rfl rfl rfl ?_
            refine xCF (en Tryz.call79 (ha3 (q1 (v := .int _ _) rfl) (q0 rfl) (q0 rfl))) (fun _ w _ => kin_w x.m (-32) 32 w) rfl rfl rfl rfl ?_
            refine xVF (e_not (q1 rfl)) rfl rfl rfl rfl ?_
            refine xV (e_or (q0 rfl) rfl (fun h => by first | rfl | (rw [h]; rfl))) rfl rfl ?_
            refine XN ?_
            refine thenJ_normal ?_
            refine H_cond rfl (fun hc => ?_) (fun hc => ?_)
            · have hc' : (decide (x.m = 0) || !inI x.m (-32) 32) = true := hc
              have h7 : neErr n x = 1 := by unfold neErr; rw [if_neg hb', if_pos hc']
              have h8 : fe (neErr n) ds = 1 := by rw [fe_bad hall hxk (by rw [h7]; decide), h7]
              refine H_seq ?_
              refine R0 ?_
              refine xV (e_as (v := .int _ _) (q0 rfl)) rfl rfl ?_
              refine XN ?_
              refine thenJ_normal ?_
              refine H_ret ?_
              refine blockJ_ret ?_
              refine thenJ_ret ?_
              refine loopJ_ret ?_
              refine blockJ_ret ?_
              refine thenJ_ret ?_
              exact ret1 (v := .int _ _) rfl rfl rfl fun w' hw => ⟨ret_int (by rw [i4 h1' h2' h3' (by rw [h8]; decide), h8]), hw.1⟩
            · have hc' : ¬(decide (x.m = 0) || !inI x.m (-32) 32) = true := by
                have h : (decide (x.m = 0) || !inI x.m (-32) 32) = false := hc
                rw [h]; decide
              have h7 : neErr n x = 0 := by unfold neErr; rw [if_neg hb', if_neg hc']
              refine H_skip ?_
              refine blockJ_normal ?_
              refine thenJ_normal ?_
              refine R0 ?_
              refine xV (e_add (q0 rfl) (q0 rfl) (fun _ => ⟨rfl, by omega, by omega⟩)) rfl rfl ?_
              refine xV (e_mv (v := .int _ _) (q0 rfl)) rfl rfl ?_
              refine XN ?_
              exact loopJ_normal (k2 + 1) (by repeat (first | exact agree_self | exact agree_over | refine agree_upd rfl ?_ | refine agree_updL rfl ?_ | refine agree_over2 rfl ?_)) ⟨rfl, trivial⟩ (fun w hw => hw.tail) rfl ⟨by omega, fe_on hall hxk h7⟩ (by show dn - (k2 + 1) < dn - k2; omega)
        · have hend2 : k2 = dn := by simp at hlt2; omega
          have h4' : fe (neErr n) ds = 0 := fe_end hall (by omega)
          clear hall
          refine H_exit ?_
          refine thenJ_exit ?_
          refine loopJ_exit ?_
          refine blockJ_hit ?_
          refine thenJ_normal ?_
          refine H_seq ?_
          refine H_seq ?_
          refine R0 ?_
          refine xV (e_fld Tryz.underlying35 rfl Tryz.sizeOf33 rfl (q0 rfl)) rfl rfl ?_
          refine xV (eL Tryz.isAgg33 (q0 rfl)) rfl rfl ?_
          refine xV (e_len Tryz.underlying33 (q0 rfl)) rfl rfl ?_
          refine xV (e_mv (v := .int _ _) (q0 rfl)) rfl rfl ?_
          refine XN ?_
          refine thenJ_normal ?_
          refine H_block ?_
          refine H_loop [2, 8, 9, 95, 96, 97, 98, 99, 100, 101, 102, 103, 104, 105, 106] (fun k : Nat => [(95, .int .i64 k)]) (fun _ => [box b1 35 (ngC n hh e ⟨tA, tn, tc⟩ ⟨dA, dn, dc⟩)]) (fun k => k ≤ dn ∧ ∀ j, j < k → twAt ds j = false) (fun k => dn - k) 0 ⟨rfl, trivial⟩ (fun w hw => hw) rfl ⟨Nat.zero_le _, fun j hj => by omega⟩ ?_
          rintro k3 g3 ⟨hk3, hall⟩
          refine H_seq ?_
          refine R0 ?_
          refine xV (e_lt (q0 rfl) (q0 rfl)) rfl rfl ?_
          refine XN ?_
          refine thenJ_normal ?_
          refine H_seq ?_
          refine H_cond rfl (fun hlt3 => ?_) (fun hlt3 => ?_)
          · have hlt3' : k3 < dn := by simpa using hlt3
            obtain ⟨b, off, x, rfl, hbl, hxk, hrx⟩ := hD.at_ hlt3'
            have htw : twAt ds k3 = (ds.take k3).any fun y => decide (y.n = x.n) := by unfold twAt; rw [hxk]
            refine H_skip ?_
            refine thenJ_normal ?_
            refine H_seq ?_
            refine H_block ?_
            refine H_seq ?_
            refine R0 ?_
            refine xV (e_mv (v := .int _ _) (q0 rfl)) rfl rfl ?_
            refine xV (e_idx _ Tryz.underlying33 Tryz.sizeOf153 (q0 rfl) (q0 rfl) (fun _ => ⟨rfl, by omega⟩)) rfl rfl ?_
            refine xV (eS Tryz.isAgg153 Tryz.sizeOf153 (q0 rfl)) rfl rfl ?_
            refine X_alloc Tryz.zeroValue153 rfl fun b9 => ?_
            refine xV (e_as (v := .int _ _) (q0 rfl)) rfl rfl ?_
            refine X_st (v := .agg _) rfl rfl Tryz.sizeOf153 ?_
            refine XN ?_
            refine thenJ_normal ?_
            refine H_seq ?_
            refine R0 ?_
            refine xV (e_fld Tryz.underlying35 rfl Tryz.sizeOf33 rfl (q0 rfl)) rfl rfl ?_
            refine xV (eL Tryz.isAgg33 (q0 rfl)) rfl rfl ?_
            refine xV (e_mv (v := .int _ _) (q0 rfl)) rfl rfl ?_
            refine xV (e_slHi (cp := dc) k3 Tryz.underlying33 Tryz.sizeOf153 (q0 rfl) (q0 rfl) (fun _ => ⟨rfl, by omega⟩)) rfl rfl ?_
            refine xV e_fn rfl rfl ?_
            refine xC (v := .bool ((ds.take k3).any fun y => decide (y.n = x.n))) (en (al := [.slice (some ⟨b, off, none⟩) k3 dc, .func (.func 81) #[] #[.pointer (some ⟨b9, 0, none⟩)]]) Tryz.call80 (ha2 (q0 (v := .slice _ _ _) rfl) (q0 rfl))) (fun _ w hw => conN_w _ k3 dc _ x b9 w (pre_at (hD.mem hw) (by omega)) (fun j u hu => by rw [Nat.zero_add]; exact box_cell hw (k := 0) rfl hu) (hw.itemLt (k := 0) rfl rfl).2) rfl rfl ?_
            refine XN ?_
            refine thenJ_normal ?_
            refine H_cond rfl (fun hb => ?_) (fun hb => ?_)
            · have hb' : ((ds.take k3).any fun y => decide (y.n = x.n)) = true := hb
              refine H_seq ?_
              refine R0 ?_
              refine xV (e_as (v := .int _ _) (q0 rfl)) rfl rfl ?_
              refine XN ?_
              refine thenJ_normal ?_
              refine H_ret ?_
              refine blockJ_ret ?_
              refine thenJ_ret ?_
              refine loopJ_ret ?_
              refine blockJ_ret ?_
              refine thenJ_ret ?_
              exact ret1 (v := .int _ _) rfl rfl rfl fun w' hw => ⟨ret_int (by rw [i5 h1' h2' h3' h4' (ax_bad (n := ds.length) (k := k3) (by omega) (by rw [htw]; exact hb'))]), hw.1⟩
            · have hb' : ((ds.take k3).any fun y => decide (y.n = x.n)) = false := hb
              refine H_skip ?_
              refine blockJ_normal ?_
              refine thenJ_normal ?_
              refine R0 ?_
              refine xV (e_add (q0 rfl) (q0 rfl) (fun _ => ⟨rfl, by omega, by omega⟩)) rfl rfl ?_
              refine xV (e_mv (v := .int _ _) (q0 rfl)) rfl rfl ?_
              refine XN ?_
              exact loopJ_normal (k3 + 1) (by repeat (first | exact agree_self | exact agree_over | refine agree_upd rfl ?_ | refine agree_updL rfl ?_ | refine agree_over2 rfl ?_)) ⟨rfl, trivial⟩ (fun w hw => hw.tail) rfl ⟨by omega, ax_on hall (by rw [htw]; exact hb')⟩ (by show dn - (k3 + 1) < dn - k3; omega)
          · have hend3 : k3 = dn := by simp at hlt3; omega
            have h5' : ¬ax (twAt ds) ds.length = true := by rw [ax_end fun j hj => hall j (by omega)]; decide
            refine H_exit ?_
            refine thenJ_exit ?_
            refine loopJ_exit ?_
            refine blockJ_hit ?_
            refine thenJ_normal ?_
            refine H_seq ?_
            refine H_seq ?_
            refine R0 ?_
            refine xV (e_fld Tryz.underlying35 rfl Tryz.sizeOf3 rfl (q0 rfl)) rfl rfl ?_
            refine xV (eL Tryz.isAgg3 (q0 rfl)) rfl rfl ?_
            refine xC (en Tryz.call79 (ha3 (q0 rfl) (q0 rfl) (q0 rfl))) (fun _ w _ => kin_w hh 0 3600 w) rfl rfl ?_
            refine xV (e_not (q0 rfl)) rfl rfl ?_
            refine XN ?_
            refine thenJ_normal ?_
            refine H_cond rfl (fun h6 => ?_) (fun h6 => ?_)
            · have h6' : (!inI hh 0 3600) = true := h6
              refine H_seq ?_
              refine R0 ?_
              refine xV (e_as (v := .int _ _) (q0 rfl)) rfl rfl ?_
              refine XN ?_
              refine thenJ_normal ?_
              refine H_ret ?_
              refine thenJ_ret ?_
              exact ret1 (v := .int _ _) rfl rfl rfl fun w' hw => ⟨ret_int (by rw [i6 h1' h2' h3' h4' h5', if_pos h6']), hw.1⟩
            · have h6' : ¬(!inI hh 0 3600) = true := by
                have h : (!inI hh 0 3600) = false := h6
                rw [h]; decide
              refine H_skip ?_
              refine thenJ_normal ?_
              refine H_seq ?_
              refine R0 ?_
              refine xV (e_as (v := .int _ _) (q0 rfl)) rfl rfl ?_
              refine XN ?_
              refine thenJ_normal ?_
              refine H_ret ?_
              exact ret1 (v := .int _ _) rfl rfl rfl fun w' hw => ⟨ret_int (by rw [i6 h1' h2' h3' h4' h5', if_neg h6']), hw.1⟩
end Go.Proofs.Sys

/-
  The checks of noise; the reference's checks of roads and nights.
-/
namespace Go.Proofs.Sys
open Go Go.RowKit Go.Proofs.E Go.Proofs.Cus Go.Proofs.Far


def nzC (s : Sl) : List Value := [.slice s.A s.n s.c]
theorem nz_if {l : List Int} : (l.length < 1 ∨ 33 < l.length → nzErr l = 32) ∧ (¬(l.length < 1 ∨ 33 < l.length) → nzErr l = if ax (wtAt l) l.length = true then 32 else 0) := by
  unfold nzErr
  exact ⟨fun h => by rw [if_pos h], fun h => by rw [if_neg h]⟩
set_option maxRecDepth 20000 in
set_option maxHeartbeats 1000000 in
theorem noise_w (s : Sl) (ws : List Int) (w : World) (hx : IntsAt w s.A s.n ws) : Calls Tryz.prog 30 #[.agg (nzC s).toArray] w fun e w' => e = .returned (.int .i64 (nzErr ws)) ∧ Bel w w' := by
  obtain ⟨A, n, c⟩ := s
  have hl := hx.1
  have hn := hx.2.1
  simp only at hl hn hx
  refine H_enter Tryz.func30 rfl Tryz.ntmps30 rfl ?_
  refine H_seq ?_
  refine R0 ?_
  refine X_box (v := .agg _) rfl rfl fun b1 => ?_
  refine xV (e_as (v := .int _ _) (q0 rfl)) rfl rfl ?_
  refine XN ?_
  refine thenJ_normal ?_
  refine H_seq ?_
  refine H_seq ?_
  refine R0 ?_
  refine xV (e_fld Tryz.underlying37 rfl Tryz.sizeOf22 rfl (q0 rfl)) rfl rfl ?_
  refine xV (eL Tryz.isAgg22 (q0 rfl)) rfl rfl ?_
  refine xV (e_len Tryz.underlying22 (q0 rfl)) rfl rfl ?_
  refine xV (e_lt (q0 rfl) (q0 rfl)) rfl rfl ?_
  refine xV (e_mv (v := .bool _) (q0 rfl)) rfl rfl ?_
  refine xVF (e_fld Tryz.underlying37 rfl Tryz.sizeOf22 rfl (q0 rfl)) rfl rfl rfl rfl ?_
  refine xVF (eL Tryz.isAgg22 (q1 rfl)) rfl rfl rfl rfl ?_
  refine xVF (e_len Tryz.underlying22 (q1 rfl)) rfl rfl rfl rfl ?_
  refine xVF (e_gt (q1 rfl) (q0 rfl)) rfl rfl rfl rfl ?_
  refine xV (e_or (q0 rfl) rfl (fun h => by first | rfl | (rw [h]; rfl))) rfl rfl ?_
  refine XN ?_
  refine thenJ_normal ?_
  refine H_cond rfl (fun h1 => ?_) (fun h1 => ?_)
  · have h1' : ws.length < 1 ∨ 33 < ws.length := by simp at h1; omega
    refine H_seq ?_
    refine R0 ?_
    refine xV (e_as (v := .int _ _) (q0 rfl)) rfl rfl ?_
    refine XN ?_
    refine thenJ_normal ?_
    refine H_ret ?_
    refine thenJ_ret ?_
    exact ret1 (v := .int _ _) rfl rfl rfl fun w' hw => ⟨ret_int (nz_if.1 h1').symm, hw.1⟩
  · have h1' : ¬(ws.length < 1 ∨ 33 < ws.length) := by simp at h1; omega
    rw [nz_if.2 h1']
    refine H_skip ?_
    refine thenJ_normal ?_
    refine H_seq ?_
    refine H_seq ?_
    refine R0 ?_
    refine xV (e_fld Tryz.underlying37 rfl Tryz.sizeOf22 rfl (q0 rfl)) rfl rfl ?_
    refine xV (eL Tryz.isAgg22 (q0 rfl)) rfl rfl ?_
    refine xV (e_len Tryz.underlying22 (q0 rfl)) rfl rfl ?_
    refine xV (e_mv (v := .int _ _) (q0 rfl)) rfl rfl ?_
    refine XN ?_
    refine thenJ_normal ?_
    refine H_block ?_
    refine H_loop [2, 3, 4, 18, 19, 20, 21, 22, 23, 24, 25, 26, 27, 28, 29, 30, 31, 32, 33, 34, 35, 36, 37, 38, 39, 40, 41, 42, 43] (fun k : Nat => [(18, .int .i64 k)]) (fun _ => [box b1 37 (nzC ⟨A, n, c⟩)]) (fun k => k ≤ n ∧ ∀ j, j < k → wtAt ws j = false) (fun k => n - k) 0 ⟨rfl, trivial⟩ (fun w hw => hw) rfl ⟨Nat.zero_le _, fun j hj => by omega⟩ ?_
    rintro k g ⟨hk, hall⟩
    refine H_seq ?_
    refine R0 ?_
    refine xV (e_lt (q0 rfl) (q0 rfl)) rfl rfl ?_
    refine XN ?_
    refine thenJ_normal ?_
    refine H_seq ?_
    refine H_cond rfl (fun hlt => ?_) (fun hlt => ?_)
    · have hlt' : k < n := by simpa using hlt
      obtain ⟨b, off, x, rfl, hbl, hxk, hrx⟩ := hx.at_ hlt'
      refine H_skip ?_
      refine thenJ_normal ?_
      refine H_seq ?_
      refine H_block ?_
      refine H_seq ?_
      refine R0 ?_
      refine xV (e_mv (v := .int _ _) (q0 rfl)) rfl rfl ?_
      refine xV (e_idx _ Tryz.underlying22 Tryz.sizeOf3 (q0 rfl) (q0 rfl) (fun _ => ⟨rfl, by omega⟩)) rfl rfl ?_
      refine xV (eL Tryz.isAgg3 (q0 rfl)) rfl rfl ?_
      refine xV (e_as (v := .int _ _) (q0 rfl)) rfl rfl ?_
      refine xV (e_as (v := .int _ _) (q0 rfl)) rfl rfl ?_
      refine XN ?_
      refine thenJ_normal ?_
      refine H_seq ?_
      refine H_cut [23, 24, 25, 26, 27, 28, 29, 30, 31, 32, 33, 34, 35, 36, 37, 38, 39, 40, 41, 42] (fun o : Bool => [(42, .bool o)]) (fun _ => [box b1 37 (nzC ⟨some ⟨b, off, none⟩, n, c⟩)]) (fun o => o = wtAt ws k) ?_ ?_
      · rcases Nat.eq_zero_or_pos k with h00 | h00
        · subst h00
          refine R0 ?_
          refine xV (e_mv (v := .int _ _) (q0 rfl)) rfl rfl ?_
          refine xV (e_lt (q0 rfl) (q0 rfl)) rfl rfl ?_
          refine xV (e_mv (v := .bool _) (q0 rfl)) rfl rfl ?_
          refine xVF (e_mv (v := .int _ _) (q0 rfl)) rfl rfl rfl rfl ?_
          refine xVF (e_gt (q1 rfl) (q0 rfl)) rfl rfl rfl rfl ?_
          refine xV (e_or (q0 rfl) rfl (fun h => by first | rfl | (rw [h]; rfl))) rfl rfl ?_
          refine xV (e_mv (v := .bool _) (q0 rfl)) rfl rfl ?_
          refine xVF (e_mv (v := .int _ _) (q0 rfl)) rfl rfl rfl rfl ?_
          refine xVF (e_gt (q1 rfl) (q0 rfl)) rfl rfl rfl rfl ?_
          refine xVF (e_mv (v := .bool _) (q1 rfl)) rfl rfl rfl rfl ?_
          refine xVT2 (e_dead (v := .int .i64 0) (by simp)) rfl rfl rfl rfl ?_
          refine xVT2 (e_dead (v := .pointer none) (by simp)) rfl rfl rfl rfl ?_
          refine xVT2 (e_dead (v := .slice none 0 0) (by simp)) rfl rfl rfl rfl ?_
          refine xVT2 (e_dead (v := .int .i64 0) (by simp)) rfl rfl rfl rfl ?_
          refine xVT2 (e_dead (v := .int .i64 0) (by simp)) rfl rfl rfl rfl ?_
          refine xVT2 (e_dead (v := .pointer none) (by simp)) rfl rfl rfl rfl ?_
          refine xVT2 (e_dead (v := .int .i64 0) (by simp)) rfl rfl rfl rfl ?_
          refine xVT2 (e_dead (v := .bool false) (by simp)) rfl rfl rfl rfl ?_
          refine xVF (e_and (q1 rfl) rfl (fun h => by first | rfl | (rw [h]; rfl))) rfl rfl rfl rfl ?_
          refine xV (e_or (q0 rfl) rfl (fun h => by first | rfl | (rw [h]; rfl))) rfl rfl ?_
          refine XN ?_
          exact cutJ_normal _ (by repeat (first | exact agree_self | exact agree_over | refine agree_upd rfl ?_ | refine agree_updL rfl ?_ | refine agree_over2 rfl ?_)) ⟨rfl, trivial⟩ (fun w hw => hw) rfl (by unfold wtAt; rw [hxk]; simp)
        · obtain ⟨j, rfl⟩ : ∃ j, k = j + 1 := ⟨k - 1, by omega⟩
          have hjn : j < n := by omega
          obtain ⟨q, hq, hrq⟩ := hx.row hjn
          refine R0 ?_
          refine xV (e_mv (v := .int _ _) (q0 rfl)) rfl rfl ?_
          refine xV (e_lt (q0 rfl) (q0 rfl)) rfl rfl ?_
          refine xV (e_mv (v := .bool _) (q0 rfl)) rfl rfl ?_
          refine xVF (e_mv (v := .int _ _) (q0 rfl)) rfl rfl rfl rfl ?_
          refine xVF (e_gt (q1 rfl) (q0 rfl)) rfl rfl rfl rfl ?_
          refine xV (e_or (q0 rfl) rfl (fun h => by first | rfl | (rw [h]; rfl))) rfl rfl ?_
          refine xV (e_mv (v := .bool _) (q0 rfl)) rfl rfl ?_
          refine xVF (e_mv (v := .int _ _) (q0 rfl)) rfl rfl rfl rfl ?_
          refine xVF (e_gt (q1 rfl) (q0 rfl)) rfl rfl rfl rfl ?_
          refine xVF (e_mv (v := .bool _) (q1 rfl)) rfl rfl rfl rfl ?_
          refine xVT2 (e_mv (v := .int _ _) (q0 rfl)) rfl rfl rfl rfl ?_
          refine xVT2 (e_fld Tryz.underlying37 rfl Tryz.sizeOf22 rfl (q0 rfl)) rfl rfl rfl rfl ?_
          refine xVT2 (eL Tryz.isAgg22 (q1 rfl)) rfl rfl rfl rfl ?_
          refine xVT2 (e_mv (v := .int _ _) (q0 rfl)) rfl rfl rfl rfl ?_
          refine xVT2 (e_sub (r := ((j : Nat) : Int)) (q1 rfl) (q0 rfl) (fun _ => ⟨by omega, by omega, by omega⟩)) rfl rfl rfl rfl ?_
          refine xVT2 (e_idx j Tryz.underlying22 Tryz.sizeOf3 (q1 rfl) (q1 rfl) (fun _ => ⟨rfl, hjn⟩)) rfl rfl rfl rfl ?_
          refine xVT2 (e_ld (v := .int .i64 q) Tryz.isAgg3 (q1 rfl) (by first | exact rc (j := 0) hrq ‹_› rfl | exact rc0 hrq ‹_› rfl)) rfl rfl rfl rfl ?_
          refine xVT2 (e_gt (q1 rfl) (q1 rfl)) rfl rfl rfl rfl ?_
          refine xVF (e_and (q1 rfl) rfl (fun h => by first | rfl | (rw [h]; rfl))) rfl rfl rfl rfl ?_
          refine xV (e_or (q0 rfl) rfl (fun h => by first | rfl | (rw [h]; rfl))) rfl rfl ?_
          refine XN ?_
          exact cutJ_normal _ (by repeat (first | exact agree_self | exact agree_over | refine agree_upd rfl ?_ | refine agree_updL rfl ?_ | refine agree_over2 rfl ?_)) ⟨rfl, trivial⟩ (fun w hw => hw) rfl (by
            unfold wtAt
            rw [hxk]
            simp only [Nat.add_sub_cancel, hq]
            have h4 : decide ((0 : Int) < ((j + 1 : Nat) : Int)) = true := decide_eq_true (by omega)
            rw [h4]; simp)
      · rintro o g2 ho
        subst ho
        refine thenJ_normal ?_
        refine H_cond rfl (fun ho => ?_) (fun ho => ?_)
        · refine H_seq ?_
          refine R0 ?_
          refine xV (e_as (v := .int _ _) (q0 rfl)) rfl rfl ?_
          refine XN ?_
          refine thenJ_normal ?_
          refine H_ret ?_
          refine blockJ_ret ?_
          refine thenJ_ret ?_
          refine loopJ_ret ?_
          refine blockJ_ret ?_
          refine thenJ_ret ?_
          exact ret1 (v := .int _ _) rfl rfl rfl fun w' hw => ⟨ret_int (by rw [if_pos (ax_bad (n := ws.length) (k := k) (by omega) ho)]), hw.1⟩
        · refine H_skip ?_
          refine blockJ_normal ?_
          refine thenJ_normal ?_
          refine R0 ?_
          refine xV (e_add (q0 rfl) (q0 rfl) (fun _ => ⟨rfl, by omega, by omega⟩)) rfl rfl ?_
          refine xV (e_mv (v := .int _ _) (q0 rfl)) rfl rfl ?_
          refine XN ?_
          exact loopJ_normal (k + 1) (by repeat (first | exact agree_self | exact agree_over | refine agree_upd rfl ?_ | refine agree_updL rfl ?_ | refine agree_over2 rfl ?_)) ⟨rfl, trivial⟩ (fun w hw => hw) rfl ⟨by omega, ax_on hall ho⟩ (by show n - (k + 1) < n - k; omega)
    · have hend : k = n := by simp at hlt; omega
      refine H_exit ?_
      refine thenJ_exit ?_
      refine loopJ_exit ?_
      refine blockJ_hit ?_
      refine thenJ_normal ?_
      refine H_seq ?_
      refine R0 ?_
      refine xV (e_as (v := .int _ _) (q0 rfl)) rfl rfl ?_
      refine XN ?_
      refine thenJ_normal ?_
      refine H_ret ?_
      exact ret1 (v := .int _ _) rfl rfl rfl fun w' hw => ⟨ret_int (by rw [if_neg (by rw [ax_end fun j hj => hall j (by omega)]; decide)]), hw.1⟩
set_option maxRecDepth 20000 in
set_option maxHeartbeats 1000000 in
theorem rnoise_w (s : Sl) (ws : List Int) (w : World) (hx : IntsAt w s.A s.n ws) : Calls Tryz.prog 22 #[.agg (nzC s).toArray] w fun e w' => e = .returned (.int .i64 (nzErr ws)) ∧ Bel w w' := by
  obtain ⟨A, n, c⟩ := s
  have hl := hx.1
  have hn := hx.2.1
  simp only at hl hn hx
  refine H_enter Tryz.func22 rfl Tryz.ntmps22 rfl ?_
  refine H_seq ?_
  refine R0 ?_
  refine X_box (v := .agg _) rfl rfl fun b1 => ?_
  refine xV (e_as (v := .int _ _) (q0 rfl)) rfl rfl ?_
  refine XN ?_
  refine thenJ_normal ?_
  refine H_seq ?_
  refine H_seq ?_
  refine R0 ?_
  refine xV (e_fld Tryz.underlying37 rfl Tryz.sizeOf22 rfl (q0 rfl)) rfl rfl ?_
  refine xV (eL Tryz.isAgg22 (q0 rfl)) rfl rfl ?_
  refine xV (e_len Tryz.underlying22 (q0 rfl)) rfl rfl ?_
  refine xV (e_lt (q0 rfl) (q0 rfl)) rfl rfl ?_
  refine xV (e_mv (v := .bool _) (q0 rfl)) rfl rfl ?_
  refine xVF (e_fld Tryz.underlying37 rfl Tryz.sizeOf22 rfl (q0 rfl)) rfl rfl rfl rfl ?_
  refine xVF (eL Tryz.isAgg22 (q1 rfl)) rfl rfl rfl rfl ?_
  refine xVF (e_len Tryz.underlying22 (q1 rfl)) rfl rfl rfl rfl ?_
  refine xVF (e_gt (q1 rfl) (q0 rfl)) rfl rfl rfl rfl ?_
  refine xV (e_or (q0 rfl) rfl (fun h => by first | rfl | (rw [h]; rfl))) rfl rfl ?_
  refine XN ?_
  refine thenJ_normal ?_
  refine H_cond rfl (fun h1 => ?_) (fun h1 => ?_)
  · have h1' : ws.length < 1 ∨ 33 < ws.length := by simp at h1; omega
    refine H_seq ?_
    refine R0 ?_
    refine xV (e_as (v := .int _ _) (q0 rfl)) rfl rfl ?_
    refine XN ?_
    refine thenJ_normal ?_
    refine H_ret ?_
    refine thenJ_ret ?_
    exact ret1 (v := .int _ _) rfl rfl rfl fun w' hw => ⟨ret_int (nz_if.1 h1').symm, hw.1⟩
  · have h1' : ¬(ws.length < 1 ∨ 33 < ws.length) := by simp at h1; omega
    rw [nz_if.2 h1']
    refine H_skip ?_
    refine thenJ_normal ?_
    refine H_seq ?_
    refine H_seq ?_
    refine R0 ?_
    refine xV (e_as (v := .int _ _) (q0 rfl)) rfl rfl ?_
    refine XN ?_
    refine thenJ_normal ?_
    refine H_block ?_
    refine H_loop [2, 3, 14, 15, 16, 17, 18, 19, 20, 21, 22, 23, 24, 25, 26, 27, 28, 29, 30, 31, 32, 33, 34, 35, 36, 37, 38, 39, 40, 41, 42, 43, 44, 45, 46, 47, 48, 49, 50, 51, 52] (fun k : Nat => [(3, .int .i64 k)]) (fun _ => [box b1 37 (nzC ⟨A, n, c⟩)]) (fun k => k ≤ n ∧ ∀ j, j < k → wtAt ws j = false) (fun k => n - k) 0 ⟨rfl, trivial⟩ (fun w hw => hw) rfl ⟨Nat.zero_le _, fun j hj => by omega⟩ ?_
    rintro k g ⟨hk, hall⟩
    refine H_seq ?_
    refine H_seq ?_
    refine R0 ?_
    refine xV (e_mv (v := .int _ _) (q0 rfl)) rfl rfl ?_
    refine xV (e_fld Tryz.underlying37 rfl Tryz.sizeOf22 rfl (q0 rfl)) rfl rfl ?_
    refine xV (eL Tryz.isAgg22 (q0 rfl)) rfl rfl ?_
    refine xV (e_len Tryz.underlying22 (q0 rfl)) rfl rfl ?_
    refine xV (e_lt (q0 rfl) (q0 rfl)) rfl rfl ?_
    refine XN ?_
    refine thenJ_normal ?_
    refine H_cond rfl (fun hlt => ?_) (fun hlt => ?_)
    · have hlt' : k < n := by simpa using hlt
      obtain ⟨b, off, x, rfl, hbl, hxk, hrx⟩ := hx.at_ hlt'
      refine H_skip ?_
      refine thenJ_normal ?_
      refine H_seq ?_
      refine H_block ?_
      refine H_seq ?_
      refine H_cut [21, 22, 23, 24, 25, 26, 27, 28, 29, 30, 31, 32, 33, 34, 35, 36, 37, 38, 39, 40, 41, 42, 43, 44, 45, 46, 47, 48, 49, 50, 51, 52] (fun o : Bool => [(52, .bool o)]) (fun _ => [box b1 37 (nzC ⟨some ⟨b, off, none⟩, n, c⟩)]) (fun o => o = wtAt ws k) ?_ ?_
      · rcases Nat.eq_zero_or_pos k with h00 | h00
        · subst h00
          refine R1 rfl (by decide +kernel) ?_
          refine xV (e_fld Tryz.underlying37 rfl Tryz.sizeOf22 rfl (q0 rfl)) rfl rfl ?_
          refine xV (eL Tryz.isAgg22 (q0 rfl)) rfl rfl ?_
          refine xV (e_mv (v := .int _ _) (q0 rfl)) rfl rfl ?_
          refine xV (e_idx _ Tryz.underlying22 Tryz.sizeOf3 (q0 rfl) (q0 rfl) (fun _ => ⟨rfl, by omega⟩)) rfl rfl ?_
          refine xV (eL Tryz.isAgg3 (q0 rfl)) rfl rfl ?_
          refine xV (e_lt (q0 rfl) (q0 rfl)) rfl rfl ?_
          refine xV (e_mv (v := .bool _) (q0 rfl)) rfl rfl ?_
          refine xVF (e_fld Tryz.underlying37 rfl Tryz.sizeOf22 rfl (q0 rfl)) rfl rfl rfl rfl ?_
          refine xVF (eL Tryz.isAgg22 (q1 rfl)) rfl rfl rfl rfl ?_
          refine xVF (e_mv (v := .int _ _) (q0 rfl)) rfl rfl rfl rfl ?_
          refine xVF (e_idx _ Tryz.underlying22 Tryz.sizeOf3 (q1 rfl) (q1 rfl) (fun _ => ⟨rfl, by omega⟩)) rfl rfl rfl rfl ?_
          refine xVF (eL Tryz.isAgg3 (q1 rfl)) rfl rfl rfl rfl ?_
          refine xVF (e_gt (q1 rfl) (q0 rfl)) rfl rfl rfl rfl ?_
          refine xV (e_or (q0 rfl) rfl (fun h => by first | rfl | (rw [h]; rfl))) rfl rfl ?_
          refine xV (e_mv (v := .bool _) (q0 rfl)) rfl rfl ?_
          refine xVF (e_mv (v := .int _ _) (q0 rfl)) rfl rfl rfl rfl ?_
          refine xVF (e_gt (q1 rfl) (q0 rfl)) rfl rfl rfl rfl ?_
          refine xVF (e_mv (v := .bool _) (q1 rfl)) rfl rfl rfl rfl ?_
          refine xVT2 (e_dead (v := .pointer none) (by simp)) rfl rfl rfl rfl ?_
          refine xVT2 (e_dead (v := .slice none 0 0) (by simp)) rfl rfl rfl rfl ?_
          refine xVT2 (e_dead (v := .int .i64 0) (by simp)) rfl rfl rfl rfl ?_
          refine xVT2 (e_dead (v := .pointer none) (by simp)) rfl rfl rfl rfl ?_
          refine xVT2 (e_dead (v := .int .i64 0) (by simp)) rfl rfl rfl rfl ?_
          refine xVT2 (e_dead (v := .pointer none) (by simp)) rfl rfl rfl rfl ?_
          refine xVT2 (e_dead (v := .slice none 0 0) (by simp)) rfl rfl rfl rfl ?_
          refine xVT2 (e_dead (v := .int .i64 0) (by simp)) rfl rfl rfl rfl ?_
          refine xVT2 (e_dead (v := .int .i64 0) (by simp)) rfl rfl rfl rfl ?_
          refine xVT2 (e_dead (v := .pointer none) (by simp)) rfl rfl rfl rfl ?_
          refine xVT2 (e_dead (v := .int .i64 0) (by simp)) rfl rfl rfl rfl ?_
          refine xVT2 (e_dead (v := .bool false) (by simp)) rfl rfl rfl rfl ?_
          refine xVF (e_and (q1 rfl) rfl (fun h => by first | rfl | (rw [h]; rfl))) rfl rfl rfl rfl ?_
          refine xV (e_or (q0 rfl) rfl (fun h => by first | rfl | (rw [h]; rfl))) rfl rfl ?_
          refine XN ?_
          exact cutJ_normal _ (by repeat (first | exact agree_self | exact agree_over | refine agree_upd rfl ?_ | refine agree_updL rfl ?_ | refine agree_over2 rfl ?_)) ⟨rfl, trivial⟩ (fun w hw => hw) rfl (by unfold wtAt; rw [hxk]; simp)
        · obtain ⟨j, rfl⟩ : ∃ j, k = j + 1 := ⟨k - 1, by omega⟩
          have hjn : j < n := by omega
          obtain ⟨q, hq, hrq⟩ := hx.row hjn
          refine R1 rfl (by decide +kernel) ?_
          refine xV (e_fld Tryz.underlying37 rfl Tryz.sizeOf22 rfl (q0 rfl)) rfl rfl ?_
          refine xV (eL Tryz.isAgg22 (q0 rfl)) rfl rfl ?_
          refine xV (e_mv (v := .int _ _) (q0 rfl)) rfl rfl ?_
          refine xV (e_idx _ Tryz.underlying22 Tryz.sizeOf3 (q0 rfl) (q0 rfl) (fun _ => ⟨rfl, by omega⟩)) rfl rfl ?_
          refine xV (eL Tryz.isAgg3 (q0 rfl)) rfl rfl ?_
          refine xV (e_lt (q0 rfl) (q0 rfl)) rfl rfl ?_
          refine xV (e_mv (v := .bool _) (q0 rfl)) rfl rfl ?_
          refine xVF (e_fld Tryz.underlying37 rfl Tryz.sizeOf22 rfl (q0 rfl)) rfl rfl rfl rfl ?_
          refine xVF (eL Tryz.isAgg22 (q1 rfl)) rfl rfl rfl rfl ?_
          refine xVF (e_mv (v := .int _ _) (q0 rfl)) rfl rfl rfl rfl ?_
          refine xVF (e_idx _ Tryz.underlying22 Tryz.sizeOf3 (q1 rfl) (q1 rfl) (fun _ => ⟨rfl, by omega⟩)) rfl rfl rfl rfl ?_
          refine xVF (eL Tryz.isAgg3 (q1 rfl)) rfl rfl rfl rfl ?_
          refine xVF (e_gt (q1 rfl) (q0 rfl)) rfl rfl rfl rfl ?_
          refine xV (e_or (q0 rfl) rfl (fun h => by first | rfl | (rw [h]; rfl))) rfl rfl ?_
          refine xV (e_mv (v := .bool _) (q0 rfl)) rfl rfl ?_
          refine xVF (e_mv (v := .int _ _) (q0 rfl)) rfl rfl rfl rfl ?_
          refine xVF (e_gt (q1 rfl) (q0 rfl)) rfl rfl rfl rfl ?_
          refine xVF (e_mv (v := .bool _) (q1 rfl)) rfl rfl rfl rfl ?_
          refine xVT2 (e_fld Tryz.underlying37 rfl Tryz.sizeOf22 rfl (q0 rfl)) rfl rfl rfl rfl ?_
          refine xVT2 (eL Tryz.isAgg22 (q1 rfl)) rfl rfl rfl rfl ?_
          refine xVT2 (e_mv (v := .int _ _) (q0 rfl)) rfl rfl rfl rfl ?_
          refine xVT2 (e_idx _ Tryz.underlying22 Tryz.sizeOf3 (q1 rfl) (q1 rfl) (fun _ => ⟨rfl, by omega⟩)) rfl rfl rfl rfl ?_
          refine xVT2 (eL Tryz.isAgg3 (q1 rfl)) rfl rfl rfl rfl ?_
          refine xVT2 (e_fld Tryz.underlying37 rfl Tryz.sizeOf22 rfl (q0 rfl)) rfl rfl rfl rfl ?_
          refine xVT2 (eL Tryz.isAgg22 (q1 rfl)) rfl rfl rfl rfl ?_
          refine xVT2 (e_mv (v := .int _ _) (q0 rfl)) rfl rfl rfl rfl ?_
          refine xVT2 (e_sub (r := ((j : Nat) : Int)) (q1 rfl) (q0 rfl) (fun _ => ⟨by omega, by omega, by omega⟩)) rfl rfl rfl rfl ?_
          refine xVT2 (e_idx j Tryz.underlying22 Tryz.sizeOf3 (q1 rfl) (q1 rfl) (fun _ => ⟨rfl, hjn⟩)) rfl rfl rfl rfl ?_
          refine xVT2 (e_ld (v := .int .i64 q) Tryz.isAgg3 (q1 rfl) (by first | exact rc (j := 0) hrq ‹_› rfl | exact rc0 hrq ‹_› rfl)) rfl rfl rfl rfl ?_
          refine xVT2 (e_gt (q1 rfl) (q1 rfl)) rfl rfl rfl rfl ?_
          refine xVF (e_and (q1 rfl) rfl (fun h => by first | rfl | (rw [h]; rfl))) rfl rfl rfl rfl ?_
          refine xV (e_or (q0 rfl) rfl (fun h => by first | rfl | (rw [h]; rfl))) rfl rfl ?_
          refine XN ?_
          exact cutJ_normal _ (by repeat (first | exact agree_self | exact agree_over | refine agree_upd rfl ?_ | refine agree_updL rfl ?_ | refine agree_over2 rfl ?_)) ⟨rfl, trivial⟩ (fun w hw => hw) rfl (by
            unfold wtAt
            rw [hxk]
            simp only [Nat.add_sub_cancel, hq]
            have h4 : decide ((0 : Int) < ((j + 1 : Nat) : Int)) = true := decide_eq_true (by omega)
            rw [h4]; simp)
      · rintro o g2 ho
        subst ho
        refine thenJ_normal ?_
        refine H_cond rfl (fun ho => ?_) (fun ho => ?_)
        · refine H_seq ?_
          refine R0 ?_
          refine xV (e_as (v := .int _ _) (q0 rfl)) rfl rfl ?_
          refine XN ?_
          refine thenJ_normal ?_
          refine H_ret ?_
          refine blockJ_ret ?_
          refine thenJ_ret ?_
          refine loopJ_ret ?_
          refine blockJ_ret ?_
          refine thenJ_ret ?_
          exact ret1 (v := .int _ _) rfl rfl rfl fun w' hw => ⟨ret_int (by rw [if_pos (ax_bad (n := ws.length) (k := k) (by omega) ho)]), hw.1⟩
        · refine H_skip ?_
          refine blockJ_normal ?_
          refine thenJ_normal ?_
          refine R0 ?_
          refine xV (e_mv (v := .int _ _) (q0 rfl)) rfl rfl ?_
          refine xV (e_add (q0 rfl) (q0 rfl) (fun _ => ⟨rfl, by omega, by omega⟩)) rfl rfl ?_
          refine xV (e_as (v := .int _ _) (q0 rfl)) rfl rfl ?_
          refine XN ?_
          exact loopJ_normal (k + 1) (by repeat (first | exact agree_self | exact agree_over | refine agree_upd rfl ?_ | refine agree_updL rfl ?_ | refine agree_over2 rfl ?_)) ⟨rfl, trivial⟩ (fun w hw => hw) rfl ⟨by omega, ax_on hall ho⟩ (by show n - (k + 1) < n - k; omega)
    · have hend : k = n := by simp at hlt; omega
      refine H_exit ?_
      refine thenJ_exit ?_
      refine loopJ_exit ?_
      refine blockJ_hit ?_
      refine thenJ_normal ?_
      refine H_seq ?_
      refine R0 ?_
      refine xV (e_as (v := .int _ _) (q0 rfl)) rfl rfl ?_
      refine XN ?_
      refine thenJ_normal ?_
      refine H_ret ?_
      exact ret1 (v := .int _ _) rfl rfl rfl fun w' hw => ⟨ret_int (by rw [if_neg (by rw [ax_end fun j hj => hall j (by omega)]; decide)]), hw.1⟩
theorem rnode_w (n x : Int) (s : Sl) (w : World) : Calls Tryz.prog 108 #[.agg (rdC n s).toArray, .int .i64 x] w fun e w' => e = .returned (.bool (nd n x)) ∧ Bel w w' := by
  refine H_enter Tryz.func108 rfl Tryz.ntmps108 rfl ?_
  refine H_seq ?_
  refine R0 ?_
  refine X_box (v := .agg _) rfl rfl fun b2 => ?_
  refine xV (e_as (v := .bool _) (q0 rfl)) rfl rfl ?_
  refine XN ?_
  refine thenJ_normal ?_
  refine H_seq ?_
  refine R0 ?_
  refine xV (e_mv (v := .int _ _) (q0 rfl)) rfl rfl ?_
  refine xV (e_ge (q0 rfl) (q0 rfl)) rfl rfl ?_
  refine xV (e_mv (v := .bool _) (q0 rfl)) rfl rfl ?_
  refine xVT (e_mv (v := .int _ _) (q0 rfl)) rfl rfl rfl rfl ?_
  refine xVT (e_fld Tryz.underlying31 rfl Tryz.sizeOf3 rfl (q0 rfl)) rfl rfl rfl rfl ?_
  refine xVT (eL Tryz.isAgg3 (q1 rfl)) rfl rfl rfl rfl ?_
  refine xVT (e_lt (q1 rfl) (q1 rfl)) rfl rfl rfl rfl ?_
  refine xV (e_and (q0 rfl) rfl (fun h => by first | rfl | (rw [h]; rfl))) rfl rfl ?_
  refine xV (e_as (v := .bool _) (q0 rfl)) rfl rfl ?_
  refine XN ?_
  refine thenJ_normal ?_
  refine H_ret ?_
  exact ret1 (v := .bool _) rfl rfl rfl fun w' hw => ⟨rfl, hw.1⟩
set_option maxRecDepth 20000 in
theorem rroad_w (n : Int) (s : Sl) (es : List Eg) (w : World) (hx : SlAt w 3 Eg.cells s.A s.n es) : Calls Tryz.prog 64 #[.agg (rdC n s).toArray] w fun e w' => e = .returned (.int .i64 (rdErr n es)) ∧ Bel w w' := by
  obtain ⟨A, m, c⟩ := s
  have hl := hx.1
  have hn := hx.2.1
  simp only at hl hn hx
  refine H_enter Tryz.func64 rfl Tryz.ntmps64 rfl ?_
  refine H_seq ?_
  refine R0 ?_
  refine X_box (v := .agg _) rfl rfl fun b1 => ?_
  refine xV (e_as (v := .int _ _) (q0 rfl)) rfl rfl ?_
  refine XN ?_
  refine thenJ_normal ?_
  refine H_seq ?_
  refine H_seq ?_
  refine R0 ?_
  refine xV (e_fld Tryz.underlying31 rfl Tryz.sizeOf3 rfl (q0 rfl)) rfl rfl ?_
  refine xV (eL Tryz.isAgg3 (q0 rfl)) rfl rfl ?_
  refine xV (e_lt (q0 rfl) (q0 rfl)) rfl rfl ?_
  refine xV (e_mv (v := .bool _) (q0 rfl)) rfl rfl ?_
  refine xVF (e_fld Tryz.underlying31 rfl Tryz.sizeOf3 rfl (q0 rfl)) rfl rfl rfl rfl ?_
  refine xVF (eL Tryz.isAgg3 (q1 rfl)) rfl rfl rfl rfl ?_
  refine xVF (e_gt (q1 rfl) (q0 rfl)) rfl rfl rfl rfl ?_
  refine xV (e_or (q0 rfl) rfl (fun h => by first | rfl | (rw [h]; rfl))) rfl rfl ?_
  refine XN ?_
  refine thenJ_normal ?_
  refine H_cond rfl (fun h1 => ?_) (fun h1 => ?_)
  · have h1' : n < 1 ∨ 64 < n := by simp at h1; omega
    refine H_seq ?_
    refine R0 ?_
    refine xV (e_as (v := .int _ _) (q0 rfl)) rfl rfl ?_
    refine XN ?_
    refine thenJ_normal ?_
    refine H_ret ?_
    refine thenJ_ret ?_
    exact ret1 (v := .int _ _) rfl rfl rfl fun w' hw => ⟨ret_int (by unfold rdErr; rw [if_pos h1']), hw.1⟩
  · have h1' : ¬(n < 1 ∨ 64 < n) := by simp at h1; omega
    refine H_skip ?_
    refine thenJ_normal ?_
    refine H_seq ?_
    refine H_seq ?_
    refine R0 ?_
    refine xV (e_fld Tryz.underlying31 rfl Tryz.sizeOf29 rfl (q0 rfl)) rfl rfl ?_
    refine xV (eL Tryz.isAgg29 (q0 rfl)) rfl rfl ?_
    refine xV (e_len Tryz.underlying29 (q0 rfl)) rfl rfl ?_
    refine xV (e_gt (q0 rfl) (q0 rfl)) rfl rfl ?_
    refine XN ?_
    refine thenJ_normal ?_
    refine H_cond rfl (fun h2 => ?_) (fun h2 => ?_)
    · have h2' : 512 < es.length := by simp at h2; omega
      refine H_seq ?_
      refine R0 ?_
      refine xV (e_as (v := .int _ _) (q0 rfl)) rfl rfl ?_
      refine XN ?_
      refine thenJ_normal ?_
      refine H_ret ?_
      refine thenJ_ret ?_
      exact ret1 (v := .int _ _) rfl rfl rfl fun w' hw => ⟨ret_int (by unfold rdErr; rw [if_neg h1', if_pos h2']), hw.1⟩
    · have h2' : ¬512 < es.length := by simp at h2; omega
      have he : rdErr n es = fe (egErr n) es := by unfold rdErr; rw [if_neg h1', if_neg h2']
      rw [he]
      clear he
      refine H_skip ?_
      refine thenJ_normal ?_
      refine H_seq ?_
      refine H_seq ?_
      refine R0 ?_
      refine xV (e_as (v := .int _ _) (q0 rfl)) rfl rfl ?_
      refine XN ?_
      refine thenJ_normal ?_
      refine H_block ?_
      refine H_loop [2, 3, 4, 17, 18, 19, 20, 21, 22, 23, 24, 25, 26, 27, 28, 29, 30, 31, 32, 33, 34, 35, 36, 37, 38, 39, 40, 41, 42, 43, 44, 45, 46, 47, 48] (fun k : Nat => [(3, .int .i64 k)]) (fun _ => [box b1 31 (rdC n ⟨A, m, c⟩)]) (fun k => k ≤ m ∧ ∀ y ∈ es.take k, egErr n y = 0) (fun k => m - k) 0 ⟨rfl, trivial⟩ (fun w hw => hw) rfl ⟨Nat.zero_le _, fun y hy => by simp at hy⟩ ?_
      rintro k g ⟨hk, hall⟩
      refine H_seq ?_
      refine H_seq ?_
      refine R0 ?_
      refine xV (e_mv (v := .int _ _) (q0 rfl)) rfl rfl ?_
      refine xV (e_fld Tryz.underlying31 rfl Tryz.sizeOf29 rfl (q0 rfl)) rfl rfl ?_
      refine xV (eL Tryz.isAgg29 (q0 rfl)) rfl rfl ?_
      refine xV (e_len Tryz.underlying29 (q0 rfl)) rfl rfl ?_
      refine xV (e_lt (q0 rfl) (q0 rfl)) rfl rfl ?_
      refine XN ?_
      refine thenJ_normal ?_
      refine H_cond rfl (fun hlt => ?_) (fun hlt => ?_)
      · have hlt' : k < m := by simpa using hlt
        obtain ⟨b, off, x, rfl, hbl, hxk, hrx⟩ := hx.at_ hlt'
        refine H_skip ?_
        refine thenJ_normal ?_
        refine H_seq ?_
        refine H_block ?_
        refine H_seq ?_
        refine R0 ?_
        refine xV (e_fld Tryz.underlying31 rfl Tryz.sizeOf29 rfl (q0 rfl)) rfl rfl ?_
        refine xV (eL Tryz.isAgg29 (q0 rfl)) rfl rfl ?_
        refine xV (e_mv (v := .int _ _) (q0 rfl)) rfl rfl ?_
        refine xV (e_idx _ Tryz.underlying29 Tryz.sizeOf165 (q0 rfl) (q0 rfl) (fun _ => ⟨rfl, by omega⟩)) rfl rfl ?_
        refine xV (eS Tryz.isAgg165 Tryz.sizeOf165 (q0 rfl)) rfl rfl ?_
        refine X_alloc Tryz.zeroValue165 rfl fun b4 => ?_
        refine X_st (v := .agg _) rfl rfl Tryz.sizeOf165 ?_
        refine XN ?_
        refine thenJ_normal ?_
        refine H_seq ?_
        refine H_seq ?_
        refine R0 ?_
        refine xV (eS Tryz.isAgg31 Tryz.sizeOf31 (q0 rfl)) rfl rfl ?_
        refine xV (e_fld Tryz.underlying165 rfl Tryz.sizeOf3 rfl (q0 rfl)) rfl rfl ?_
        refine xV (eL Tryz.isAgg3 (q0 rfl)) rfl rfl ?_
        refine xC (en Tryz.call108 (ha2 (q0 rfl) (q0 rfl))) (fun _ w _ => rnode_w n x.a _ w) rfl rfl ?_
        refine xV (e_not (q0 rfl)) rfl rfl ?_
        refine xV (e_mv (v := .bool _) (q0 rfl)) rfl rfl ?_
        refine xVF (eS Tryz.isAgg31 Tryz.sizeOf31 (q0 rfl)) rfl rfl rfl rfl ?_
        refine xVF (e_fld Tryz.underlying165 rfl Tryz.sizeOf3 rfl (q0 rfl)) rfl rfl rfl rfl ?_
        refine xVF (eL Tryz.isAgg3 (q1 rfl)) rfl rfl rfl rfl ?_
        refine xCF (en Tryz.call108 (ha2 (q1 (v := .agg _) rfl) (q1 (v := .int _ _) rfl))) (fun _ w _ => rnode_w n x.b _ w) rfl rfl rfl rfl ?_
        refine xVF (e_not (q1 rfl)) rfl rfl rfl rfl ?_
        refine xV (e_or (q0 rfl) rfl (fun h => by first | rfl | (rw [h]; rfl))) rfl rfl ?_
        refine XN ?_
        refine thenJ_normal ?_
        refine H_cond rfl (fun hb => ?_) (fun hb => ?_)
        · have hb' : ((!nd n x.a) || !nd n x.b) = true := hb
          have h7 : egErr n x = 7 := by unfold egErr; rw [if_pos hb']
          refine H_seq ?_
          refine R0 ?_
          refine xV (e_as (v := .int _ _) (q0 rfl)) rfl rfl ?_
          refine XN ?_
          refine thenJ_normal ?_
          refine H_ret ?_
          refine thenJ_ret ?_
          refine blockJ_ret ?_
          refine thenJ_ret ?_
          refine loopJ_ret ?_
          refine blockJ_ret ?_
          refine thenJ_ret ?_
          exact ret1 (v := .int _ _) rfl rfl rfl fun w' hw => ⟨ret_int (by rw [fe_bad hall hxk (by rw [h7]; decide), h7]), hw.1⟩
        · have hb' : ¬((!nd n x.a) || !nd n x.b) = true := by
            have h : ((!nd n x.a) || !nd n x.b) = false := hb
            rw [h]; decide
          refine H_skip ?_
          refine thenJ_normal ?_
          refine H_seq ?_
          refine R0 ?_
          refine xV (e_fld Tryz.underlying165 rfl Tryz.sizeOf3 rfl (q0 rfl)) rfl rfl ?_
          refine xV (eL Tryz.isAgg3 (q0 rfl)) rfl rfl ?_
          refine xV (e_lt (q0 rfl) (q0 rfl)) rfl rfl ?_
          refine xV (e_mv (v := .bool _) (q0 rfl)) rfl rfl ?_
          refine xVF (e_fld Tryz.underlying165 rfl Tryz.sizeOf3 rfl (q0 rfl)) rfl rfl rfl rfl ?_
          refine xVF (eL Tryz.isAgg3 (q1 rfl)) rfl rfl rfl rfl ?_
          refine xVF (e_gt (q1 rfl) (q0 rfl)) rfl rfl rfl rfl ?_
          refine xV (e_or (q0 rfl) rfl (fun h => by first | rfl | (rw [h]; rfl))) rfl rfl ?_
          refine XN ?_
          refine thenJ_normal ?_
          refine H_cond rfl (fun hc => ?_) (fun hc => ?_)
          · have hc' : (decide (x.s < 1) || decide (1000 < x.s)) = true := hc
            have h7 : egErr n x = 1 := by unfold egErr; rw [if_neg hb', if_pos hc']
            refine H_seq ?_
            refine R0 ?_
            refine xV (e_as (v := .int _ _) (q0 rfl)) rfl rfl ?_
            refine XN ?_
            refine thenJ_normal ?_
            refine H_ret ?_
            refine blockJ_ret ?_
            refine thenJ_ret ?_
            refine loopJ_ret ?_
            refine blockJ_ret ?_
            refine thenJ_ret ?_
            exact ret1 (v := .int _ _) rfl rfl rfl fun w' hw => ⟨ret_int (by rw [fe_bad hall hxk (by rw [h7]; decide), h7]), hw.1⟩
          · have hc' : ¬(decide (x.s < 1) || decide (1000 < x.s)) = true := by
              have h : (decide (x.s < 1) || decide (1000 < x.s)) = false := hc
              rw [h]; decide
            have h7 : egErr n x = 0 := by unfold egErr; rw [if_neg hb', if_neg hc']
            refine H_skip ?_
            refine blockJ_normal ?_
            refine thenJ_normal ?_
            refine R0 ?_
            refine xV (e_mv (v := .int _ _) (q0 rfl)) rfl rfl ?_
            refine xV (e_add (q0 rfl) (q0 rfl) (fun _ => ⟨rfl, by omega, by omega⟩)) rfl rfl ?_
            refine xV (e_as (v := .int _ _) (q0 rfl)) rfl rfl ?_
            refine XN ?_
            exact loopJ_normal (k + 1) (by repeat (first | exact agree_self | exact agree_over | refine agree_upd rfl ?_ | refine agree_updL rfl ?_ | refine agree_over2 rfl ?_)) ⟨rfl, trivial⟩ (fun w hw => hw.tail) rfl ⟨by omega, fe_on hall hxk h7⟩ (by show m - (k + 1) < m - k; omega)
      · have hend : k = m := by simp at hlt; omega
        refine H_exit ?_
        refine thenJ_exit ?_
        refine loopJ_exit ?_
        refine blockJ_hit ?_
        refine thenJ_normal ?_
        refine H_seq ?_
        refine R0 ?_
        refine xV (e_as (v := .int _ _) (q0 rfl)) rfl rfl ?_
        refine XN ?_
        refine thenJ_normal ?_
        refine H_ret ?_
        exact ret1 (v := .int _ _) rfl rfl rfl fun w' hw => ⟨ret_int (fe_end hall (by omega)).symm, hw.1⟩
theorem rtruck_w (n h : Int) (e t d : Sl) (x : Tk) (w : World) : Calls Tryz.prog 65 #[.agg (ngC n h e t d).toArray, .agg x.cells.toArray] w fun e w' => e = .returned (.int .i64 (tkErr n x)) ∧ Bel w w' := by
  refine H_enter Tryz.func65 rfl Tryz.ntmps65 rfl ?_
  refine H_seq ?_
  refine R0 ?_
  refine X_box (v := .agg _) rfl rfl fun b2 => ?_
  refine X_box (v := .agg _) rfl rfl fun b3 => ?_
  refine xV (e_as (v := .int _ _) (q0 rfl)) rfl rfl ?_
  refine XN ?_
  refine thenJ_normal ?_
  refine H_seq ?_
  refine H_seq ?_
  refine R0 ?_
  refine xV (e_fld Tryz.underlying35 rfl Tryz.sizeOf31 rfl (q0 rfl)) rfl rfl ?_
  refine xV (eP Tryz.isAgg31 Tryz.sizeOf31 (q0 rfl)) rfl rfl ?_
  refine xV (e_fld Tryz.underlying150 rfl Tryz.sizeOf3 rfl (q0 rfl)) rfl rfl ?_
  refine xV (eL Tryz.isAgg3 (q0 rfl)) rfl rfl ?_
  refine xC (en Tryz.call108 (ha2 (q0 rfl) (q0 rfl))) (fun _ w _ => rnode_w n x.d e w) rfl rfl ?_
  refine xV (e_not (q0 rfl)) rfl rfl ?_
  refine XN ?_
  refine thenJ_normal ?_
  refine H_cond rfl (fun hb => ?_) (fun hb => ?_)
  · have hb' : (!nd n x.d) = true := hb
    refine H_seq ?_
    refine R0 ?_
    refine xV (e_as (v := .int _ _) (q0 rfl)) rfl rfl ?_
    refine XN ?_
    refine thenJ_normal ?_
    refine H_ret ?_
    refine thenJ_ret ?_
    exact ret1 (v := .int _ _) rfl rfl rfl fun w' hw => ⟨ret_int (by unfold tkErr; rw [if_pos hb']), hw.1⟩
  · have hb' : ¬(!nd n x.d) = true := by
      have h : (!nd n x.d) = false := hb
      rw [h]; decide
    refine H_skip ?_
    refine thenJ_normal ?_
    refine H_seq ?_
    refine H_seq ?_
    refine R0 ?_
    refine xV (e_fld Tryz.underlying150 rfl Tryz.sizeOf3 rfl (q0 rfl)) rfl rfl ?_
    refine xV (eL Tryz.isAgg3 (q0 rfl)) rfl rfl ?_
    refine xV (e_lt (q0 rfl) (q0 rfl)) rfl rfl ?_
    refine xV (e_mv (v := .bool _) (q0 rfl)) rfl rfl ?_
    refine xVF (e_fld Tryz.underlying150 rfl Tryz.sizeOf3 rfl (q0 rfl)) rfl rfl rfl rfl ?_
    refine xVF (eL Tryz.isAgg3 (q1 rfl)) rfl rfl rfl rfl ?_
    refine xVF (e_gt (q1 rfl) (q0 rfl)) rfl rfl rfl rfl ?_
    refine xV (e_or (q0 rfl) rfl (fun h => by first | rfl | (rw [h]; rfl))) rfl rfl ?_
    refine xV (e_mv (v := .bool _) (q0 rfl)) rfl rfl ?_
    refine xVF (e_fld Tryz.underlying150 rfl Tryz.sizeOf111 rfl (q0 rfl)) rfl rfl rfl rfl ?_
    refine xVF (e_fld Tryz.underlying111 rfl Tryz.sizeOf3 rfl (q1 rfl)) rfl rfl rfl rfl ?_
    refine xVF (eL Tryz.isAgg3 (q1 rfl)) rfl rfl rfl rfl ?_
    refine xVF (e_lt (q1 rfl) (q0 rfl)) rfl rfl rfl rfl ?_
    refine xV (e_or (q0 rfl) rfl (fun h => by first | rfl | (rw [h]; rfl))) rfl rfl ?_
    refine xV (e_mv (v := .bool _) (q0 rfl)) rfl rfl ?_
    refine xVF (e_fld Tryz.underlying150 rfl Tryz.sizeOf111 rfl (q0 rfl)) rfl rfl rfl rfl ?_
    refine xVF (e_fld Tryz.underlying111 rfl Tryz.sizeOf3 rfl (q1 rfl)) rfl rfl rfl rfl ?_
    refine xVF (eL Tryz.isAgg3 (q1 rfl)) rfl rfl rfl rfl ?_
    refine xVF (e_fld Tryz.underlying150 rfl Tryz.sizeOf111 rfl (q0 rfl)) rfl rfl rfl rfl ?_
    refine xVF (e_fld Tryz.underlying111 rfl Tryz.sizeOf3 rfl (q1 rfl)) rfl rfl rfl rfl ?_
    refine xVF (eL Tryz.isAgg3 (q1 rfl)) rfl rfl rfl rfl ?_
    refine xVF (e_lt (q1 rfl) (q1 rfl)) rfl rfl rfl rfl ?_
    refine xV (e_or (q0 rfl) rfl (fun h => by first | rfl | (rw [h]; rfl))) rfl rfl ?_
    refine xV (e_mv (v := .bool _) (q0 rfl)) rfl rfl ?_
    refine xVF (e_fld Tryz.underlying150 rfl Tryz.sizeOf111 rfl (q0 rfl)) rfl rfl rfl rfl ?_
    refine xVF (e_fld Tryz.underlying111 rfl Tryz.sizeOf3 rfl (q1 rfl)) rfl rfl rfl rfl ?_
    refine xVF (eL Tryz.isAgg3 (q1 rfl)) rfl rfl rfl rfl ?_
    refine xVF (e_gt (q1 rfl) (q0 rfl)) rfl rfl rfl rfl ?_
    refine xV (e_or (q0 rfl) rfl (fun h => by first | rfl | (rw [h]; rfl))) rfl rfl ?_
    refine XN ?_
    refine thenJ_normal ?_
    refine H_cond rfl (fun hc => ?_) (fun hc => ?_)
    · have h : ((((decide (x.c < 1) || decide (32 < x.c)) || decide (x.lo < 0)) || decide (x.hi < x.lo)) || decide (86400 < x.hi)) = true := hc
      refine H_seq ?_
      refine R0 ?_
      refine xV (e_as (v := .int _ _) (q0 rfl)) rfl rfl ?_
      refine XN ?_
      refine thenJ_normal ?_
      refine H_ret ?_
      refine thenJ_ret ?_
      exact ret1 (v := .int _ _) rfl rfl rfl fun w' hw => ⟨ret_int (by unfold tkErr; rw [if_neg hb', if_pos (by rw [inI_or]; exact h)]), hw.1⟩
    · have h : ((((decide (x.c < 1) || decide (32 < x.c)) || decide (x.lo < 0)) || decide (x.hi < x.lo)) || decide (86400 < x.hi)) = false := hc
      refine H_skip ?_
      refine thenJ_normal ?_
      refine H_seq ?_
      refine R0 ?_
      refine xV (e_as (v := .int _ _) (q0 rfl)) rfl rfl ?_
      refine XN ?_
      refine thenJ_normal ?_
      refine H_ret ?_
      exact ret1 (v := .int _ _) rfl rfl rfl fun w' hw => ⟨ret_int (by unfold tkErr; rw [if_neg hb', if_neg (by rw [inI_or, h]; decide)]), hw.1⟩
theorem rneed_w (n h : Int) (e t d : Sl) (x : Nd) (w : World) : Calls Tryz.prog 66 #[.agg (ngC n h e t d).toArray, .agg x.cells.toArray] w fun e w' => e = .returned (.int .i64 (neErr n x)) ∧ Bel w w' := by
  refine H_enter Tryz.func66 rfl Tryz.ntmps66 rfl ?_
  refine H_seq ?_
  refine R0 ?_
  refine X_box (v := .agg _) rfl rfl fun b2 => ?_
  refine X_box (v := .agg _) rfl rfl fun b3 => ?_
  refine xV (e_as (v := .int _ _) (q0 rfl)) rfl rfl ?_
  refine XN ?_
  refine thenJ_normal ?_
  refine H_seq ?_
  refine H_seq ?_
  refine R0 ?_
  refine xV (e_fld Tryz.underlying35 rfl Tryz.sizeOf31 rfl (q0 rfl)) rfl rfl ?_
  refine xV (eP Tryz.isAgg31 Tryz.sizeOf31 (q0 rfl)) rfl rfl ?_
  refine xV (e_fld Tryz.underlying153 rfl Tryz.sizeOf3 rfl (q0 rfl)) rfl rfl ?_
  refine xV (eL Tryz.isAgg3 (q0 rfl)) rfl rfl ?_
  refine xC (en Tryz.call108 (ha2 (q0 rfl) (q0 rfl))) (fun _ w _ => rnode_w n x.n e w) rfl rfl ?_
  refine xV (e_not (q0 rfl)) rfl rfl ?_
  refine XN ?_
  refine thenJ_normal ?_
  refine H_cond rfl (fun hb => ?_) (fun hb => ?_)
  · have hb' : (!nd n x.n) = true := hb
    refine H_seq ?_
    refine R0 ?_
    refine xV (e_as (v := .int _ _) (q0 rfl)) rfl rfl ?_
    refine XN ?_
    refine thenJ_normal ?_
    refine H_ret ?_
    refine thenJ_ret ?_
    exact ret1 (v := .int _ _) rfl rfl rfl fun w' hw => ⟨ret_int (by unfold neErr; rw [if_pos hb']), hw.1⟩
  · have hb' : ¬(!nd n x.n) = true := by
      have h : (!nd n x.n) = false := hb
      rw [h]; decide
    refine H_skip ?_
    refine thenJ_normal ?_
    refine H_seq ?_
    refine H_seq ?_
    refine R0 ?_
    refine xV (e_fld Tryz.underlying153 rfl Tryz.sizeOf3 rfl (q0 rfl)) rfl rfl ?_
    refine xV (eL Tryz.isAgg3 (q0 rfl)) rfl rfl ?_
    refine xV (e_eq (q0 rfl) (q0 rfl)) rfl rfl ?_
    refine xV (e_mv (v := .bool _) (q0 rfl)) rfl rfl ?_
    refine xVF (e_fld Tryz.underlying153 rfl Tryz.sizeOf3 rfl (q0 rfl)) rfl rfl rfl rfl ?_
    refine xVF (eL Tryz.isAgg3 (q1 rfl)) rfl rfl rfl rfl ?_
    refine xVF (e_lt (q1 rfl) (q0 rfl)) rfl rfl rfl rfl ?_
    refine xV (e_or (q0 rfl) rfl (fun h => by first | rfl | (rw [h]; rfl))) rfl rfl ?_
    refine xV (e_mv (v := .bool _) (q0 rfl)) rfl rfl ?_
    refine xVF (e_fld Tryz.underlying153 rfl Tryz.sizeOf3 rfl (q0 rfl)) rfl rfl rfl rfl ?_
    refine xVF (eL Tryz.isAgg3 (q1 rfl)) rfl rfl rfl rfl ?_
    refine xVF (e_gt (q1 rfl) (q0 rfl)) rfl rfl rfl rfl ?_
    refine xV (e_or (q0 rfl) rfl (fun h => by first | rfl | (rw [h]; rfl))) rfl rfl ?_
    refine XN ?_
    refine thenJ_normal ?_
    refine H_cond rfl (fun hc => ?_) (fun hc => ?_)
    · have h : ((decide (x.m = 0) || decide (x.m < -32)) || decide (32 < x.m)) = true := hc
      refine H_seq ?_
      refine R0 ?_
      refine xV (e_as (v := .int _ _) (q0 rfl)) rfl rfl ?_
      refine XN ?_
      refine thenJ_normal ?_
      refine H_ret ?_
      refine thenJ_ret ?_
      exact ret1 (v := .int _ _) rfl rfl rfl fun w' hw => ⟨ret_int (by unfold neErr; rw [if_neg hb', if_pos (by rw [inI_or, ← Bool.or_assoc]; exact h)]), hw.1⟩
    · have h : ((decide (x.m = 0) || decide (x.m < -32)) || decide (32 < x.m)) = false := hc
      refine H_skip ?_
      refine thenJ_normal ?_
      refine H_seq ?_
      refine R0 ?_
      refine xV (e_as (v := .int _ _) (q0 rfl)) rfl rfl ?_
      refine XN ?_
      refine thenJ_normal ?_
      refine H_ret ?_
      exact ret1 (v := .int _ _) rfl rfl rfl fun w' hw => ⟨ret_int (by unfold neErr; rw [if_neg hb', if_neg (by rw [inI_or, ← Bool.or_assoc, h]; decide)]), hw.1⟩
set_option maxRecDepth 20000 in
set_option maxHeartbeats 2000000 in
theorem rnight_w (n : Int) (es : List Eg) (ts : List Tk) (ds : List Nd) (hh : Int) (e t d : Sl) (w : World) (hE : SlAt w 3 Eg.cells e.A e.n es) (hT : SlAt w 4 Tk.cells t.A t.n ts) (hD : SlAt w 2 Nd.cells d.A d.n ds) : Calls Tryz.prog 21 #[.agg (ngC n hh e t d).toArray] w fun e w' => e = .returned (.int .i64 (ngErr ⟨n, es, ts, ds, hh⟩)) ∧ Bel w w' := by
  obtain ⟨i1, i2, i3, i4, i5, i6⟩ := ng_if ⟨n, es, ts, ds, hh⟩
  obtain ⟨tA, tn, tc⟩ := t
  obtain ⟨dA, dn, dc⟩ := d
  have hlT := hT.1
  have hnT := hT.2.1
  have hlD := hD.1
  have hnD := hD.2.1
  simp only at hlT hnT hlD hnD hT hD hE i1 i2 i3 i4 i5 i6
  refine H_enter Tryz.func21 rfl Tryz.ntmps21 rfl ?_
  refine H_seq ?_
  refine R0 ?_
  refine X_box (v := .agg _) rfl rfl fun b1 => ?_
  refine xV (e_as (v := .int _ _) (q0 rfl)) rfl rfl ?_
  refine XN ?_
  refine thenJ_normal ?_
  refine H_seq ?_
  refine H_seq ?_
  refine R0 ?_
  refine xV (e_fld Tryz.underlying35 rfl Tryz.sizeOf31 rfl (q0 rfl)) rfl rfl ?_
  refine xV (eP Tryz.isAgg31 Tryz.sizeOf31 (q0 rfl)) rfl rfl ?_
  refine xC (en Tryz.call64 (ha1 (q0 rfl))) (fun _ w hw => rroad_w n e es w (hE.mem hw)) rfl rfl ?_
  refine xV (e_as (v := .int _ _) (q0 rfl)) rfl rfl ?_
  refine XN ?_
  refine thenJ_normal ?_
  refine H_seq ?_
  refine R0 ?_
  refine xV (e_mv (v := .int _ _) (q0 rfl)) rfl rfl ?_
  refine xV (e_ne (q0 rfl) (q0 rfl)) rfl rfl ?_
  refine XN ?_
  refine thenJ_normal ?_
  refine H_cond rfl (fun h1 => ?_) (fun h1 => ?_)
  · have h1' : rdErr n es ≠ 0 := by simpa using h1
    refine H_seq ?_
    refine R0 ?_
    refine xV (e_mv (v := .int _ _) (q0 rfl)) rfl rfl ?_
    refine xV (e_as (v := .int _ _) (q0 rfl)) rfl rfl ?_
    refine XN ?_
    refine thenJ_normal ?_
    refine H_ret ?_
    refine thenJ_ret ?_
    exact ret1 (v := .int _ _) rfl rfl rfl fun w' hw => ⟨ret_int (i1 h1').symm, hw.1⟩
  · have h1' : rdErr n es = 0 := by simpa using h1
    have hnd := rd_ok h1'
    refine H_skip ?_
    refine thenJ_normal ?_
    refine H_seq ?_
    refine H_seq ?_
    refine R0 ?_
    refine xV (e_fld Tryz.underlying35 rfl Tryz.sizeOf32 rfl (q0 rfl)) rfl rfl ?_
    refine xV (eL Tryz.isAgg32 (q0 rfl)) rfl rfl ?_
    refine xV (e_len Tryz.underlying32 (q0 rfl)) rfl rfl ?_
    refine xV (e_gt (q0 rfl) (q0 rfl)) rfl rfl ?_
    refine xV (e_mv (v := .bool _) (q0 rfl)) rfl rfl ?_
    refine xVF (e_fld Tryz.underlying35 rfl Tryz.sizeOf33 rfl (q0 rfl)) rfl rfl rfl rfl ?_
    refine xVF (eL Tryz.isAgg33 (q1 rfl)) rfl rfl rfl rfl ?_
    refine xVF (e_len Tryz.underlying33 (q1 rfl)) rfl rfl rfl rfl ?_
    refine xVF (e_gt (q1 rfl) (q0 rfl)) rfl rfl rfl rfl ?_
    refine xV (e_or (q0 rfl) rfl (fun h => by first | rfl | (rw [h]; rfl))) rfl rfl ?_
    refine XN ?_
    refine thenJ_normal ?_
    refine H_cond rfl (fun h2 => ?_) (fun h2 => ?_)
    · have h2' : 8 < ts.length ∨ 16 < ds.length := by simp at h2; omega
      refine H_seq ?_
      refine R0 ?_
      refine xV (e_as (v := .int _ _) (q0 rfl)) rfl rfl ?_
      refine XN ?_
      refine thenJ_normal ?_
      refine H_ret ?_
      refine thenJ_ret ?_
      exact ret1 (v := .int _ _) rfl rfl rfl fun w' hw => ⟨ret_int (i2 h1' h2').symm, hw.1⟩
    · have h2' : ¬(8 < ts.length ∨ 16 < ds.length) := by simp at h2; omega
      refine H_skip ?_
      refine thenJ_normal ?_
      refine H_seq ?_
      refine H_seq ?_
      refine R0 ?_
      refine xV (e_as (v := .int _ _) (q0 rfl)) rfl rfl ?_
      refine XN ?_
      refine thenJ_normal ?_
      refine H_block ?_
      refine H_loop [2, 4, 5, 26, 27, 28, 29, 30, 31, 32, 33, 34, 35, 36, 37, 38, 39, 40, 41, 42] (fun k : Nat => [(4, .int .i64 k)]) (fun _ => [box b1 35 (ngC n hh e ⟨tA, tn, tc⟩ ⟨dA, dn, dc⟩)]) (fun k => k ≤ tn ∧ ∀ y ∈ ts.take k, tkErr n y = 0) (fun k => tn - k) 0 ⟨rfl, trivial⟩ (fun w hw => hw) rfl ⟨Nat.zero_le _, fun y hy => by simp at hy⟩ ?_
      rintro k g ⟨hk, hall⟩
      refine H_seq ?_
      refine H_seq ?_
      refine R0 ?_
      refine xV (e_mv (v := .int _ _) (q0 rfl)) rfl rfl ?_
      refine xV (e_fld Tryz.underlying35 rfl Tryz.sizeOf32 rfl (q0 rfl)) rfl rfl ?_
      refine xV (eL Tryz.isAgg32 (q0 rfl)) rfl rfl ?_
      refine xV (e_len Tryz.underlying32 (q0 rfl)) rfl rfl ?_
      refine xV (e_lt (q0 rfl) (q0 rfl)) rfl rfl ?_
      refine XN ?_
      refine thenJ_normal ?_
      refine H_cond rfl (fun hlt => ?_) (fun hlt => ?_)
      · have hlt' : k < tn := by simpa using hlt
        obtain ⟨b, off, x, rfl, hbl, hxk, hrx⟩ := hT.at_ hlt'
        refine H_skip ?_
        refine thenJ_normal ?_
        refine H_seq ?_
        refine H_block ?_
        refine H_seq ?_
        refine R1 rfl (by decide +kernel) ?_
        refine xV (eS Tryz.isAgg35 Tryz.sizeOf35 (q0 rfl)) rfl rfl ?_
        refine xV (e_fld Tryz.underlying35 rfl Tryz.sizeOf32 rfl (q0 rfl)) rfl rfl ?_
        refine xV (eL Tryz.isAgg32 (q0 rfl)) rfl rfl ?_
        refine xV (e_mv (v := .int _ _) (q0 rfl)) rfl rfl ?_
        refine xV (e_idx _ Tryz.underlying32 Tryz.sizeOf150 (q0 rfl) (q0 rfl) (fun _ => ⟨rfl, by omega⟩)) rfl rfl ?_
        refine xV (eS Tryz.isAgg150 Tryz.sizeOf150 (q0 rfl)) rfl rfl ?_
        refine xC (en Tryz.call65 (ha2 (q0 rfl) (q0 rfl))) (fun _ w _ => rtruck_w n hh e _ _ x w) rfl rfl ?_
        refine xV (e_as (v := .int _ _) (q0 rfl)) rfl rfl ?_
        refine XN ?_
        refine thenJ_normal ?_
        refine H_seq ?_
        refine R0 ?_
        refine xV (e_mv (v := .int _ _) (q0 rfl)) rfl rfl ?_
        refine xV (e_ne (q0 rfl) (q0 rfl)) rfl rfl ?_
        refine XN ?_
        refine thenJ_normal ?_
        refine H_cond rfl (fun hb => ?_) (fun hb => ?_)
        · have hb' : tkErr n x ≠ 0 := by simpa using hb
          have h8 := fe_bad hall hxk hb'
          refine H_seq ?_
          refine R0 ?_
          refine xV (e_mv (v := .int _ _) (q0 rfl)) rfl rfl ?_
          refine xV (e_as (v := .int _ _) (q0 rfl)) rfl rfl ?_
          refine XN ?_
          refine thenJ_normal ?_
          refine H_ret ?_
          refine blockJ_ret ?_
          refine thenJ_ret ?_
          refine loopJ_ret ?_
          refine blockJ_ret ?_
          refine thenJ_ret ?_
          exact ret1 (v := .int _ _) rfl rfl rfl fun w' hw => ⟨ret_int (by rw [i3 h1' h2' (by rw [h8]; exact hb'), h8]), hw.1⟩
        · have hb' : tkErr n x = 0 := by simpa using hb
          refine H_skip ?_
          refine blockJ_normal ?_
          refine thenJ_normal ?_
          refine R0 ?_
          refine xV (e_mv (v := .int _ _) (q0 rfl)) rfl rfl ?_
          refine xV (e_add (q0 rfl) (q0 rfl) (fun _ => ⟨rfl, by omega, by omega⟩)) rfl rfl ?_
          refine xV (e_as (v := .int _ _) (q0 rfl)) rfl rfl ?_
          refine XN ?_
          exact loopJ_normal (k + 1) (by repeat (first | exact agree_self | exact agree_over | refine agree_upd rfl ?_ | refine agree_updL rfl ?_ | refine agree_over2 rfl ?_)) ⟨rfl, trivial⟩ (fun w hw => hw) rfl ⟨by omega, fe_on hall hxk hb'⟩ (by show tn - (k + 1) < tn - k; omega)
      · have hend : k = tn := by simp at hlt; omega
        have h3' : fe (tkErr n) ts = 0 := fe_end hall (by omega)
        clear hall
        refine H_exit ?_
        refine thenJ_exit ?_
        refine loopJ_exit ?_
        refine blockJ_hit ?_
        refine thenJ_normal ?_
        refine H_seq ?_
        refine H_seq ?_
        refine R0 ?_
        refine xV (e_as (v := .int _ _) (q0 rfl)) rfl rfl ?_
        refine XN ?_
        refine thenJ_normal ?_
        refine H_block ?_
        refine H_loop [2, 6, 7, 43, 44, 45, 46, 47, 48, 49, 50, 51, 52, 53, 54, 55, 56, 57, 58, 59] (fun k : Nat => [(6, .int .i64 k)]) (fun _ => [box b1 35 (ngC n hh e ⟨tA, tn, tc⟩ ⟨dA, dn, dc⟩)]) (fun k => k ≤ dn ∧ ∀ y ∈ ds.take k, neErr n y = 0) (fun k => dn - k) 0 ⟨rfl, trivial⟩ (fun w hw => hw) rfl ⟨Nat.zero_le _, fun y hy => by simp at hy⟩ ?_
        rintro k2 g2 ⟨hk2, hall⟩
        refine H_seq ?_
        refine H_seq ?_
        refine R0 ?_
        refine xV (e_mv (v := .int _ _) (q0 rfl)) rfl rfl ?_
        refine xV (e_fld Tryz.underlying35 rfl Tryz.sizeOf33 rfl (q0 rfl)) rfl rfl ?_
        refine xV (eL Tryz.isAgg33 (q0 rfl)) rfl rfl ?_
        refine xV (e_len Tryz.underlying33 (q0 rfl)) rfl rfl ?_
        refine xV (e_lt (q0 rfl) (q0 rfl)) rfl rfl ?_
        refine XN ?_
        refine thenJ_normal ?_
        refine H_cond rfl (fun hlt2 => ?_) (fun hlt2 => ?_)
        · have hlt2' : k2 < dn := by simpa using hlt2
          obtain ⟨b, off, x, rfl, hbl, hxk, hrx⟩ := hD.at_ hlt2'
          refine H_skip ?_
          refine thenJ_normal ?_
          refine H_seq ?_
          refine H_block ?_
          refine H_seq ?_
          refine R1 rfl (by decide +kernel) ?_
          refine xV (eS Tryz.isAgg35 Tryz.sizeOf35 (q0 rfl)) rfl rfl ?_
          refine xV (e_fld Tryz.underlying35 rfl Tryz.sizeOf33 rfl (q0 rfl)) rfl rfl ?_
          refine xV (eL Tryz.isAgg33 (q0 rfl)) rfl rfl ?_
          refine xV (e_mv (v := .int _ _) (q0 rfl)) rfl rfl ?_
          refine xV (e_idx _ Tryz.underlying33 Tryz.sizeOf153 (q0 rfl) (q0 rfl) (fun _ => ⟨rfl, by omega⟩)) rfl rfl ?_
          refine xV (eS Tryz.isAgg153 Tryz.sizeOf153 (q0 rfl)) rfl rfl ?_
          refine xC (en Tryz.call66 (ha2 (q0 rfl) (q0 rfl))) (fun _ w _ => rneed_w n hh e _ _ x w) rfl rfl ?_
          refine xV (e_as (v := .int _ _) (q0 rfl)) rfl rfl ?_
          refine XN ?_
          refine thenJ_normal ?_
          refine H_seq ?_
          refine R0 ?_
          refine xV (e_mv (v := .int _ _) (q0 rfl)) rfl rfl ?_
          refine xV (e_ne (q0 rfl) (q0 rfl)) rfl rfl ?_
          refine XN ?_
          refine thenJ_normal ?_
          refine H_cond rfl (fun hb => ?_) (fun hb => ?_)
          · have hb' : neErr n x ≠ 0 := by simpa using hb
            have h8 := fe_bad hall hxk hb'
            refine H_seq ?_
            refine R0 ?_
            refine xV (e_mv (v := .int _ _) (q0 rfl)) rfl rfl ?_
            refine xV (e_as (v := .int _ _) (q0 rfl)) rfl rfl ?_
            refine XN ?_
            refine thenJ_normal ?_
            refine H_ret ?_
            refine blockJ_ret ?_
            refine thenJ_ret ?_
            refine loopJ_ret ?_
            refine blockJ_ret ?_
            refine thenJ_ret ?_
            exact ret1 (v := .int _ _) rfl rfl rfl fun w' hw => ⟨ret_int (by rw [i4 h1' h2' h3' (by rw [h8]; exact hb'), h8]), hw.1⟩
          · have hb' : neErr n x = 0 := by simpa using hb
            refine H_skip ?_
            refine blockJ_normal ?_
            refine thenJ_normal ?_
            refine R0 ?_
            refine xV (e_mv (v := .int _ _) (q0 rfl)) rfl rfl ?_
            refine xV (e_add (q0 rfl) (q0 rfl) (fun _ => ⟨rfl, by omega, by omega⟩)) rfl rfl ?_
            refine xV (e_as (v := .int _ _) (q0 rfl)) rfl rfl ?_
            refine XN ?_
            exact loopJ_normal (k2 + 1) (by repeat (first | exact agree_self | exact agree_over | refine agree_upd rfl ?_ | refine agree_updL rfl ?_ | refine agree_over2 rfl ?_)) ⟨rfl, trivial⟩ (fun w hw => hw) rfl ⟨by omega, fe_on hall hxk hb'⟩ (by show dn - (k2 + 1) < dn - k2; omega)
        · have hend2 : k2 = dn := by simp at hlt2; omega
          have h4' : fe (neErr n) ds = 0 := fe_end hall (by omega)
          clear hall
          refine H_exit ?_
          refine thenJ_exit ?_
          refine loopJ_exit ?_
          refine blockJ_hit ?_
          refine thenJ_normal ?_
          refine H_seq ?_
          refine H_seq ?_
          refine R0 ?_
          refine xV (e_as (v := .int _ _) (q0 rfl)) rfl rfl ?_
          refine XN ?_
          refine thenJ_normal ?_
          refine H_block ?_
          refine H_loop [2, 8, 9, 60, 61, 62, 63, 64, 65, 66, 67, 68, 69, 70, 71, 72, 73, 74, 75, 76, 77, 78, 79, 80, 81, 82, 83, 84] (fun k : Nat => [(8, .int .i64 k)]) (fun _ => [box b1 35 (ngC n hh e ⟨tA, tn, tc⟩ ⟨dA, dn, dc⟩)]) (fun k => k ≤ dn ∧ ∀ j, j < k → twAt ds j = false) (fun k => dn - k) 0 ⟨rfl, trivial⟩ (fun w hw => hw) rfl ⟨Nat.zero_le _, fun j hj => by omega⟩ ?_
          rintro k3 g3 ⟨hk3, hall⟩
          refine H_seq ?_
          refine H_seq ?_
          refine R0 ?_
          refine xV (e_mv (v := .int _ _) (q0 rfl)) rfl rfl ?_
          refine xV (e_fld Tryz.underlying35 rfl Tryz.sizeOf33 rfl (q0 rfl)) rfl rfl ?_
          refine xV (eL Tryz.isAgg33 (q0 rfl)) rfl rfl ?_
          refine xV (e_len Tryz.underlying33 (q0 rfl)) rfl rfl ?_
          refine xV (e_lt (q0 rfl) (q0 rfl)) rfl rfl ?_
          refine XN ?_
          refine thenJ_normal ?_
          refine H_cond rfl (fun hlt3 => ?_) (fun hlt3 => ?_)
          · have hlt3' : k3 < dn := by simpa using hlt3
            obtain ⟨b, off, x, rfl, hbl, hxk, hrx⟩ := hD.at_ hlt3'
            have htw : twAt ds k3 = (ds.take k3).any fun y => decide (y.n = x.n) := by unfold twAt; rw [hxk]
            refine H_skip ?_
            refine thenJ_normal ?_
            refine H_seq ?_
            refine H_block ?_
            refine H_seq ?_
            refine R0 ?_
            refine xV (e_as (v := .int _ _) (q0 rfl)) rfl rfl ?_
            refine XN ?_
            refine thenJ_normal ?_
            refine H_block ?_
            refine H_loop [2, 9, 67, 68, 69, 70, 71, 72, 73, 74, 75, 76, 77, 78, 79, 80, 81, 82, 83, 84] (fun i : Nat => [(9, .int .i64 i)]) (fun _ => [box b1 35 (ngC n hh e ⟨tA, tn, tc⟩ ⟨some ⟨b, off, none⟩, dn, dc⟩)]) (fun i => i ≤ k3 ∧ ((ds.take i).any fun y => decide (y.n = x.n)) = false) (fun i => k3 - i) 0 ⟨rfl, trivial⟩ (fun w hw => hw) rfl ⟨Nat.zero_le _, rfl⟩ ?_
            rintro i g4 ⟨hi, hin⟩
            refine H_seq ?_
            refine H_seq ?_
            refine R0 ?_
            refine xV (e_mv (v := .int _ _) (q0 rfl)) rfl rfl ?_
            refine xV (e_mv (v := .int _ _) (q0 rfl)) rfl rfl ?_
            refine xV (e_lt (q0 rfl) (q0 rfl)) rfl rfl ?_
            refine XN ?_
            refine thenJ_normal ?_
            refine H_cond rfl (fun hlt4 => ?_) (fun hlt4 => ?_)
            · have hlt4' : i < k3 := by simpa using hlt4
              have hidn : i < dn := by omega
              obtain ⟨q, hq, hrq⟩ := hD.row hidn
              refine H_skip ?_
              refine thenJ_normal ?_
              refine H_seq ?_
              refine H_block ?_
              refine H_seq ?_
              refine R1 rfl (by decide +kernel) ?_
              refine xV (e_fld Tryz.underlying35 rfl Tryz.sizeOf33 rfl (q0 rfl)) rfl rfl ?_
              refine xV (eL Tryz.isAgg33 (q0 rfl)) rfl rfl ?_
              refine xV (e_mv (v := .int _ _) (q0 rfl)) rfl rfl ?_
              refine xV (e_idx i Tryz.underlying33 Tryz.sizeOf153 (q0 rfl) (q0 rfl) (fun _ => ⟨rfl, hidn⟩)) rfl rfl ?_
              refine xV (e_fld Tryz.underlying153 rfl Tryz.sizeOf3 rfl (q0 rfl)) rfl rfl ?_
              refine xV (e_ld (v := .int .i64 q.n) Tryz.isAgg3 (q0 rfl) (by first | exact rc (j := 0) hrq ‹_› rfl | exact rc0 hrq ‹_› rfl)) rfl rfl ?_
              refine xV (e_fld Tryz.underlying35 rfl Tryz.sizeOf33 rfl (q0 rfl)) rfl rfl ?_
              refine xV (eL Tryz.isAgg33 (q0 rfl)) rfl rfl ?_
              refine xV (e_mv (v := .int _ _) (q0 rfl)) rfl rfl ?_
              refine xV (e_idx k3 Tryz.underlying33 Tryz.sizeOf153 (q0 rfl) (q0 rfl) (fun _ => ⟨rfl, hlt3'⟩)) rfl rfl ?_
              refine xV (e_fld Tryz.underlying153 rfl Tryz.sizeOf3 rfl (q0 rfl)) rfl rfl ?_
              refine xV (e_ld (v := .int .i64 x.n) Tryz.isAgg3 (q0 rfl) (by first | exact rc (j := 0) hrx ‹_› rfl | exact rc0 hrx ‹_› rfl)) rfl rfl ?_
              refine xV (e_eq (q0 rfl) (q0 rfl)) rfl rfl ?_
              refine XN ?_
              refine thenJ_normal ?_
              refine H_cond rfl (fun hb => ?_) (fun hb => ?_)
              · have hb' : decide (q.n = x.n) = true := hb
                refine H_seq ?_
                refine R0 ?_
                refine xV (e_as (v := .int _ _) (q0 rfl)) rfl rfl ?_
                refine XN ?_
                refine thenJ_normal ?_
                refine H_ret ?_
                refine blockJ_ret ?_
                refine thenJ_ret ?_
                refine loopJ_ret ?_
                refine blockJ_ret ?_
                refine blockJ_ret ?_
                refine thenJ_ret ?_
                refine loopJ_ret ?_
                refine blockJ_ret ?_
                refine thenJ_ret ?_
                exact ret1 (v := .int _ _) rfl rfl rfl fun w' hw => ⟨ret_int (by rw [i5 h1' h2' h3' h4' (ax_bad (n := ds.length) (k := k3) (by omega) (by rw [htw]; exact List.any_eq_true.2 ⟨q, List.mem_of_getElem? (i := i) (by rw [List.getElem?_take, if_pos hlt4']; exact hq), hb'⟩))]), hw.1⟩
              · have hb' : decide (q.n = x.n) = false := hb
                refine H_skip ?_
                refine blockJ_normal ?_
                refine thenJ_normal ?_
                refine R0 ?_
                refine xV (e_mv (v := .int _ _) (q0 rfl)) rfl rfl ?_
                refine xV (e_add (q0 rfl) (q0 rfl) (fun _ => ⟨rfl, by omega, by omega⟩)) rfl rfl ?_
                refine xV (e_as (v := .int _ _) (q0 rfl)) rfl rfl ?_
                refine XN ?_
                exact loopJ_normal (i + 1) (by repeat (first | exact agree_self | exact agree_over | refine agree_upd rfl ?_ | refine agree_updL rfl ?_ | refine agree_over2 rfl ?_)) ⟨rfl, trivial⟩ (fun w hw => hw) rfl ⟨by omega, by rw [snocT _ _ _ hq, List.any_append, hin]; simp [hb']⟩ (by show k3 - (i + 1) < k3 - i; omega)
            · have hend4 : i = k3 := by simp at hlt4; omega
              subst hend4
              refine H_exit ?_
              refine thenJ_exit ?_
              refine loopJ_exit ?_
              refine blockJ_hit ?_
              refine blockJ_normal ?_
              refine thenJ_normal ?_
              refine R0 ?_
              refine xV (e_mv (v := .int _ _) (q0 rfl)) rfl rfl ?_
              refine xV (e_add (q0 rfl) (q0 rfl) (fun _ => ⟨rfl, by omega, by omega⟩)) rfl rfl ?_
              refine xV (e_as (v := .int _ _) (q0 rfl)) rfl rfl ?_
              refine XN ?_
              exact loopJ_normal (i + 1) (by repeat (first | exact agree_self | exact agree_over | refine agree_upd rfl ?_ | refine agree_updL rfl ?_ | refine agree_over2 rfl ?_)) ⟨rfl, trivial⟩ (fun w hw => hw) rfl ⟨by omega, ax_on hall (by rw [htw]; exact hin)⟩ (by show dn - (i + 1) < dn - i; omega)
          · have hend3 : k3 = dn := by simp at hlt3; omega
            have h5' : ¬ax (twAt ds) ds.length = true := by rw [ax_end fun j hj => hall j (by omega)]; decide
            refine H_exit ?_
            refine thenJ_exit ?_
            refine loopJ_exit ?_
            refine blockJ_hit ?_
            refine thenJ_normal ?_
            refine H_seq ?_
            refine H_seq ?_
            refine R0 ?_
            refine xV (e_fld Tryz.underlying35 rfl Tryz.sizeOf3 rfl (q0 rfl)) rfl rfl ?_
            refine xV (eL Tryz.isAgg3 (q0 rfl)) rfl rfl ?_
            refine xV (e_lt (q0 rfl) (q0 rfl)) rfl rfl ?_
            refine xV (e_mv (v := .bool _) (q0 rfl)) rfl rfl ?_
            refine xVF (e_fld Tryz.underlying35 rfl Tryz.sizeOf3 rfl (q0 rfl)) rfl rfl rfl rfl ?_
            refine xVF (eL Tryz.isAgg3 (q1 rfl)) rfl rfl rfl rfl ?_
            refine xVF (e_gt (q1 rfl) (q0 rfl)) rfl rfl rfl rfl ?_
            refine xV (e_or (q0 rfl) rfl (fun h => by first | rfl | (rw [h]; rfl))) rfl rfl ?_
            refine XN ?_
            refine thenJ_normal ?_
            refine H_cond rfl (fun h6 => ?_) (fun h6 => ?_)
            · have h6' : (!inI hh 0 3600) = true := by rw [inI_or]; exact h6
              refine H_seq ?_
              refine R0 ?_
              refine xV (e_as (v := .int _ _) (q0 rfl)) rfl rfl ?_
              refine XN ?_
              refine thenJ_normal ?_
              refine H_ret ?_
              refine thenJ_ret ?_
              exact ret1 (v := .int _ _) rfl rfl rfl fun w' hw => ⟨ret_int (by rw [i6 h1' h2' h3' h4' h5', if_pos h6']), hw.1⟩
            · have h6' : ¬(!inI hh 0 3600) = true := by
                have h : (decide (hh < 0) || decide (3600 < hh)) = false := h6
                rw [inI_or, h]; decide
              refine H_skip ?_
              refine thenJ_normal ?_
              refine H_seq ?_
              refine R0 ?_
              refine xV (e_as (v := .int _ _) (q0 rfl)) rfl rfl ?_
              refine XN ?_
              refine thenJ_normal ?_
              refine H_ret ?_
              exact ret1 (v := .int _ _) rfl rfl rfl fun w' hw => ⟨ret_int (by rw [i6 h1' h2' h3' h4' h5', if_neg h6']), hw.1⟩
end Go.Proofs.Sys

/-
  A setup's error, both ways.
-/
namespace Go.Proofs.Sys
open Go Go.RowKit Go.Proofs.E Go.Proofs.Cus Go.Proofs.Far


structure Su where
  f : Fl
  p : Pr
  n : Int
  es : List Eg
  ts : List Tk
  ds : List Nd
  h : Int
  z : List Int
  size : Int
  ws : List Int
  each : Int
  budget : Int
  least : Int
  width : Int
  k1 : Int
  k2 : Int
def suC (u : Su) (fa : FA) (a : PrA) (e t d z ws : Sl) : List Value := [.int .i64 u.f.bikes, .int .i64 u.f.riders, .int .i64 u.f.devices, .slice fa.dA fa.dn fa.dc, .slice fa.tA fa.tn fa.tc, .slice a.t.A a.t.n a.t.c, .slice a.p.A a.p.n a.p.c, .slice a.pl.A a.pl.n a.pl.c, .slice a.d.A a.d.n a.d.c, .int .i64 u.p.cap, .slice a.f.A a.f.n a.f.c, .int .i64 u.p.days, .int .i64 u.n, .slice e.A e.n e.c, .slice t.A t.n t.c, .slice d.A d.n d.c, .int .i64 u.h, .slice z.A z.n z.c, .int .i64 u.size, .slice ws.A ws.n ws.c, .int .i64 u.each, .int .i64 u.budget, .int .i64 u.least, .int .i64 u.width, .int .u64 u.k1, .int .u64 u.k2]
structure SuAt (w : World) (u : Su) (fa : FA) (a : PrA) (e t d z ws : Sl) : Prop where
  Hf : FlAt w u.f fa
  Hp : PrAt w u.p a
  He : SlAt w 3 Eg.cells e.A e.n u.es
  Ht : SlAt w 4 Tk.cells t.A t.n u.ts
  Hd : SlAt w 2 Nd.cells d.A d.n u.ds
  Hc : d.n ≤ d.c
  Hz : IntsAt w z.A z.n u.z
  Hw : IntsAt w ws.A ws.n u.ws
theorem SuAt.mem {w0 w : World} {L : List E.Item} {u : Su} {fa : FA} {a : PrA} {e t d z ws : Sl} (h : SuAt w0 u fa a e t d z ws) (hm : Mem w0 L w) : SuAt w u fa a e t d z ws := ⟨h.Hf.mem hm, h.Hp.mem hm, h.He.mem hm, h.Ht.mem hm, h.Hd.mem hm, h.Hc, h.Hz.mem hm, h.Hw.mem hm⟩
def zBad (size x : Int) : Bool := !inI x 0 (size - 1)
theorem zBad_or (size x : Int) : zBad size x = (decide (x < 0) || decide (size ≤ x)) := by
  unfold zBad
  rw [inI_or]
  congr 1
  exact decide_eq_decide.2 (by omega)
def lim (u : Su) : Bool := ((!inI u.each 1 256 || !inI u.budget 0 1000000) || !inI u.least 1 1000000) || !inI u.width 0 65536
theorem lim_or (u : Su) : lim u = (((((((decide (u.each < 1) || decide (256 < u.each)) || decide (u.budget < 0)) || decide (1000000 < u.budget)) || decide (u.least < 1)) || decide (1000000 < u.least)) || decide (u.width < 0)) || decide (65536 < u.width)) := by
  unfold lim
  simp only [inI_or, Bool.or_assoc]
def suErr (u : Su) : Int :=
  if prErr u.f u.p ≠ 0 then prErr u.f u.p
  else if ngErr ⟨u.n, u.es, u.ts, u.ds, u.h⟩ ≠ 0 then ngErr ⟨u.n, u.es, u.ts, u.ds, u.h⟩
  else if u.z.length ≠ 64 + u.f.docks.length then 3
  else if ((!inI u.size 1 8) || u.z.any (zBad u.size)) = true then 1
  else if nzErr u.ws ≠ 0 then nzErr u.ws
  else if lim u = true then 1 else 0
theorem chain6 {a b c r : Int} {p q s : Prop} [Decidable p] [Decidable q] [Decidable s] (h : r = if a ≠ 0 then a else if b ≠ 0 then b else if p then 3 else if q then 1 else if c ≠ 0 then c else if s then 1 else 0) : (a ≠ 0 → r = a) ∧ (a = 0 → b ≠ 0 → r = b) ∧ (a = 0 → b = 0 → p → r = 3) ∧ (a = 0 → b = 0 → ¬p → q → r = 1) ∧ (a = 0 → b = 0 → ¬p → ¬q → c ≠ 0 → r = c) ∧ (a = 0 → b = 0 → ¬p → ¬q → c = 0 → s → r = 1) ∧ (a = 0 → b = 0 → ¬p → ¬q → c = 0 → ¬s → r = 0) := by
  refine ⟨fun h1 => ?_, fun h1 h2 => ?_, fun h1 h2 h3 => ?_, fun h1 h2 h3 h4 => ?_, fun h1 h2 h3 h4 h5 => ?_, fun h1 h2 h3 h4 h5 h6 => ?_, fun h1 h2 h3 h4 h5 h6 => ?_⟩ <;> simp_all
theorem su_if (u : Su) : (prErr u.f u.p ≠ 0 → suErr u = prErr u.f u.p) ∧ (prErr u.f u.p = 0 → ngErr ⟨u.n, u.es, u.ts, u.ds, u.h⟩ ≠ 0 → suErr u = ngErr ⟨u.n, u.es, u.ts, u.ds, u.h⟩) ∧ (prErr u.f u.p = 0 → ngErr ⟨u.n, u.es, u.ts, u.ds, u.h⟩ = 0 → u.z.length ≠ 64 + u.f.docks.length → suErr u = 3) ∧ (prErr u.f u.p = 0 → ngErr ⟨u.n, u.es, u.ts, u.ds, u.h⟩ = 0 → ¬u.z.length ≠ 64 + u.f.docks.length → ((!inI u.size 1 8) || u.z.any (zBad u.size)) = true → suErr u = 1) ∧ (prErr u.f u.p = 0 → ngErr ⟨u.n, u.es, u.ts, u.ds, u.h⟩ = 0 → ¬u.z.length ≠ 64 + u.f.docks.length → ¬((!inI u.size 1 8) || u.z.any (zBad u.size)) = true → nzErr u.ws ≠ 0 → suErr u = nzErr u.ws) ∧ (prErr u.f u.p = 0 → ngErr ⟨u.n, u.es, u.ts, u.ds, u.h⟩ = 0 → ¬u.z.length ≠ 64 + u.f.docks.length → ¬((!inI u.size 1 8) || u.z.any (zBad u.size)) = true → nzErr u.ws = 0 → lim u = true → suErr u = 1) ∧ (prErr u.f u.p = 0 → ngErr ⟨u.n, u.es, u.ts, u.ds, u.h⟩ = 0 → ¬u.z.length ≠ 64 + u.f.docks.length → ¬((!inI u.size 1 8) || u.z.any (zBad u.size)) = true → nzErr u.ws = 0 → ¬lim u = true → suErr u = 0) := chain6 rfl
theorem fl42 {fs : Array Field} (h : Tryz.prog.underlying 42 = some (.struct fs) := by exact Tryz.underlying42) : FieldsLie Tryz.prog fs [(0, 5), (5, 7), (12, 5), (17, 1), (18, 1), (19, 1), (20, 1), (21, 1), (22, 1), (23, 1), (24, 2)] := by
  rw [Tryz.underlying42] at h
  cases h
  intro w
  kernel_rfl
theorem fl24 {fs : Array Field} (h : Tryz.prog.underlying 24 = some (.struct fs) := by exact Tryz.underlying24) : FieldsLie Tryz.prog fs [(0, 1), (1, 1), (2, 1), (3, 1), (4, 1)] := by
  rw [Tryz.underlying24] at h
  cases h
  intro w
  kernel_rfl
theorem sin_w (n lo hi : Int) (w : World) : Calls Tryz.prog 27 #[.int .i64 n, .int .i64 lo, .int .i64 hi] w fun e w' => e = .returned (.bool (inI n lo hi)) ∧ Bel w w' := by
  refine H_enter Tryz.func27 rfl Tryz.ntmps27 rfl ?_
  refine H_seq ?_
  refine R0 ?_
  refine xV (e_as (v := .bool _) (q0 rfl)) rfl rfl ?_
  refine XN ?_
  refine thenJ_normal ?_
  refine H_seq ?_
  refine R0 ?_
  refine xV (e_mv (v := .int _ _) (q0 rfl)) rfl rfl ?_
  refine xV (e_mv (v := .int _ _) (q0 rfl)) rfl rfl ?_
  refine xV (e_le (q0 rfl) (q0 rfl)) rfl rfl ?_
  refine xV (e_mv (v := .bool _) (q0 rfl)) rfl rfl ?_
  refine xVT (e_mv (v := .int _ _) (q0 rfl)) rfl rfl rfl rfl ?_
  refine xVT (e_mv (v := .int _ _) (q0 rfl)) rfl rfl rfl rfl ?_
  refine xVT (e_le (q1 rfl) (q1 rfl)) rfl rfl rfl rfl ?_
  refine xV (e_and (q0 rfl) rfl (fun h => by first | rfl | (rw [h]; rfl))) rfl rfl ?_
  refine xV (e_as (v := .bool _) (q0 rfl)) rfl rfl ?_
  refine XN ?_
  refine thenJ_normal ?_
  refine H_ret ?_
  exact ret1 (v := .bool _) rfl rfl rfl fun w' hw => ⟨rfl, hw.1⟩
theorem zbad_w (x sz : Int) (b : Nat) (cs : List Value) (w : World) (hb : RowAt w b 0 cs) (hbl : b < w.heap.size) (hs : cs[18]? = some (.int .i64 sz)) (h1 : 1 ≤ sz) (h2 : sz ≤ 8) : Calls Tryz.prog 29 #[.int .i64 x, .pointer (some ⟨b, 0, none⟩)] w fun e w' => e = .returned (.bool (zBad sz x)) ∧ Bel w w' := by
  refine H_enter Tryz.func29 rfl Tryz.ntmps29 rfl ?_
  refine H_seq ?_
  refine R0 ?_
  refine xV (e_as (v := .bool _) (q0 rfl)) rfl rfl ?_
  refine XN ?_
  refine thenJ_normal ?_
  refine H_seq ?_
  refine R0 ?_
  refine xV (e_mv (v := .int _ _) (q0 rfl)) rfl rfl ?_
  refine xV (e_fld Tryz.underlying42 rfl Tryz.sizeOf3 rfl (q0 rfl)) rfl rfl ?_
  refine xV (e_ld (v := .int .i64 sz) Tryz.isAgg3 (q0 rfl) (rc (j := 18) hb hbl hs)) rfl rfl ?_
  refine xV (e_sub (q0 rfl) (q0 rfl) (fun _ => ⟨rfl, by omega, by omega⟩)) rfl rfl ?_
  refine xC (en Tryz.call27 (ha3 (q0 rfl) (q0 rfl) (q0 rfl))) (fun _ w _ => sin_w x 0 (sz - 1) w) rfl rfl ?_
  refine xV (e_not (q0 rfl)) rfl rfl ?_
  refine xV (e_as (v := .bool _) (q0 rfl)) rfl rfl ?_
  refine XN ?_
  refine thenJ_normal ?_
  refine H_ret ?_
  exact ret1 (v := .bool _) rfl rfl rfl fun w' hw => ⟨rfl, hw.1⟩
theorem idxZ_w (A : Option Addr) (n c : Nat) (xs : List Int) (sz : Int) (b : Nat) (cs : List Value) (w : World) (hx : IntsAt w A n xs) (hb : RowAt w b 0 cs) (hbl : b < w.heap.size) (hs : cs[18]? = some (.int .i64 sz)) (h1 : 1 ≤ sz) (h2 : sz ≤ 8) : Calls Tryz.prog 82 #[.slice A n c, .func (.func 29) #[] #[.pointer (some ⟨b, 0, none⟩)]] w fun e w' => (∃ i : Int, e = .returned (.int .i64 i) ∧ (decide (0 ≤ i) = xs.any (zBad sz))) ∧ Bel w w' := by
  have hl := hx.1
  have hn := hx.2.1
  refine H_enter Tryz.func82 rfl Tryz.ntmps82 rfl ?_
  refine H_seq ?_
  refine R0 ?_
  refine xV (e_as (v := .int _ _) (q0 rfl)) rfl rfl ?_
  refine XN ?_
  refine thenJ_normal ?_
  refine H_seq ?_
  refine H_seq ?_
  refine R0 ?_
  refine xV (e_mv (v := .slice _ _ _) (q0 rfl)) rfl rfl ?_
  refine xV (e_len Tryz.underlying22 (q0 rfl)) rfl rfl ?_
  refine xV (e_mv (v := .int _ _) (q0 rfl)) rfl rfl ?_
  refine XN ?_
  refine thenJ_normal ?_
  refine H_block ?_
  refine H_loop [4, 5, 8, 9, 10, 11, 12, 13, 14, 15, 16, 17, 18] (fun k : Nat => [(8, .int .i64 k)]) (fun _ => []) (fun k => k ≤ n ∧ (xs.take k).any (zBad sz) = false) (fun k => n - k) 0 ⟨rfl, trivial⟩ (fun w hw => hw) rfl ⟨Nat.zero_le _, rfl⟩ ?_
  rintro k g ⟨hk, hall⟩
  refine H_seq ?_
  refine R0 ?_
  refine xV (e_lt (q0 rfl) (q0 rfl)) rfl rfl ?_
  refine XN ?_
  refine thenJ_normal ?_
  refine H_seq ?_
  refine H_cond rfl (fun hlt => ?_) (fun hlt => ?_)
  · have hlt' : k < n := by simpa using hlt
    obtain ⟨pb, off, y, rfl, hpbl, hyk, hry⟩ := hx.at_ hlt'
    refine H_skip ?_
    refine thenJ_normal ?_
    refine H_seq ?_
    refine H_block ?_
    refine H_seq ?_
    refine R0 ?_
    refine xV (e_mv (v := .int _ _) (q0 rfl)) rfl rfl ?_
    refine xV (e_as (v := .int _ _) (q0 rfl)) rfl rfl ?_
    refine XN ?_
    refine thenJ_normal ?_
    refine H_seq ?_
    refine R0 ?_
    refine xV (e_mv (q0 rfl)) rfl rfl ?_
    refine xV (e_mv (v := .slice _ _ _) (q0 rfl)) rfl rfl ?_
    refine xV (e_mv (v := .int _ _) (q0 rfl)) rfl rfl ?_
    refine xV (e_idx _ Tryz.underlying22 Tryz.sizeOf3 (q0 rfl) (q0 rfl) (fun _ => ⟨rfl, by omega⟩)) rfl rfl ?_
    refine xV (eL Tryz.isAgg3 (q0 rfl)) rfl rfl ?_
    refine xC (enV (cap := [.pointer (some ⟨b, 0, none⟩)]) (al := [.int .i64 y, .pointer (some ⟨b, 0, none⟩)]) Tryz.call29 (q0 rfl) (fun hg => by rw [ha1 (q0 (v := .int _ _) rfl) hg]; rfl)) (fun _ w hw => zbad_w y sz b cs w (fun j u hu => rcs hb hbl rfl w hw j u hu) (Nat.lt_of_lt_of_le hbl hw.1.size) hs h1 h2) rfl rfl ?_
    refine XN ?_
    refine thenJ_normal ?_
    refine H_cond rfl (fun hv => ?_) (fun hv => ?_)
    · have hv' : zBad sz y = true := hv
      refine H_seq ?_
      refine R0 ?_
      refine xV (e_mv (v := .int _ _) (q0 rfl)) rfl rfl ?_
      refine xV (e_as (v := .int _ _) (q0 rfl)) rfl rfl ?_
      refine XN ?_
      refine thenJ_normal ?_
      refine H_ret ?_
      refine blockJ_ret ?_
      refine thenJ_ret ?_
      refine loopJ_ret ?_
      refine blockJ_ret ?_
      refine thenJ_ret ?_
      exact ret1 (v := .int _ _) rfl rfl rfl fun w' hw => ⟨⟨k, rfl, by rw [List.any_eq_true.2 ⟨y, List.mem_of_getElem? hyk, hv'⟩]; simp⟩, hw.1⟩
    · have hv' : zBad sz y = false := hv
      refine H_skip ?_
      refine blockJ_normal ?_
      refine thenJ_normal ?_
      refine R0 ?_
      refine xV (e_add (q0 rfl) (q0 rfl) (fun _ => ⟨rfl, by omega, by omega⟩)) rfl rfl ?_
      refine xV (e_mv (v := .int _ _) (q0 rfl)) rfl rfl ?_
      refine XN ?_
      exact loopJ_normal (k + 1) (by repeat (first | exact agree_self | exact agree_over | refine agree_upd rfl ?_ | refine agree_updL rfl ?_ | refine agree_over2 rfl ?_)) ⟨rfl, trivial⟩ (fun w hw => hw) rfl ⟨by omega, by rw [snocT _ _ _ hyk, List.any_append, hall]; simp [hv']⟩ (by show n - (k + 1) < n - k; omega)
  · have hend : k = n := by simp at hlt; omega
    rw [hend, List.take_of_length_le (by omega)] at hall
    refine H_exit ?_
    refine thenJ_exit ?_
    refine loopJ_exit ?_
    refine blockJ_hit ?_
    refine thenJ_normal ?_
    refine H_seq ?_
    refine R0 ?_
    refine xV (e_as (v := .int _ _) (q0 rfl)) rfl rfl ?_
    refine XN ?_
    refine thenJ_normal ?_
    refine H_ret ?_
    exact ret1 (v := .int _ _) rfl rfl rfl fun w' hw => ⟨⟨-1, rfl, by rw [hall]; rfl⟩, hw.1⟩
theorem conZ_w (A : Option Addr) (n c : Nat) (xs : List Int) (sz : Int) (b : Nat) (cs : List Value) (w : World) (hx : IntsAt w A n xs) (hb : RowAt w b 0 cs) (hbl : b < w.heap.size) (hs : cs[18]? = some (.int .i64 sz)) (h1 : 1 ≤ sz) (h2 : sz ≤ 8) : Calls Tryz.prog 28 #[.slice A n c, .func (.func 29) #[] #[.pointer (some ⟨b, 0, none⟩)]] w fun e w' => e = .returned (.bool (xs.any (zBad sz))) ∧ Bel w w' := by
  refine H_enter Tryz.func28 rfl Tryz.ntmps28 rfl ?_
  refine H_seq ?_
  refine R0 ?_
  refine xV (e_as (v := .bool _) (q0 rfl)) rfl rfl ?_
  refine XN ?_
  refine thenJ_normal ?_
  refine H_seq ?_
  refine R0 ?_
  refine xV (e_mv (v := .slice _ _ _) (q0 rfl)) rfl rfl ?_
  refine xV (e_mv (q0 rfl)) rfl rfl ?_
  refine xCX (en Tryz.call82 (ha2 (q0 rfl) (q0 rfl))) (fun w hw => (idxZ_w A n c xs sz b cs w (hx.mem hw) (fun j u hu => rcs hb hbl rfl w hw j u hu) (Nat.lt_of_lt_of_le hbl hw.1.size) hs h1 h2).mono fun r w' h => (match h with | ⟨⟨i, h1, h2⟩, hb⟩ => (⟨(⟨i, h2⟩ : { i : Int // decide (0 ≤ i) = xs.any (zBad sz) }), h1, mem_nil.2 hb⟩ : ∃ z : { i : Int // decide (0 ≤ i) = xs.any (zBad sz) }, r = .returned (.int .i64 z.1) ∧ Mem w [] w'))) rfl (fun _ => rfl) fun z => ?_
  refine xV (e_ge (q0 rfl) (q0 rfl)) rfl rfl ?_
  refine xV (e_as (v := .bool _) (q0 rfl)) rfl rfl ?_
  refine XN ?_
  refine thenJ_normal ?_
  refine H_ret ?_
  exact ret1 (v := .bool _) rfl rfl rfl fun w' hw => ⟨ret_bool (show decide (0 ≤ z.1) = _ from z.2), hw.1⟩
attribute [local irreducible] prErr ngErr nzErr
set_option maxRecDepth 20000 in
set_option maxHeartbeats 1000000 in
theorem scheck_w (u : Su) (fa : FA) (a : PrA) (e t d z ws : Sl) (w : World) (hu : SuAt w u fa a e t d z ws) : Calls Tryz.prog 9 #[.agg (suC u fa a e t d z ws).toArray] w fun e w' => e = .returned (.int .i64 (suErr u)) ∧ Bel w w' := by
  obtain ⟨i1, i2, i3, i4, i5, i6, i7⟩ := su_if u
  have hlz := hu.Hz.1
  have hld := hu.Hf.docks.1
  refine H_enter Tryz.func9 rfl Tryz.ntmps9 rfl ?_
  refine H_seq ?_
  refine R0 ?_
  refine X_box (v := .agg _) rfl rfl fun b1 => ?_
  refine xV (e_as (v := .int _ _) (q0 rfl)) rfl rfl ?_
  refine XN ?_
  refine thenJ_normal ?_
  refine H_seq ?_
  refine H_seq ?_
  refine R0 ?_
  refine xV (e_fld Tryz.underlying42 rfl Tryz.sizeOf24 rfl (q0 rfl)) rfl rfl ?_
  refine xV (eP Tryz.isAgg24 Tryz.sizeOf24 (q0 rfl)) rfl rfl ?_
  refine xV (e_fld Tryz.underlying42 rfl Tryz.sizeOf28 rfl (q0 rfl)) rfl rfl ?_
  refine xV (eP Tryz.isAgg28 Tryz.sizeOf28 (q0 rfl)) rfl rfl ?_
  refine xC (en Tryz.call25 (ha2 (q0 rfl) (q0 rfl))) (fun _ w hw => fcheck_w u.f fa u.p a w (hu.Hf.mem hw) (hu.Hp.mem hw)) rfl rfl ?_
  refine xV (e_as (v := .int _ _) (q0 rfl)) rfl rfl ?_
  refine XN ?_
  refine thenJ_normal ?_
  refine H_seq ?_
  refine R0 ?_
  refine xV (e_mv (v := .int _ _) (q0 rfl)) rfl rfl ?_
  refine xV (e_ne (q0 rfl) (q0 rfl)) rfl rfl ?_
  refine XN ?_
  refine thenJ_normal ?_
  refine H_cond rfl (fun h1 => ?_) (fun h1 => ?_)
  · have h1' : prErr u.f u.p ≠ 0 := by simpa using h1
    refine H_seq ?_
    refine R0 ?_
    refine xV (e_mv (v := .int _ _) (q0 rfl)) rfl rfl ?_
    refine xV (e_as (v := .int _ _) (q0 rfl)) rfl rfl ?_
    refine XN ?_
    refine thenJ_normal ?_
    refine H_ret ?_
    refine thenJ_ret ?_
    exact ret1 (v := .int _ _) rfl rfl rfl fun w' hw => ⟨ret_int (i1 h1').symm, hw.1⟩
  · have h1' : prErr u.f u.p = 0 := by simpa using h1
    have hfl : u.f.docks.length ≤ 32 := fl_docks (Classical.byContradiction fun hn => by unfold prErr at h1'; rw [if_pos hn] at h1'; exact hn h1')
    refine H_skip ?_
    refine thenJ_normal ?_
    refine H_seq ?_
    refine H_seq ?_
    refine R0 ?_
    refine xV (e_fld Tryz.underlying42 rfl Tryz.sizeOf35 rfl (q0 rfl)) rfl rfl ?_
    refine xV (eP Tryz.isAgg35 Tryz.sizeOf35 (q0 rfl)) rfl rfl ?_
    refine xC (en Tryz.call26 (ha1 (q0 rfl))) (fun _ w hw => night_w u.n u.es u.ts u.ds u.h e t d w (hu.He.mem hw) (hu.Ht.mem hw) (hu.Hd.mem hw) hu.Hc) rfl rfl ?_
    refine xV (e_as (v := .int _ _) (q0 rfl)) rfl rfl ?_
    refine XN ?_
    refine thenJ_normal ?_
    refine H_seq ?_
    refine R0 ?_
    refine xV (e_mv (v := .int _ _) (q0 rfl)) rfl rfl ?_
    refine xV (e_ne (q0 rfl) (q0 rfl)) rfl rfl ?_
    refine XN ?_
    refine thenJ_normal ?_
    refine H_cond rfl (fun h2 => ?_) (fun h2 => ?_)
    · have h2' : ngErr ⟨u.n, u.es, u.ts, u.ds, u.h⟩ ≠ 0 := by simpa using h2
      refine H_seq ?_
      refine R0 ?_
      refine xV (e_mv (v := .int _ _) (q0 rfl)) rfl rfl ?_
      refine xV (e_as (v := .int _ _) (q0 rfl)) rfl rfl ?_
      refine XN ?_
      refine thenJ_normal ?_
      refine H_ret ?_
      refine thenJ_ret ?_
      exact ret1 (v := .int _ _) rfl rfl rfl fun w' hw => ⟨ret_int (i2 h1' h2').symm, hw.1⟩
    · have h2' : ngErr ⟨u.n, u.es, u.ts, u.ds, u.h⟩ = 0 := by simpa using h2
      refine H_skip ?_
      refine thenJ_normal ?_
      refine H_seq ?_
      refine H_seq ?_
      refine R0 ?_
      refine xV (e_fld Tryz.underlying42 rfl Tryz.sizeOf22 rfl (q0 rfl)) rfl rfl ?_
      refine xV (eL Tryz.isAgg22 (q0 rfl)) rfl rfl ?_
      refine xV (e_len Tryz.underlying22 (q0 rfl)) rfl rfl ?_
      refine xV (e_fld Tryz.underlying42 rfl Tryz.sizeOf24 rfl (q0 rfl)) rfl rfl ?_
      refine xV (e_fld Tryz.underlying24 rfl Tryz.sizeOf22 rfl (q0 rfl)) rfl rfl ?_
      refine xV (eL Tryz.isAgg22 (q0 rfl)) rfl rfl ?_
      refine xV (e_len Tryz.underlying22 (q0 rfl)) rfl rfl ?_
      refine xV (e_add (q0 rfl) (q0 rfl) (fun _ => ⟨rfl, by omega, by omega⟩)) rfl rfl ?_
      refine xV (e_ne (q0 rfl) (q0 rfl)) rfl rfl ?_
      refine XN ?_
      refine thenJ_normal ?_
      refine H_cond rfl (fun h3 => ?_) (fun h3 => ?_)
      · have h3' : u.z.length ≠ 64 + u.f.docks.length := by simp at h3; omega
        refine H_seq ?_
        refine R0 ?_
        refine xV (e_as (v := .int _ _) (q0 rfl)) rfl rfl ?_
        refine XN ?_
        refine thenJ_normal ?_
        refine H_ret ?_
        refine thenJ_ret ?_
        exact ret1 (v := .int _ _) rfl rfl rfl fun w' hw => ⟨ret_int (i3 h1' h2' h3').symm, hw.1⟩
      · have h3' : ¬u.z.length ≠ 64 + u.f.docks.length := by simp at h3; omega
        refine H_skip ?_
        refine thenJ_normal ?_
        refine H_seq ?_
        refine H_seq ?_
        refine R0 ?_
        refine xV (e_fld Tryz.underlying42 rfl Tryz.sizeOf3 rfl (q0 rfl)) rfl rfl ?_
        refine xV (eL Tryz.isAgg3 (q0 rfl)) rfl rfl ?_
        refine xC (en Tryz.call27 (ha3 (q0 rfl) (q0 rfl) (q0 rfl))) (fun _ w _ => sin_w u.size 1 8 w) rfl rfl ?_
        refine xV (e_not (q0 rfl)) rfl rfl ?_
        refine xV (e_mv (v := .bool _) (q0 rfl)) rfl rfl ?_
        refine xVF (e_fld Tryz.underlying42 rfl Tryz.sizeOf22 rfl (q0 rfl)) rfl rfl rfl rfl ?_
        refine xVF (eL Tryz.isAgg22 (q1 rfl)) rfl rfl rfl rfl ?_
        refine xVF e_fn rfl rfl rfl rfl ?_
        refine xCF (v := .bool (u.z.any (zBad u.size))) (en (al := [.slice z.A z.n z.c, .func (.func 29) #[] #[.pointer (some ⟨b1, 0, none⟩)]]) Tryz.call28 (ha2 (q1 (v := .slice _ _ _) rfl) (q1 rfl))) (fun hg w hw => conZ_w z.A z.n z.c u.z u.size b1 (suC u fa a e t d z ws) w (hu.Hz.mem hw) (fun j v hv => by rw [Nat.zero_add]; exact box_cell hw (k := 0) rfl hv) (hw.itemLt (k := 0) rfl rfl).2 rfl (by simp [inI] at hg; omega) (by simp [inI] at hg; omega)) rfl rfl rfl rfl ?_
        refine xV (e_or (q0 rfl) rfl (fun h => by first | rfl | (rw [h]; rfl))) rfl rfl ?_
        refine XN ?_
        refine thenJ_normal ?_
        refine H_cond rfl (fun h4 => ?_) (fun h4 => ?_)
        · have h4' : ((!inI u.size 1 8) || u.z.any (zBad u.size)) = true := h4
          refine H_seq ?_
          refine R0 ?_
          refine xV (e_as (v := .int _ _) (q0 rfl)) rfl rfl ?_
          refine XN ?_
          refine thenJ_normal ?_
          refine H_ret ?_
          refine thenJ_ret ?_
          exact ret1 (v := .int _ _) rfl rfl rfl fun w' hw => ⟨ret_int (i4 h1' h2' h3' h4').symm, hw.1⟩
        · have h4' : ¬((!inI u.size 1 8) || u.z.any (zBad u.size)) = true := by
            have h : ((!inI u.size 1 8) || u.z.any (zBad u.size)) = false := h4
            rw [h]; decide
          refine H_skip ?_
          refine thenJ_normal ?_
          refine H_seq ?_
          refine H_seq ?_
          refine R0 ?_
          refine xV (e_fld Tryz.underlying42 rfl Tryz.sizeOf37 rfl (q0 rfl)) rfl rfl ?_
          refine xV (eP Tryz.isAgg37 Tryz.sizeOf37 (q0 rfl)) rfl rfl ?_
          refine xC (en Tryz.call30 (ha1 (q0 rfl))) (fun _ w hw => noise_w ws u.ws w (hu.Hw.mem hw)) rfl rfl ?_
          refine xV (e_as (v := .int _ _) (q0 rfl)) rfl rfl ?_
          refine XN ?_
          refine thenJ_normal ?_
          refine H_seq ?_
          refine R0 ?_
          refine xV (e_mv (v := .int _ _) (q0 rfl)) rfl rfl ?_
          refine xV (e_ne (q0 rfl) (q0 rfl)) rfl rfl ?_
          refine XN ?_
          refine thenJ_normal ?_
          refine H_cond rfl (fun h5 => ?_) (fun h5 => ?_)
          · have h5' : nzErr u.ws ≠ 0 := by simpa using h5
            refine H_seq ?_
            refine R0 ?_
            refine xV (e_mv (v := .int _ _) (q0 rfl)) rfl rfl ?_
            refine xV (e_as (v := .int _ _) (q0 rfl)) rfl rfl ?_
            refine XN ?_
            refine thenJ_normal ?_
            refine H_ret ?_
            refine thenJ_ret ?_
            exact ret1 (v := .int _ _) rfl rfl rfl fun w' hw => ⟨ret_int (i5 h1' h2' h3' h4' h5').symm, hw.1⟩
          · have h5' : nzErr u.ws = 0 := by simpa using h5
            refine H_skip ?_
            refine thenJ_normal ?_
            refine H_seq ?_
            refine H_seq ?_
            refine R0 ?_
            refine xV (e_fld Tryz.underlying42 rfl Tryz.sizeOf3 rfl (q0 rfl)) rfl rfl ?_
            refine xV (eL Tryz.isAgg3 (q0 rfl)) rfl rfl ?_
            refine xC (en Tryz.call27 (ha3 (q0 rfl) (q0 rfl) (q0 rfl))) (fun _ w _ => sin_w u.each 1 256 w) rfl rfl ?_
            refine xV (e_not (q0 rfl)) rfl rfl ?_
            refine xV (e_mv (v := .bool _) (q0 rfl)) rfl rfl ?_
            refine xVF (e_fld Tryz.underlying42 rfl Tryz.sizeOf3 rfl (q0 rfl)) rfl rfl rfl rfl ?_
            refine xVF (eL Tryz.isAgg3 (q1 rfl)) rfl rfl rfl rfl ?_
            refine xCF (en Tryz.call27 (ha3 (q1 (v := .int _ _) rfl) (q0 rfl) (q0 rfl))) (fun _ w _ => sin_w u.budget 0 1000000 w) rfl rfl rfl rfl ?_
            refine xVF (e_not (q1 rfl)) rfl rfl rfl rfl ?_
            refine xV (e_or (q0 rfl) rfl (fun h => by first | rfl | (rw [h]; rfl))) rfl rfl ?_
            refine xV (e_mv (v := .bool _) (q0 rfl)) rfl rfl ?_
            refine xVF (e_fld Tryz.underlying42 rfl Tryz.sizeOf3 rfl (q0 rfl)) rfl rfl rfl rfl ?_
            refine xVF (eL Tryz.isAgg3 (q1 rfl)) rfl rfl rfl rfl ?_
            refine xCF (en Tryz.call27 (ha3 (q1 (v := .int _ _) rfl) (q0 rfl) (q0 rfl))) (fun _ w _ => sin_w u.least 1 1000000 w) rfl rfl rfl rfl ?_
            refine xVF (e_not (q1 rfl)) rfl rfl rfl rfl ?_
            refine xV (e_or (q0 rfl) rfl (fun h => by first | rfl | (rw [h]; rfl))) rfl rfl ?_
            refine xV (e_mv (v := .bool _) (q0 rfl)) rfl rfl ?_
            refine xVF (e_fld Tryz.underlying42 rfl Tryz.sizeOf3 rfl (q0 rfl)) rfl rfl rfl rfl ?_
            refine xVF (eL Tryz.isAgg3 (q1 rfl)) rfl rfl rfl rfl ?_
            refine xCF (en Tryz.call27 (ha3 (q1 (v := .int _ _) rfl) (q0 rfl) (q0 rfl))) (fun _ w _ => sin_w u.width 0 65536 w) rfl rfl rfl rfl ?_
            refine xVF (e_not (q1 rfl)) rfl rfl rfl rfl ?_
            refine xV (e_or (q0 rfl) rfl (fun h => by first | rfl | (rw [h]; rfl))) rfl rfl ?_
            refine XN ?_
            refine thenJ_normal ?_
            refine H_cond rfl (fun h6 => ?_) (fun h6 => ?_)
            · have h6' : lim u = true := h6
              refine H_seq ?_
              refine R0 ?_
              refine xV (e_as (v := .int _ _) (q0 rfl)) rfl rfl ?_
              refine XN ?_
              refine thenJ_normal ?_
              refine H_ret ?_
              refine thenJ_ret ?_
              exact ret1 (v := .int _ _) rfl rfl rfl fun w' hw => ⟨ret_int (i6 h1' h2' h3' h4' h5' h6').symm, hw.1⟩
            · have h6' : ¬lim u = true := by
                have h : lim u = false := h6
                rw [h]; decide
              refine H_skip ?_
              refine thenJ_normal ?_
              refine H_seq ?_
              refine R0 ?_
              refine xV (e_as (v := .int _ _) (q0 rfl)) rfl rfl ?_
              refine XN ?_
              refine thenJ_normal ?_
              refine H_ret ?_
              exact ret1 (v := .int _ _) rfl rfl rfl fun w' hw => ⟨ret_int (i7 h1' h2' h3' h4' h5' h6').symm, hw.1⟩
set_option maxRecDepth 20000 in
set_option maxHeartbeats 1000000 in
theorem rscheck_w (u : Su) (fa : FA) (a : PrA) (e t d z ws : Sl) (w : World) (hu : SuAt w u fa a e t d z ws) : Calls Tryz.prog 7 #[.agg (suC u fa a e t d z ws).toArray] w fun e w' => e = .returned (.int .i64 (suErr u)) ∧ Bel w w' := by
  obtain ⟨i1, i2, i3, i4, i5, i6, i7⟩ := su_if u
  have hlz := hu.Hz.1
  have hnz := hu.Hz.2.1
  have hld := hu.Hf.docks.1
  obtain ⟨zA, zn, zc⟩ := z
  have hz := hu.Hz
  simp only at hlz hnz hz
  refine H_enter Tryz.func7 rfl Tryz.ntmps7 rfl ?_
  refine H_seq ?_
  refine R0 ?_
  refine X_box (v := .agg _) rfl rfl fun b1 => ?_
  refine xV (e_as (v := .int _ _) (q0 rfl)) rfl rfl ?_
  refine XN ?_
  refine thenJ_normal ?_
  refine H_seq ?_
  refine H_seq ?_
  refine R0 ?_
  refine xV (e_fld Tryz.underlying42 rfl Tryz.sizeOf24 rfl (q0 rfl)) rfl rfl ?_
  refine xV (eP Tryz.isAgg24 Tryz.sizeOf24 (q0 rfl)) rfl rfl ?_
  refine xV (e_fld Tryz.underlying42 rfl Tryz.sizeOf28 rfl (q0 rfl)) rfl rfl ?_
  refine xV (eP Tryz.isAgg28 Tryz.sizeOf28 (q0 rfl)) rfl rfl ?_
  refine xC (en Tryz.call20 (ha2 (q0 rfl) (q0 rfl))) (fun _ w hw => rfcheck_w u.f fa u.p a w (hu.Hf.mem hw) (hu.Hp.mem hw)) rfl rfl ?_
  refine xV (e_as (v := .int _ _) (q0 rfl)) rfl rfl ?_
  refine XN ?_
  refine thenJ_normal ?_
  refine H_seq ?_
  refine R0 ?_
  refine xV (e_mv (v := .int _ _) (q0 rfl)) rfl rfl ?_
  refine xV (e_ne (q0 rfl) (q0 rfl)) rfl rfl ?_
  refine XN ?_
  refine thenJ_normal ?_
  refine H_cond rfl (fun h1 => ?_) (fun h1 => ?_)
  · have h1' : prErr u.f u.p ≠ 0 := by simpa using h1
    refine H_seq ?_
    refine R0 ?_
    refine xV (e_mv (v := .int _ _) (q0 rfl)) rfl rfl ?_
    refine xV (e_as (v := .int _ _) (q0 rfl)) rfl rfl ?_
    refine XN ?_
    refine thenJ_normal ?_
    refine H_ret ?_
    refine thenJ_ret ?_
    exact ret1 (v := .int _ _) rfl rfl rfl fun w' hw => ⟨ret_int (i1 h1').symm, hw.1⟩
  · have h1' : prErr u.f u.p = 0 := by simpa using h1
    have hfl : u.f.docks.length ≤ 32 := fl_docks (Classical.byContradiction fun hn => by unfold prErr at h1'; rw [if_pos hn] at h1'; exact hn h1')
    refine H_skip ?_
    refine thenJ_normal ?_
    refine H_seq ?_
    refine H_seq ?_
    refine R0 ?_
    refine xV (e_fld Tryz.underlying42 rfl Tryz.sizeOf35 rfl (q0 rfl)) rfl rfl ?_
    refine xV (eP Tryz.isAgg35 Tryz.sizeOf35 (q0 rfl)) rfl rfl ?_
    refine xC (en Tryz.call21 (ha1 (q0 rfl))) (fun _ w hw => rnight_w u.n u.es u.ts u.ds u.h e t d w (hu.He.mem hw) (hu.Ht.mem hw) (hu.Hd.mem hw)) rfl rfl ?_
    refine xV (e_as (v := .int _ _) (q0 rfl)) rfl rfl ?_
    refine XN ?_
    refine thenJ_normal ?_
    refine H_seq ?_
    refine R0 ?_
    refine xV (e_mv (v := .int _ _) (q0 rfl)) rfl rfl ?_
    refine xV (e_ne (q0 rfl) (q0 rfl)) rfl rfl ?_
    refine XN ?_
    refine thenJ_normal ?_
    refine H_cond rfl (fun h2 => ?_) (fun h2 => ?_)
    · have h2' : ngErr ⟨u.n, u.es, u.ts, u.ds, u.h⟩ ≠ 0 := by simpa using h2
      refine H_seq ?_
      refine R0 ?_
      refine xV (e_mv (v := .int _ _) (q0 rfl)) rfl rfl ?_
      refine xV (e_as (v := .int _ _) (q0 rfl)) rfl rfl ?_
      refine XN ?_
      refine thenJ_normal ?_
      refine H_ret ?_
      refine thenJ_ret ?_
      exact ret1 (v := .int _ _) rfl rfl rfl fun w' hw => ⟨ret_int (i2 h1' h2').symm, hw.1⟩
    · have h2' : ngErr ⟨u.n, u.es, u.ts, u.ds, u.h⟩ = 0 := by simpa using h2
      refine H_skip ?_
      refine thenJ_normal ?_
      refine H_seq ?_
      refine H_seq ?_
      refine R0 ?_
      refine xV (e_fld Tryz.underlying42 rfl Tryz.sizeOf22 rfl (q0 rfl)) rfl rfl ?_
      refine xV (eL Tryz.isAgg22 (q0 rfl)) rfl rfl ?_
      refine xV (e_len Tryz.underlying22 (q0 rfl)) rfl rfl ?_
      refine xV (e_fld Tryz.underlying42 rfl Tryz.sizeOf24 rfl (q0 rfl)) rfl rfl ?_
      refine xV (e_fld Tryz.underlying24 rfl Tryz.sizeOf22 rfl (q0 rfl)) rfl rfl ?_
      refine xV (eL Tryz.isAgg22 (q0 rfl)) rfl rfl ?_
      refine xV (e_len Tryz.underlying22 (q0 rfl)) rfl rfl ?_
      refine xV (e_add (q0 rfl) (q0 rfl) (fun _ => ⟨rfl, by omega, by omega⟩)) rfl rfl ?_
      refine xV (e_ne (q0 rfl) (q0 rfl)) rfl rfl ?_
      refine XN ?_
      refine thenJ_normal ?_
      refine H_cond rfl (fun h3 => ?_) (fun h3 => ?_)
      · have h3' : u.z.length ≠ 64 + u.f.docks.length := by simp at h3; omega
        refine H_seq ?_
        refine R0 ?_
        refine xV (e_as (v := .int _ _) (q0 rfl)) rfl rfl ?_
        refine XN ?_
        refine thenJ_normal ?_
        refine H_ret ?_
        refine thenJ_ret ?_
        exact ret1 (v := .int _ _) rfl rfl rfl fun w' hw => ⟨ret_int (i3 h1' h2' h3').symm, hw.1⟩
      · have h3' : ¬u.z.length ≠ 64 + u.f.docks.length := by simp at h3; omega
        refine H_skip ?_
        refine thenJ_normal ?_
        refine H_seq ?_
        refine H_seq ?_
        refine R0 ?_
        refine xV (e_fld Tryz.underlying42 rfl Tryz.sizeOf3 rfl (q0 rfl)) rfl rfl ?_
        refine xV (eL Tryz.isAgg3 (q0 rfl)) rfl rfl ?_
        refine xV (e_lt (q0 rfl) (q0 rfl)) rfl rfl ?_
        refine xV (e_mv (v := .bool _) (q0 rfl)) rfl rfl ?_
        refine xVF (e_fld Tryz.underlying42 rfl Tryz.sizeOf3 rfl (q0 rfl)) rfl rfl rfl rfl ?_
        refine xVF (eL Tryz.isAgg3 (q1 rfl)) rfl rfl rfl rfl ?_
        refine xVF (e_gt (q1 rfl) (q0 rfl)) rfl rfl rfl rfl ?_
        refine xV (e_or (q0 rfl) rfl (fun h => by first | rfl | (rw [h]; rfl))) rfl rfl ?_
        refine XN ?_
        refine thenJ_normal ?_
        refine H_cond rfl (fun h4 => ?_) (fun h4 => ?_)
        · have h : (decide (u.size < 1) || decide (8 < u.size)) = true := h4
          refine H_seq ?_
          refine R0 ?_
          refine xV (e_as (v := .int _ _) (q0 rfl)) rfl rfl ?_
          refine XN ?_
          refine thenJ_normal ?_
          refine H_ret ?_
          refine thenJ_ret ?_
          exact ret1 (v := .int _ _) rfl rfl rfl fun w' hw => ⟨ret_int (i4 h1' h2' h3' (by rw [inI_or, h]; rfl)).symm, hw.1⟩
        · have h : (decide (u.size < 1) || decide (8 < u.size)) = false := h4
          have hsz : (!inI u.size 1 8) = false := by rw [inI_or, h]
          refine H_skip ?_
          refine thenJ_normal ?_
          refine H_seq ?_
          refine H_seq ?_
          refine R0 ?_
          refine xV (e_as (v := .int _ _) (q0 rfl)) rfl rfl ?_
          refine XN ?_
          refine thenJ_normal ?_
          refine H_block ?_
          refine H_loop [2, 5, 38, 39, 40, 41, 42, 43, 44, 45, 46, 47, 48, 49, 50, 51, 52, 53, 54, 55, 56, 57, 58, 59, 60] (fun k : Nat => [(5, .int .i64 k)]) (fun _ => [box b1 42 (suC u fa a e t d ⟨zA, zn, zc⟩ ws)]) (fun k => k ≤ zn ∧ (u.z.take k).any (zBad u.size) = false) (fun k => zn - k) 0 ⟨rfl, trivial⟩ (fun w hw => hw) rfl ⟨Nat.zero_le _, rfl⟩ ?_
          rintro k g ⟨hk, hall⟩
          refine H_seq ?_
          refine H_seq ?_
          refine R0 ?_
          refine xV (e_mv (v := .int _ _) (q0 rfl)) rfl rfl ?_
          refine xV (e_fld Tryz.underlying42 rfl Tryz.sizeOf22 rfl (q0 rfl)) rfl rfl ?_
          refine xV (eL Tryz.isAgg22 (q0 rfl)) rfl rfl ?_
          refine xV (e_len Tryz.underlying22 (q0 rfl)) rfl rfl ?_
          refine xV (e_lt (q0 rfl) (q0 rfl)) rfl rfl ?_
          refine XN ?_
          refine thenJ_normal ?_
          refine H_cond rfl (fun hlt => ?_) (fun hlt => ?_)
          · have hlt' : k < zn := by simpa using hlt
            obtain ⟨b, off, x, rfl, hbl, hxk, hrx⟩ := hz.at_ hlt'
            refine H_skip ?_
            refine thenJ_normal ?_
            refine H_seq ?_
            refine H_block ?_
            refine H_seq ?_
            refine R1 rfl (by decide +kernel) ?_
            refine xV (e_fld Tryz.underlying42 rfl Tryz.sizeOf22 rfl (q0 rfl)) rfl rfl ?_
            refine xV (eL Tryz.isAgg22 (q0 rfl)) rfl rfl ?_
            refine xV (e_mv (v := .int _ _) (q0 rfl)) rfl rfl ?_
            refine xV (e_idx _ Tryz.underlying22 Tryz.sizeOf3 (q0 rfl) (q0 rfl) (fun _ => ⟨rfl, by omega⟩)) rfl rfl ?_
            refine xV (eL Tryz.isAgg3 (q0 rfl)) rfl rfl ?_
            refine xV (e_lt (q0 rfl) (q0 rfl)) rfl rfl ?_
            refine xV (e_mv (v := .bool _) (q0 rfl)) rfl rfl ?_
            refine xVF (e_fld Tryz.underlying42 rfl Tryz.sizeOf22 rfl (q0 rfl)) rfl rfl rfl rfl ?_
            refine xVF (eL Tryz.isAgg22 (q1 rfl)) rfl rfl rfl rfl ?_
            refine xVF (e_mv (v := .int _ _) (q0 rfl)) rfl rfl rfl rfl ?_
            refine xVF (e_idx _ Tryz.underlying22 Tryz.sizeOf3 (q1 rfl) (q1 rfl) (fun _ => ⟨rfl, by omega⟩)) rfl rfl rfl rfl ?_
            refine xVF (eL Tryz.isAgg3 (q1 rfl)) rfl rfl rfl rfl ?_
            refine xVF (e_fld Tryz.underlying42 rfl Tryz.sizeOf3 rfl (q0 rfl)) rfl rfl rfl rfl ?_
            refine xVF (eL Tryz.isAgg3 (q1 rfl)) rfl rfl rfl rfl ?_
            refine xVF (e_ge (q1 rfl) (q1 rfl)) rfl rfl rfl rfl ?_
            refine xV (e_or (q0 rfl) rfl (fun h => by first | rfl | (rw [h]; rfl))) rfl rfl ?_
            refine XN ?_
            refine thenJ_normal ?_
            refine H_cond rfl (fun hb => ?_) (fun hb => ?_)
            · have hb' : zBad u.size x = true := by rw [zBad_or]; exact hb
              refine H_seq ?_
              refine R0 ?_
              refine xV (e_as (v := .int _ _) (q0 rfl)) rfl rfl ?_
              refine XN ?_
              refine thenJ_normal ?_
              refine H_ret ?_
              refine blockJ_ret ?_
              refine thenJ_ret ?_
              refine loopJ_ret ?_
              refine blockJ_ret ?_
              refine thenJ_ret ?_
              exact ret1 (v := .int _ _) rfl rfl rfl fun w' hw => ⟨ret_int (by rw [i4 h1' h2' h3' (by rw [List.any_eq_true.2 ⟨x, List.mem_of_getElem? hxk, hb'⟩]; simp)]), hw.1⟩
            · have hb' : zBad u.size x = false := by rw [zBad_or]; exact hb
              refine H_skip ?_
              refine blockJ_normal ?_
              refine thenJ_normal ?_
              refine R0 ?_
              refine xV (e_mv (v := .int _ _) (q0 rfl)) rfl rfl ?_
              refine xV (e_add (q0 rfl) (q0 rfl) (fun _ => ⟨rfl, by omega, by omega⟩)) rfl rfl ?_
              refine xV (e_as (v := .int _ _) (q0 rfl)) rfl rfl ?_
              refine XN ?_
              exact loopJ_normal (k + 1) (by repeat (first | exact agree_self | exact agree_over | refine agree_upd rfl ?_ | refine agree_updL rfl ?_ | refine agree_over2 rfl ?_)) ⟨rfl, trivial⟩ (fun w hw => hw) rfl ⟨by omega, by rw [snocT _ _ _ hxk, List.any_append, hall]; simp [hb']⟩ (by show zn - (k + 1) < zn - k; omega)
          · have hend : k = zn := by simp at hlt; omega
            rw [hend, List.take_of_length_le (by omega)] at hall
            have h4' : ¬((!inI u.size 1 8) || u.z.any (zBad u.size)) = true := by rw [hsz, hall]; decide
            refine H_exit ?_
            refine thenJ_exit ?_
            refine loopJ_exit ?_
            refine blockJ_hit ?_
            refine thenJ_normal ?_
            refine H_seq ?_
            refine H_seq ?_
            refine R0 ?_
            refine xV (e_fld Tryz.underlying42 rfl Tryz.sizeOf37 rfl (q0 rfl)) rfl rfl ?_
            refine xV (eP Tryz.isAgg37 Tryz.sizeOf37 (q0 rfl)) rfl rfl ?_
            refine xC (en Tryz.call22 (ha1 (q0 rfl))) (fun _ w hw => rnoise_w ws u.ws w (hu.Hw.mem hw)) rfl rfl ?_
            refine xV (e_as (v := .int _ _) (q0 rfl)) rfl rfl ?_
            refine XN ?_
            refine thenJ_normal ?_
            refine H_seq ?_
            refine R0 ?_
            refine xV (e_mv (v := .int _ _) (q0 rfl)) rfl rfl ?_
            refine xV (e_ne (q0 rfl) (q0 rfl)) rfl rfl ?_
            refine XN ?_
            refine thenJ_normal ?_
            refine H_cond rfl (fun h5 => ?_) (fun h5 => ?_)
            · have h5' : nzErr u.ws ≠ 0 := by simpa using h5
              refine H_seq ?_
              refine R0 ?_
              refine xV (e_mv (v := .int _ _) (q0 rfl)) rfl rfl ?_
              refine xV (e_as (v := .int _ _) (q0 rfl)) rfl rfl ?_
              refine XN ?_
              refine thenJ_normal ?_
              refine H_ret ?_
              refine thenJ_ret ?_
              exact ret1 (v := .int _ _) rfl rfl rfl fun w' hw => ⟨ret_int (i5 h1' h2' h3' h4' h5').symm, hw.1⟩
            · have h5' : nzErr u.ws = 0 := by simpa using h5
              refine H_skip ?_
              refine thenJ_normal ?_
              refine H_seq ?_
              refine H_seq ?_
              refine R0 ?_
              refine xV (e_fld Tryz.underlying42 rfl Tryz.sizeOf3 rfl (q0 rfl)) rfl rfl ?_
              refine xV (eL Tryz.isAgg3 (q0 rfl)) rfl rfl ?_
              refine xV (e_lt (q0 rfl) (q0 rfl)) rfl rfl ?_
              refine xV (e_mv (v := .bool _) (q0 rfl)) rfl rfl ?_
              refine xVF (e_fld Tryz.underlying42 rfl Tryz.sizeOf3 rfl (q0 rfl)) rfl rfl rfl rfl ?_
              refine xVF (eL Tryz.isAgg3 (q1 rfl)) rfl rfl rfl rfl ?_
              refine xVF (e_gt (q1 rfl) (q0 rfl)) rfl rfl rfl rfl ?_
              refine xV (e_or (q0 rfl) rfl (fun h => by first | rfl | (rw [h]; rfl))) rfl rfl ?_
              refine xV (e_mv (v := .bool _) (q0 rfl)) rfl rfl ?_
              refine xVF (e_fld Tryz.underlying42 rfl Tryz.sizeOf3 rfl (q0 rfl)) rfl rfl rfl rfl ?_
              refine xVF (eL Tryz.isAgg3 (q1 rfl)) rfl rfl rfl rfl ?_
              refine xVF (e_lt (q1 rfl) (q0 rfl)) rfl rfl rfl rfl ?_
              refine xV (e_or (q0 rfl) rfl (fun h => by first | rfl | (rw [h]; rfl))) rfl rfl ?_
              refine xV (e_mv (v := .bool _) (q0 rfl)) rfl rfl ?_
              refine xVF (e_fld Tryz.underlying42 rfl Tryz.sizeOf3 rfl (q0 rfl)) rfl rfl rfl rfl ?_
              refine xVF (eL Tryz.isAgg3 (q1 rfl)) rfl rfl rfl rfl ?_
              refine xVF (e_gt (q1 rfl) (q0 rfl)) rfl rfl rfl rfl ?_
              refine xV (e_or (q0 rfl) rfl (fun h => by first | rfl | (rw [h]; rfl))) rfl rfl ?_
              refine xV (e_mv (v := .bool _) (q0 rfl)) rfl rfl ?_
              refine xVF (e_fld Tryz.underlying42 rfl Tryz.sizeOf3 rfl (q0 rfl)) rfl rfl rfl rfl ?_
              refine xVF (eL Tryz.isAgg3 (q1 rfl)) rfl rfl rfl rfl ?_
              refine xVF (e_lt (q1 rfl) (q0 rfl)) rfl rfl rfl rfl ?_
              refine xV (e_or (q0 rfl) rfl (fun h => by first | rfl | (rw [h]; rfl))) rfl rfl ?_
              refine xV (e_mv (v := .bool _) (q0 rfl)) rfl rfl ?_
              refine xVF (e_fld Tryz.underlying42 rfl Tryz.sizeOf3 rfl (q0 rfl)) rfl rfl rfl rfl ?_
              refine xVF (eL Tryz.isAgg3 (q1 rfl)) rfl rfl rfl rfl ?_
              refine xVF (e_gt (q1 rfl) (q0 rfl)) rfl rfl rfl rfl ?_
              refine xV (e_or (q0 rfl) rfl (fun h => by first | rfl | (rw [h]; rfl))) rfl rfl ?_
              refine xV (e_mv (v := .bool _) (q0 rfl)) rfl rfl ?_
              refine xVF (e_fld Tryz.underlying42 rfl Tryz.sizeOf3 rfl (q0 rfl)) rfl rfl rfl rfl ?_
              refine xVF (eL Tryz.isAgg3 (q1 rfl)) rfl rfl rfl rfl ?_
              refine xVF (e_lt (q1 rfl) (q0 rfl)) rfl rfl rfl rfl ?_
              refine xV (e_or (q0 rfl) rfl (fun h => by first | rfl | (rw [h]; rfl))) rfl rfl ?_
              refine xV (e_mv (v := .bool _) (q0 rfl)) rfl rfl ?_
              refine xVF (e_fld Tryz.underlying42 rfl Tryz.sizeOf3 rfl (q0 rfl)) rfl rfl rfl rfl ?_
              refine xVF (eL Tryz.isAgg3 (q1 rfl)) rfl rfl rfl rfl ?_
              refine xVF (e_gt (q1 rfl) (q0 rfl)) rfl rfl rfl rfl ?_
              refine xV (e_or (q0 rfl) rfl (fun h => by first | rfl | (rw [h]; rfl))) rfl rfl ?_
              refine XN ?_
              refine thenJ_normal ?_
              refine H_cond rfl (fun h6 => ?_) (fun h6 => ?_)
              · have h6' : lim u = true := by rw [lim_or]; exact h6
                refine H_seq ?_
                refine R0 ?_
                refine xV (e_as (v := .int _ _) (q0 rfl)) rfl rfl ?_
                refine XN ?_
                refine thenJ_normal ?_
                refine H_ret ?_
                refine thenJ_ret ?_
                exact ret1 (v := .int _ _) rfl rfl rfl fun w' hw => ⟨ret_int (i6 h1' h2' h3' h4' h5' h6').symm, hw.1⟩
              · have h6' : ¬lim u = true := by
                  have h : lim u = false := by rw [lim_or]; exact h6
                  rw [h]; decide
                refine H_skip ?_
                refine thenJ_normal ?_
                refine H_seq ?_
                refine R0 ?_
                refine xV (e_as (v := .int _ _) (q0 rfl)) rfl rfl ?_
                refine XN ?_
                refine thenJ_normal ?_
                refine H_ret ?_
                exact ret1 (v := .int _ _) rfl rfl rfl fun w' hw => ⟨ret_int (i7 h1' h2' h3' h4' h5' h6').symm, hw.1⟩
end Go.Proofs.Sys
