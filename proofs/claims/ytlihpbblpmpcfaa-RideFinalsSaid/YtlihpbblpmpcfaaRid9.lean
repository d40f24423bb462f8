import Derived.Test.YtlihpbblpmpcfaaRid1
import Derived.Test.YtlihpbblpmpcfaaRid2
import Derived.Test.YtlihpbblpmpcfaaRid7
import Derived.Test.YtlihpbblpmpcfaaRid8
import Derived.Test.YtlihpbblpmpcfaaRid4
set_option linter.unusedVariables false
set_option linter.unusedSimpArgs false
/-
  Plain facts: rotations, and the merge of two sorted parts in place.
-/
namespace Go.Proofs.Rid

section
variable {α : Type} {xs ys zs ws : List α} {a b m s e i j n : Nat}
/-- the part from a to b was moved about, and nothing else -/
structure Seg (xs ys : List α) (a b : Nat) : Prop where
  perm : ys.Perm xs
  out : ∀ p, p < a ∨ b ≤ p → ys[p]? = xs[p]?
  mem : ∀ p y, a ≤ p → p < b → ys[p]? = some y → ∃ q, a ≤ q ∧ q < b ∧ xs[q]? = some y
theorem Seg.refl (xs : List α) (a b : Nat) : Seg xs xs a b := ⟨List.Perm.refl _, fun _ _ => rfl, fun p y h1 h2 h3 => ⟨p, h1, h2, h3⟩⟩
theorem Seg.trans (h : Seg xs ys a b) (k : Seg ys zs a b) : Seg xs zs a b :=
  ⟨k.perm.trans h.perm, fun p hp => (k.out p hp).trans (h.out p hp), fun p y h1 h2 h3 => by
    obtain ⟨q, q1, q2, q3⟩ := k.mem p y h1 h2 h3
    exact h.mem q y q1 q2 q3⟩
theorem Seg.mono (h : Seg xs ys i j) (h1 : a ≤ i) (h2 : j ≤ b) : Seg xs ys a b :=
  ⟨h.perm, fun p hp => h.out p (by omega), fun p y h3 h4 h5 => by
    by_cases hp : i ≤ p ∧ p < j
    · obtain ⟨q, q1, q2, q3⟩ := h.mem p y hp.1 hp.2 h5
      exact ⟨q, by omega, by omega, q3⟩
    · rw [h.out p (by omega)] at h5
      exact ⟨p, h3, h4, h5⟩⟩
theorem Seg.len (h : Seg xs ys a b) : ys.length = xs.length := h.perm.length_eq
theorem two_get {x y : α} (hij : i ≠ j) (hx : xs[i]? = some x) (hy : xs[j]? = some y) (p : Nat) : ((xs.set i y).set j x)[p]? = if p = j then some x else if p = i then some y else xs[p]? := by
  have h1 := (List.getElem?_eq_some_iff.1 hx).1
  have h2 := (List.getElem?_eq_some_iff.1 hy).1
  rw [List.getElem?_set]
  by_cases e : j = p
  · rw [if_pos e, if_pos (by simp; omega), if_pos e.symm]
  · rw [if_neg e, if_neg (fun h => e h.symm), List.getElem?_set]
    by_cases e2 : i = p
    · rw [if_pos e2, if_pos (by omega), if_pos e2.symm]
    · rw [if_neg e2, if_neg (fun h => e2 h.symm)]
theorem Seg.two {x y : α} (hij : i ≠ j) (hx : xs[i]? = some x) (hy : xs[j]? = some y) (hi : a ≤ i ∧ i < b) (hj : a ≤ j ∧ j < b) : Seg xs ((xs.set i y).set j x) a b := by
  have hg := two_get hij hx hy
  refine ⟨?_, fun p hp => by rw [hg, if_neg (by omega), if_neg (by omega)], fun p z h1 h2 h3 => ?_⟩
  · obtain ⟨h1, e1⟩ := List.getElem?_eq_some_iff.1 hx
    obtain ⟨h2, e2⟩ := List.getElem?_eq_some_iff.1 hy
    have := List.set_set_perm h1 h2
    rw [e1, e2] at this
    exact this
  · rw [hg] at h3
    split at h3
    · cases h3; exact ⟨i, hi.1, hi.2, hx⟩
    · split at h3
      · cases h3; exact ⟨j, hj.1, hj.2, hy⟩
      · exact ⟨p, h1, h2, h3⟩

/-! two parts change places -/
def SwR (xs ys : List α) (a b n : Nat) : Prop := ∀ p : Nat, ys[p]? = if a ≤ p ∧ p < a + n then xs[p + (b - a)]? else if b ≤ p ∧ p < b + n then xs[p - (b - a)]? else xs[p]?
theorem SwR.zero {xs : List α} {a b : Nat} : SwR xs xs a b 0 := fun p => by rw [if_neg (by omega), if_neg (by omega)]
theorem SwR.step {x y : α} (h : SwR xs ys a b n) (hab : a + n < b) (hx : ys[a + n]? = some x) (hy : ys[b + n]? = some y) : SwR xs ((ys.set (a + n) y).set (b + n) x) a b (n + 1) := fun p => by
  rw [two_get (by omega) hx hy]
  have hxa := h (a + n)
  rw [if_neg (by omega), if_neg (by omega), hx] at hxa
  have hyb := h (b + n)
  rw [if_neg (by omega), if_neg (by omega), hy] at hyb
  by_cases h1 : p = b + n
  · rw [if_pos h1, if_neg (by omega), if_pos (by omega), hxa]
    congr 1; omega
  · rw [if_neg h1]
    by_cases h2 : p = a + n
    · rw [if_pos h2, if_pos (by omega), hyb]
      congr 1; omega
    · rw [if_neg h2, h p]
      by_cases h3 : a ≤ p ∧ p < a + n
      · rw [if_pos h3, if_pos (by omega)]
      · rw [if_neg h3, if_neg (by omega : ¬ (a ≤ p ∧ p < a + (n + 1)))]
        by_cases h4 : b ≤ p ∧ p < b + n
        · rw [if_pos h4, if_pos (by omega)]
        · rw [if_neg h4, if_neg (by omega)]

/-! a rotation: what lies from s to m goes behind what lies from m to e -/
def Rot (xs ys : List α) (s m e : Nat) : Prop := ∀ p : Nat, ys[p]? = if s ≤ p ∧ p < s + (e - m) then xs[p + (m - s)]? else if s + (e - m) ≤ p ∧ p < e then xs[p - (e - m)]? else xs[p]?
theorem Rot.triv (hs : s ≤ m) (he : m ≤ e) (h : s = m ∨ e = m) : Rot xs xs s m e := fun p => by
  by_cases h1 : s ≤ p ∧ p < s + (e - m)
  · rw [if_pos h1]; congr 1; omega
  · rw [if_neg h1]
    by_cases h2 : s + (e - m) ≤ p ∧ p < e
    · rw [if_pos h2]; congr 1; omega
    · rw [if_neg h2]
theorem Rot.of_sw (h : SwR xs ys (m - i) m i) (hi : i ≤ m) : Rot xs ys (m - i) m (m + i) := fun p => by
  rw [h p]
  by_cases h1 : m - i ≤ p ∧ p < m - i + i
  · rw [if_pos h1, if_pos (by omega)]
  · rw [if_neg h1, if_neg (by omega : ¬ (m - i ≤ p ∧ p < m - i + (m + i - m)))]
    by_cases h2 : m ≤ p ∧ p < m + i
    · rw [if_pos h2, if_pos (by omega)]; congr 1; omega
    · rw [if_neg h2, if_neg (by omega)]
theorem Rot.left (h : SwR xs ys (m - i) m j) (hi : i ≤ m) (hj : j < i) (k : Rot ys ws (m - (i - j)) m (m + j)) : Rot xs ws (m - i) m (m + j) := fun p => by
  rw [k p]
  by_cases h1 : m - i ≤ p ∧ p < m - i + (m + j - m)
  · rw [if_neg (by omega), if_neg (by omega), h p, if_pos (by omega), if_pos h1]
  · rw [if_neg h1]
    by_cases h2 : m - (i - j) ≤ p ∧ p < m - (i - j) + (m + j - m)
    · rw [if_pos h2, if_pos (by omega), h, if_neg (by omega), if_pos (by omega)]; congr 1; omega
    · rw [if_neg h2]
      by_cases h3 : m - (i - j) + (m + j - m) ≤ p ∧ p < m + j
      · rw [if_pos h3, if_pos (by omega), h, if_neg (by omega), if_neg (by omega)]
      · rw [if_neg h3, if_neg (by omega), h, if_neg (by omega), if_neg (by omega)]
theorem Rot.right (h : SwR xs ys (m - i) (m + j - i) i) (hi : i ≤ m) (hj : i < j) (k : Rot ys ws (m - i) m (m + (j - i))) : Rot xs ws (m - i) m (m + j) := fun p => by
  rw [k p]
  by_cases h1 : m - i ≤ p ∧ p < m - i + (m + j - m)
  · rw [if_pos h1]
    by_cases h2 : m - i ≤ p ∧ p < m - i + (m + (j - i) - m)
    · rw [if_pos h2, h, if_neg (by omega), if_neg (by omega)]
    · rw [if_neg h2, if_pos (by omega), h, if_pos (by omega)]; congr 1; omega
  · rw [if_neg h1, if_neg (by omega)]
    by_cases h3 : m - i + (m + j - m) ≤ p ∧ p < m + j
    · rw [if_pos h3, if_neg (by omega), h, if_neg (by omega), if_pos (by omega)]; congr 1; omega
    · rw [if_neg h3, if_neg (by omega), h, if_neg (by omega), if_neg (by omega)]

/-! the merge -/
variable {key : α → Int}
def Asc (key : α → Int) (xs : List α) (a b : Nat) : Prop := ∀ (p q : Nat) x y, a ≤ p → p ≤ q → q < b → xs[p]? = some x → xs[q]? = some y → key x ≤ key y
theorem Asc.sub (h : Asc key xs a b) (h1 : a ≤ i) (h2 : j ≤ b) : Asc key xs i j := fun p q x y p1 p2 p3 => h p q x y (by omega) p2 (by omega)
/-- each of the first part is at most each of the second -/
def Low (key : α → Int) (xs : List α) (a s e b : Nat) : Prop := ∀ (p q : Nat) x y, a ≤ p → p < s → e ≤ q → q < b → xs[p]? = some x → xs[q]? = some y → key x ≤ key y
theorem rot_parts (h : Rot xs ys s m e) (hA : Asc key xs a m) (hB : Asc key xs m b) (h1 : a ≤ s) (h2 : s ≤ m) (h3 : m ≤ e) (h4 : e ≤ b)
    (hBA : ∀ (p q : Nat) x y, m ≤ q → q < e → s ≤ p → p < m → xs[q]? = some y → xs[p]? = some x → key y ≤ key x) (hAB : ∀ (p q : Nat) x y, a ≤ p → p < s → e ≤ q → q < b → xs[p]? = some x → xs[q]? = some y → key x ≤ key y) :
    Asc key ys a s ∧ Asc key ys s (s + (e - m)) ∧ Asc key ys (s + (e - m)) e ∧ Asc key ys e b ∧ Low key ys a (s + (e - m)) (s + (e - m)) b := by
  have g1 : ∀ p, p < s → ys[p]? = xs[p]? := fun p hp => by rw [h p, if_neg (by omega), if_neg (by omega)]
  have g2 : ∀ p, s ≤ p → p < s + (e - m) → ys[p]? = xs[p + (m - s)]? := fun p hp hq => by rw [h p, if_pos (by omega)]
  have g3 : ∀ p, s + (e - m) ≤ p → p < e → ys[p]? = xs[p - (e - m)]? := fun p hp hq => by rw [h p, if_neg (by omega), if_pos (by omega)]
  have g4 : ∀ p, e ≤ p → ys[p]? = xs[p]? := fun p hp => by rw [h p, if_neg (by omega), if_neg (by omega)]
  refine ⟨fun p q x y p1 p2 p3 hx hy => ?_, fun p q x y p1 p2 p3 hx hy => ?_, fun p q x y p1 p2 p3 hx hy => ?_, fun p q x y p1 p2 p3 hx hy => ?_, fun p q x y p1 p2 p3 p4 hx hy => ?_⟩
  · rw [g1 p (by omega)] at hx; rw [g1 q (by omega)] at hy
    exact hA p q x y p1 p2 (by omega) hx hy
  · rw [g2 p (by omega) (by omega)] at hx; rw [g2 q (by omega) (by omega)] at hy
    exact hB _ _ x y (by omega) (by omega) (by omega) hx hy
  · rw [g3 p (by omega) (by omega)] at hx; rw [g3 q (by omega) (by omega)] at hy
    exact hA _ _ x y (by omega) (by omega) (by omega) hx hy
  · rw [g4 p (by omega)] at hx; rw [g4 q (by omega)] at hy
    exact hB p q x y (by omega) p2 p3 hx hy
  · by_cases c1 : p < s
    · rw [g1 p c1] at hx
      by_cases c2 : q < e
      · rw [g3 q p3 c2] at hy
        exact hA _ _ x y p1 (by omega) (by omega) hx hy
      · rw [g4 q (by omega)] at hy
        exact hAB p q x y p1 c1 (by omega) p4 hx hy
    · rw [g2 p (by omega) p2] at hx
      by_cases c2 : q < e
      · rw [g3 q p3 c2] at hy
        exact hBA _ _ y x (by omega) (by omega) (by omega) (by omega) hx hy
      · rw [g4 q (by omega)] at hy
        exact hB _ _ x y (by omega) (by omega) p4 hx hy
/-- the two sides are merged -/
theorem sides {c : Nat} (hL : Seg ys zs a c) (hLs : Asc key zs a c) (hR : Seg zs ws c b) (hRs : Asc key ws c b) (hlow : Low key ys a c c b) (h1 : a ≤ c) (h2 : c ≤ b) : Asc key ws a b := fun p q x y p1 p2 p3 hx hy => by
  by_cases c1 : q < c
  · rw [hR.out p (by omega)] at hx; rw [hR.out q (by omega)] at hy
    exact hLs p q x y p1 p2 c1 hx hy
  · by_cases c2 : p < c
    · rw [hR.out p (by omega)] at hx
      obtain ⟨p', u1, u2, u3⟩ := hL.mem p x p1 c2 hx
      obtain ⟨q', v1, v2, v3⟩ := hR.mem q y (by omega) p3 hy
      rw [hL.out q' (by omega)] at v3
      exact hlow p' q' x y u1 u2 v1 v2 u3 v3
    · exact hRs p q x y (by omega) p2 p3 hx hy
/-- what symMerge does -/
structure Merged (key : α → Int) (xs ys : List α) (a b : Nat) : Prop where
  seg : Seg xs ys a b
  asc : Asc key ys a b
end

end Go.Proofs.Rid

/-
  The walks: rides change places, a rotation.
-/
namespace Go.Proofs.Rid
open Go Go.RowKit Go.Proofs.E Go.Proofs.Cus

theorem e_cvtU {c : Cx} {w0 : World} {L : List E.Item} {f : Fr} {ty src dst : TypeId} {g : Bool} {x : Operand} {k q : IntKind} {m : Int} (hs : c.P.underlying src = some (.int k)) (hd : c.P.underlying dst = some (.int .u64)) (hx : OpV g f x (.int q m)) (hm : g = true → 0 ≤ m ∧ m ≤ 9223372036854775807) : EvG g c w0 L f (.convert src dst x) ty (.int .u64 m) := fun e _ _ _ _ w _ => by
  have h1 : IntKind.u64.wrap m = m := IntWalk.u64_in _ (by have := hm e; omega)
  simp [execOp, hx e, convert, run_underlying hs, run_underlying hd, Conv.intToInt, h1, Result.andThen]
theorem e_shr1 {c : Cx} {w0 : World} {L : List E.Item} {f : Fr} {ty t t2 : TypeId} {g : Bool} {x y : Operand} {q : IntKind} {m r : Int} (hx : OpV g f x (.int .u64 m)) (hy : OpV g f y (.int q 1)) (hr : g = true → r = m / 2) : EvG g c w0 L f (.binOp .shr t x y t2) ty (.int .u64 r) := fun e _ _ _ _ w _ => by
  have h1 := shift_shr .u64 q m 1 (by decide) (by decide)
  rw [hr e]
  simp [execOp, hx e, hy e, eqGuard, binOp, h1]
abbrev kx (x : RX) : Int := x.r.id
section
variable {w0 w : World} {L : List E.Item}
set_option maxHeartbeats 1000000 in
set_option maxRecDepth 20000 in
theorem swr_w {A : Option Addr} {c n : Nat} {xs : List RX} (a b k : Nat) (hw : Mem w0 (rdRow A c xs :: L) w) (hmk : marks L = []) (hn : xs.length = n) (h1 : a + k ≤ b) (h2 : b + k ≤ n) (hl : n ≤ 100000) :
    Calls Try.prog 100 #[.slice A n c, .int .i64 a, .int .i64 b, .int .i64 k, .func (.func 43) #[] #[]] w fun e w' => ∃ ys : { ys : List RX // SwR xs ys a b k ∧ Seg xs ys a (b + k) }, e = .returned (.tuple #[]) ∧ Mem w0 (rdRow A c ys.1 :: L) w' := by
  refine H_enterM hw hmk Try.func100 rfl Try.ntmps100 rfl ?_
  refine H_seq ?_
  refine R0 ?_
  refine xV (e_as (v := .int _ _) (q0 rfl)) rfl rfl ?_
  refine XN ?_
  refine thenJ_normal ?_
  refine H_block ?_
  refine H_loop [10, 11, 12, 13, 14, 15, 16, 17, 18, 19, 20, 21, 22, 23, 24, 25, 26, 27, 28, 29, 30, 31, 32, 33, 34, 35, 36, 37] (fun q : Nat × List RX => [(10, .int .i64 q.1)]) (fun q => rdRow A c q.2 :: L) (fun q => q.1 ≤ k ∧ SwR xs q.2 a b q.1 ∧ Seg xs q.2 a (b + k)) (fun q => k - q.1) (0, xs) ⟨rfl, trivial⟩ (fun w hw => hw) rfl ⟨Nat.zero_le _, SwR.zero, Seg.refl _ _ _⟩ ?_
  rintro ⟨i, zs⟩ g ⟨hi, hS, hG⟩
  simp only at hi hS hG
  have hzl : zs.length = n := by rw [hG.len, hn]
  refine H_seq ?_
  refine H_seq ?_
  refine R0 ?_
  refine xV (e_mv (v := .int _ _) (q0 rfl)) rfl rfl ?_
  refine xV (e_mv (v := .int _ _) (q0 rfl)) rfl rfl ?_
  refine xV (e_lt (q0 rfl) (q0 rfl)) rfl rfl ?_
  refine XN ?_
  refine thenJ_normal ?_
  refine H_cond rfl (fun hlt => ?_) (fun hlt => ?_)
  · have hlt' : i < k := by simpa using hlt
    obtain ⟨x, hx⟩ : ∃ x, zs[a + i]? = some x := ⟨_, List.getElem?_eq_getElem (by omega)⟩
    obtain ⟨y, hy⟩ : ∃ y, zs[b + i]? = some y := ⟨_, List.getElem?_eq_getElem (by omega)⟩
    have hx2 : (zs.set (b + i) x)[a + i]? = some x := by rw [List.getElem?_set_ne (by omega)]; exact hx
    have hy2 : (zs.set (a + i) y)[b + i]? = some y := by rw [List.getElem?_set_ne (by omega)]; exact hy
    refine H_know (fun w hw => rowT_at (j := 0) hw rfl (by simp only; omega)) fun ⟨rb, hrb⟩ => ?_
    subst hrb
    refine H_skip ?_
    refine thenJ_normal ?_
    refine H_seq ?_
    refine H_block ?_
    refine H_cut [16, 17, 18, 19, 20, 21, 22, 23, 24, 25, 26, 27, 28, 29, 30, 31, 32, 33, 34, 35, 36, 37] (fun _ : Unit => []) (fun _ => rdRow (some ⟨rb, 0, none⟩) c ((zs.set (a + i) y).set (b + i) x) :: L) (fun _ => True) ?_ ?_
    · refine RAd 1 rfl (by decide +kernel) ?_
      refine aV 0 (by decide +kernel) rfl (e_mv (v := .slice _ _ _) (q0 rfl)) rfl ?_
      refine aV 1 (by decide +kernel) rfl (e_mv (v := .int _ _) (q0 rfl)) rfl ?_
      refine aV 2 (by decide +kernel) rfl (e_mv (v := .int _ _) (q0 rfl)) rfl ?_
      refine aV 3 (by decide +kernel) rfl (e_add (q0 rfl) (q0 rfl) (fun _ => ⟨rfl, by omega, by omega⟩)) rfl ?_
      refine aV 4 (by decide +kernel) rfl (e_mv (v := .slice _ _ _) (q0 rfl)) rfl ?_
      refine aV 5 (by decide +kernel) rfl (e_mv (v := .int _ _) (q0 rfl)) rfl ?_
      refine aV 6 (by decide +kernel) rfl (e_mv (v := .int _ _) (q0 rfl)) rfl ?_
      refine aV 7 (by decide +kernel) rfl (e_add (q0 rfl) (q0 rfl) (fun _ => ⟨rfl, by omega, by omega⟩)) rfl ?_
      refine aV 8 (by decide +kernel) rfl (e_mv (v := .slice _ _ _) (q0 rfl)) rfl ?_
      refine aV 9 (by decide +kernel) rfl (e_mv (v := .int _ _) (q0 rfl)) rfl ?_
      refine aV 10 (by decide +kernel) rfl (e_mv (v := .int _ _) (q0 rfl)) rfl ?_
      refine aV 11 (by decide +kernel) rfl (e_add (q0 rfl) (q0 rfl) (fun _ => ⟨rfl, by omega, by omega⟩)) rfl ?_
      refine aV 12 (by decide +kernel) rfl (e_idx (b + i) Try.underlying32 Try.sizeOf27 (q0 rfl) (q0 rfl) (fun _ => ⟨by omega, by omega⟩)) rfl ?_
      refine aV 14 (by decide +kernel) rfl (e_mv (v := .slice _ _ _) (q0 rfl)) rfl ?_
      refine aV 15 (by decide +kernel) rfl (e_mv (v := .int _ _) (q0 rfl)) rfl ?_
      refine aV 16 (by decide +kernel) rfl (e_mv (v := .int _ _) (q0 rfl)) rfl ?_
      refine aV 17 (by decide +kernel) rfl (e_add (q0 rfl) (q0 rfl) (fun _ => ⟨rfl, by omega, by omega⟩)) rfl ?_
      refine aV 18 (by decide +kernel) rfl (e_idx (a + i) Try.underlying32 Try.sizeOf27 (q0 rfl) (q0 rfl) (fun _ => ⟨by omega, by omega⟩)) rfl ?_
      refine rdy2 (i := 13) (j := 19) (by decide +kernel) (sub_drop 1) ?_ ?_
      · refine aL rfl (f_ev (e_lds (vs := y.cells) Try.isAgg27 Try.sizeOf27 (q0 rfl) (rrs 0 rfl hy) rfl) rfl rfl ?_)
        refine rdy1 (i := 19) (by decide +kernel) (sub_drop 1) ?_
        refine aL rfl (f_ev (e_lds (vs := x.cells) Try.isAgg27 Try.sizeOf27 (q0 rfl) (rrs 0 rfl hx) rfl) rfl rfl ?_)
        refine aV 20 (by decide +kernel) rfl (e_idx (a + i) Try.underlying32 Try.sizeOf27 (q0 rfl) (q0 rfl) (fun _ => ⟨by omega, by omega⟩)) rfl ?_
        refine rdy1 (i := 21) (by decide +kernel) (sub_drop 1) ?_
        refine aL rfl (f_storeR0 0 y rfl rfl Try.sizeOf27 rfl rfl rfl (by first | exact hx | exact hx2) rfl rfl ?_)
        refine aV 22 (by decide +kernel) rfl (e_idx (b + i) Try.underlying32 Try.sizeOf27 (q0 rfl) (q0 rfl) (fun _ => ⟨by omega, by omega⟩)) rfl ?_
        refine rdy1 (i := 23) (by decide +kernel) (sub_drop 1) ?_
        refine aL rfl (f_storeR0 0 x rfl rfl Try.sizeOf27 rfl rfl rfl (by first | exact hy2 | exact hy) rfl rfl ?_)
        refine aZ (by decide +kernel) (sub_drop 1) ?_
        exact cutJ_normal () (by repeat (first | exact agree_self | exact agree_over | refine agree_upd rfl ?_ | refine agree_updL rfl ?_ | refine agree_over2 rfl ?_)) trivial (fun w hw => by first | exact hw | (rw [List.set_comm _ _ (by omega)]; exact hw)) rfl trivial
      · refine aL rfl (f_ev (e_lds (vs := x.cells) Try.isAgg27 Try.sizeOf27 (q0 rfl) (rrs 0 rfl hx) rfl) rfl rfl ?_)
        refine rdy1 (i := 13) (by decide +kernel) (sub_drop 1) ?_
        refine aL rfl (f_ev (e_lds (vs := y.cells) Try.isAgg27 Try.sizeOf27 (q0 rfl) (rrs 0 rfl hy) rfl) rfl rfl ?_)
        refine aV 20 (by decide +kernel) rfl (e_idx (a + i) Try.underlying32 Try.sizeOf27 (q0 rfl) (q0 rfl) (fun _ => ⟨by omega, by omega⟩)) rfl ?_
        refine rdy1 (i := 21) (by decide +kernel) (sub_drop 1) ?_
        refine aL rfl (f_storeR0 0 y rfl rfl Try.sizeOf27 rfl rfl rfl (by first | exact hx | exact hx2) rfl rfl ?_)
        refine aV 22 (by decide +kernel) rfl (e_idx (b + i) Try.underlying32 Try.sizeOf27 (q0 rfl) (q0 rfl) (fun _ => ⟨by omega, by omega⟩)) rfl ?_
        refine rdy1 (i := 23) (by decide +kernel) (sub_drop 1) ?_
        refine aL rfl (f_storeR0 0 x rfl rfl Try.sizeOf27 rfl rfl rfl (by first | exact hy2 | exact hy) rfl rfl ?_)
        refine aZ (by decide +kernel) (sub_drop 1) ?_
        exact cutJ_normal () (by repeat (first | exact agree_self | exact agree_over | refine agree_upd rfl ?_ | refine agree_updL rfl ?_ | refine agree_over2 rfl ?_)) trivial (fun w hw => by first | exact hw | (rw [List.set_comm _ _ (by omega)]; exact hw)) rfl trivial
    · intro _ g5 _
      refine blockJ_normal ?_
      refine thenJ_normal ?_
      refine R0 ?_
      refine xV (e_mv (v := .int _ _) (q0 rfl)) rfl rfl ?_
      refine xV (e_add (q0 rfl) (q0 rfl) (fun _ => ⟨rfl, by omega, by omega⟩)) rfl rfl ?_
      refine xV (e_as (v := .int _ _) (q0 rfl)) rfl rfl ?_
      refine XN ?_
      exact loopJ_normal (i + 1, (zs.set (a + i) y).set (b + i) x) (by repeat (first | exact agree_self | exact agree_over | refine agree_upd rfl ?_ | refine agree_updL rfl ?_ | refine agree_over2 rfl ?_)) ⟨rfl, trivial⟩ (fun w hw => hw) rfl ⟨by show i + 1 ≤ k; omega, hS.step (by omega) hx hy, hG.trans (Seg.two (by omega) hx hy (by omega) (by omega))⟩ (by show k - (i + 1) < k - i; omega)
  · have hend : i = k := by simp at hlt; omega
    subst hend
    refine H_exit ?_
    refine thenJ_exit ?_
    refine loopJ_exit ?_
    refine blockJ_hit ?_
    exact end0 rfl hmk fun w' hw => ⟨⟨zs, hS, hG⟩, rfl, hw⟩
set_option maxHeartbeats 1000000 in
set_option maxRecDepth 20000 in
theorem rot_w {A : Option Addr} {c n : Nat} {xs : List RX} (s m e : Nat) (hw : Mem w0 (rdRow A c xs :: L) w) (hmk : marks L = []) (hn : xs.length = n) (h1 : s < m) (h2 : m < e) (h3 : e ≤ n) (hl : n ≤ 100000) :
    Calls Try.prog 89 #[.slice A n c, .int .i64 s, .int .i64 m, .int .i64 e, .func (.func 43) #[] #[]] w fun r w' => ∃ ys : { ys : List RX // Rot xs ys s m e ∧ Seg xs ys s e }, r = .returned (.tuple #[]) ∧ Mem w0 (rdRow A c ys.1 :: L) w' := by
  refine H_enterM hw hmk Try.func89 rfl Try.ntmps89 rfl ?_
  refine H_seq ?_
  refine R0 ?_
  refine xV (e_mv (v := .int _ _) (q0 rfl)) rfl rfl ?_
  refine xV (e_mv (v := .int _ _) (q0 rfl)) rfl rfl ?_
  refine xV (e_sub (r := ((m - s : Nat) : Int)) (q0 rfl) (q0 rfl) (fun _ => ⟨by first | omega | (simp only; omega), by first | omega | (simp only; omega), by first | omega | (simp only; omega)⟩)) rfl rfl ?_
  refine xV (e_as (v := .int _ _) (q0 rfl)) rfl rfl ?_
  refine XN ?_
  refine thenJ_normal ?_
  refine H_seq ?_
  refine R0 ?_
  refine xV (e_mv (v := .int _ _) (q0 rfl)) rfl rfl ?_
  refine xV (e_mv (v := .int _ _) (q0 rfl)) rfl rfl ?_
  refine xV (e_sub (r := ((e - m : Nat) : Int)) (q0 rfl) (q0 rfl) (fun _ => ⟨by first | omega | (simp only; omega), by first | omega | (simp only; omega), by first | omega | (simp only; omega)⟩)) rfl rfl ?_
  refine xV (e_as (v := .int _ _) (q0 rfl)) rfl rfl ?_
  refine XN ?_
  refine thenJ_normal ?_
  refine H_seq ?_
  refine H_block ?_
  refine H_loop [10, 11, 18, 19, 20, 21, 22, 23, 24, 25, 26, 27, 28, 29, 30, 31, 32, 33, 34, 35, 36, 37, 38, 39, 40, 41, 42, 43, 44, 45, 46, 47, 48, 49] (fun q : Nat × Nat × List RX => [(10, .int .i64 q.1), (11, .int .i64 q.2.1)]) (fun q => rdRow A c q.2.2 :: L) (fun q => 0 < q.1 ∧ 0 < q.2.1 ∧ q.1 ≤ m - s ∧ q.2.1 ≤ e - m ∧ Seg xs q.2.2 s e ∧ ∀ ws, Rot q.2.2 ws (m - q.1) m (m + q.2.1) → Rot xs ws s m e) (fun q => q.1 + q.2.1) (m - s, e - m, xs) ⟨rfl, rfl, trivial⟩ (fun w hw => hw) rfl ⟨by show 0 < m - s; omega, by show 0 < e - m; omega, Nat.le_refl _, Nat.le_refl _, Seg.refl _ _ _, fun ws h => by
    have e1 : m - (m - s) = s := by omega
    have e2 : m + (e - m) = e := by omega
    simp only [e1, e2] at h
    exact h⟩ ?_
  rintro ⟨i, j, zs⟩ g ⟨hi0, hj0, hi, hj, hG, hR⟩
  simp only at hi0 hj0 hi hj hG hR
  have hzl : zs.length = n := by rw [hG.len, hn]
  refine H_seq ?_
  refine H_seq ?_
  refine R0 ?_
  refine xV (e_mv (v := .int _ _) (q0 rfl)) rfl rfl ?_
  refine xV (e_mv (v := .int _ _) (q0 rfl)) rfl rfl ?_
  refine xV (e_ne (q0 rfl) (q0 rfl)) rfl rfl ?_
  refine XN ?_
  refine thenJ_normal ?_
  refine H_cond rfl (fun hne => ?_) (fun hne => ?_)
  · have hne' : i ≠ j := by
      have h : ¬ (i : Int) = (j : Int) := by simpa using hne
      omega
    refine H_skip ?_
    refine thenJ_normal ?_
    refine H_block ?_
    refine H_seq ?_
    refine R0 ?_
    refine xV (e_mv (v := .int _ _) (q0 rfl)) rfl rfl ?_
    refine xV (e_mv (v := .int _ _) (q0 rfl)) rfl rfl ?_
    refine xV (e_gt (q0 rfl) (q0 rfl)) rfl rfl ?_
    refine XN ?_
    refine thenJ_normal ?_
    refine H_cond rfl (fun hgt => ?_) (fun hgt => ?_)
    · have hgt' : j < i := by simpa using hgt
      refine H_seq ?_
      refine R0 ?_
      refine xV (e_mv (v := .slice _ _ _) (q0 rfl)) rfl rfl ?_
      refine xV (e_mv (v := .int _ _) (q0 rfl)) rfl rfl ?_
      refine xV (e_mv (v := .int _ _) (q0 rfl)) rfl rfl ?_
      refine xV (e_sub (r := ((m - i : Nat) : Int)) (q0 rfl) (q0 rfl) (fun _ => ⟨by first | omega | (simp only; omega), by first | omega | (simp only; omega), by first | omega | (simp only; omega)⟩)) rfl rfl ?_
      refine xV (e_mv (v := .int _ _) (q0 rfl)) rfl rfl ?_
      refine xV (e_mv (v := .int _ _) (q0 rfl)) rfl rfl ?_
      refine xV (e_mv (q0 rfl)) rfl rfl ?_
      refine X_eff (f_callM (en Try.call100 (fun _ => rfl)) (fun w hw => swr_w (m - i) m j hw hmk hzl (by omega) (by omega) hl) rfl (fun _ => rfl) fun u => ?_)
      obtain ⟨ys, hS, hG2⟩ := u
      refine XN ?_
      refine thenJ_normal ?_
      refine R0 ?_
      refine xV (e_mv (v := .int _ _) (q0 rfl)) rfl rfl ?_
      refine xV (e_mv (v := .int _ _) (q0 rfl)) rfl rfl ?_
      refine xV (e_sub (r := ((i - j : Nat) : Int)) (q0 rfl) (q0 rfl) (fun _ => ⟨by first | omega | (simp only; omega), by first | omega | (simp only; omega), by first | omega | (simp only; omega)⟩)) rfl rfl ?_
      refine xV (e_as (v := .int _ _) (q0 rfl)) rfl rfl ?_
      refine XN ?_
      refine blockJ_normal ?_
      exact loopJ_normal (i - j, j, ys) (by repeat (first | exact agree_self | exact agree_over | refine agree_upd rfl ?_ | refine agree_updL rfl ?_ | refine agree_over2 rfl ?_)) ⟨rfl, rfl, trivial⟩ (fun w hw => hw) rfl ⟨by show 0 < i - j; omega, hj0, by show i - j ≤ m - s; omega, hj, hG.trans (hG2.mono (by omega) (by omega)), fun ws h => hR ws (Rot.left hS (by omega) hgt' h)⟩ (by show i - j + j < i + j; omega)
    · have hgt' : i < j := by simp at hgt; omega
      refine H_seq ?_
      refine R0 ?_
      refine xV (e_mv (v := .slice _ _ _) (q0 rfl)) rfl rfl ?_
      refine xV (e_mv (v := .int _ _) (q0 rfl)) rfl rfl ?_
      refine xV (e_mv (v := .int _ _) (q0 rfl)) rfl rfl ?_
      refine xV (e_sub (r := ((m - i : Nat) : Int)) (q0 rfl) (q0 rfl) (fun _ => ⟨by first | omega | (simp only; omega), by first | omega | (simp only; omega), by first | omega | (simp only; omega)⟩)) rfl rfl ?_
      refine xV (e_mv (v := .int _ _) (q0 rfl)) rfl rfl ?_
      refine xV (e_mv (v := .int _ _) (q0 rfl)) rfl rfl ?_
      refine xV (e_add (r := ((m + j : Nat) : Int)) (q0 rfl) (q0 rfl) (fun _ => ⟨by first | omega | (simp only; omega), by first | omega | (simp only; omega), by first | omega | (simp only; omega)⟩)) rfl rfl ?_
      refine xV (e_mv (v := .int _ _) (q0 rfl)) rfl rfl ?_
      refine xV (e_sub (r := ((m + j - i : Nat) : Int)) (q0 rfl) (q0 rfl) (fun _ => ⟨by first | omega | (simp only; omega), by first | omega | (simp only; omega), by first | omega | (simp only; omega)⟩)) rfl rfl ?_
      refine xV (e_mv (v := .int _ _) (q0 rfl)) rfl rfl ?_
      refine xV (e_mv (q0 rfl)) rfl rfl ?_
      refine X_eff (f_callM (en Try.call100 (fun _ => rfl)) (fun w hw => swr_w (m - i) (m + j - i) i hw hmk hzl (by omega) (by omega) hl) rfl (fun _ => rfl) fun u => ?_)
      obtain ⟨ys, hS, hG2⟩ := u
      refine XN ?_
      refine thenJ_normal ?_
      refine R0 ?_
      refine xV (e_mv (v := .int _ _) (q0 rfl)) rfl rfl ?_
      refine xV (e_mv (v := .int _ _) (q0 rfl)) rfl rfl ?_
      refine xV (e_sub (r := ((j - i : Nat) : Int)) (q0 rfl) (q0 rfl) (fun _ => ⟨by first | omega | (simp only; omega), by first | omega | (simp only; omega), by first | omega | (simp only; omega)⟩)) rfl rfl ?_
      refine xV (e_as (v := .int _ _) (q0 rfl)) rfl rfl ?_
      refine XN ?_
      refine blockJ_normal ?_
      exact loopJ_normal (i, j - i, ys) (by repeat (first | exact agree_self | exact agree_over | refine agree_upd rfl ?_ | refine agree_updL rfl ?_ | refine agree_over2 rfl ?_)) ⟨rfl, rfl, trivial⟩ (fun w hw => hw) rfl ⟨hi0, by show 0 < j - i; omega, hi, by show j - i ≤ e - m; omega, hG.trans (hG2.mono (by omega) (by omega)), fun ws h => hR ws (Rot.right hS (by omega) hgt' h)⟩ (by show i + (j - i) < i + j; omega)
  · have hend : i = j := by
      have h : (i : Int) = (j : Int) := by simpa using hne
      omega
    subst hend
    refine H_exit ?_
    refine thenJ_exit ?_
    refine loopJ_exit ?_
    refine blockJ_hit ?_
    refine thenJ_normal ?_
    refine R0 ?_
    refine xV (e_mv (v := .slice _ _ _) (q0 rfl)) rfl rfl ?_
    refine xV (e_mv (v := .int _ _) (q0 rfl)) rfl rfl ?_
    refine xV (e_mv (v := .int _ _) (q0 rfl)) rfl rfl ?_
    refine xV (e_sub (r := ((m - i : Nat) : Int)) (q0 rfl) (q0 rfl) (fun _ => ⟨by first | omega | (simp only; omega), by first | omega | (simp only; omega), by first | omega | (simp only; omega)⟩)) rfl rfl ?_
    refine xV (e_mv (v := .int _ _) (q0 rfl)) rfl rfl ?_
    refine xV (e_mv (v := .int _ _) (q0 rfl)) rfl rfl ?_
    refine xV (e_mv (q0 rfl)) rfl rfl ?_
    refine X_eff (f_callM (en Try.call100 (fun _ => rfl)) (fun w hw => swr_w (m - i) m i hw hmk hzl (by omega) (by omega) hl) rfl (fun _ => rfl) fun u => ?_)
    obtain ⟨ys, hS, hG2⟩ := u
    refine XN ?_
    exact end0 rfl hmk fun w' hw => ⟨⟨ys, hR ys (Rot.of_sw hS (by omega)), hG.trans (hG2.mono (by omega) (by omega))⟩, rfl, hw⟩
end

end Go.Proofs.Rid

/-
  Plain facts: the places that symMerge looks for.
-/
namespace Go.Proofs.Rid

section
variable {α : Type} {key : α → Int} {xs zs : List α} {a b m i : Nat}
theorem move_right {x0 : α} (hB : Asc key xs (a + 1) b) (h1 : a + 1 ≤ i) (h2 : i ≤ b) (hlo : ∀ (q : Nat) x, a + 1 ≤ q → q < i → xs[q]? = some x → key x ≤ key x0) (hhi : ∀ (q : Nat) x, i ≤ q → q < b → xs[q]? = some x → key x0 ≤ key x)
    (hz : zs[i - 1]? = some x0) (hz1 : ∀ p, a ≤ p → p < i - 1 → zs[p]? = xs[p + 1]?) (hz2 : ∀ p, i - 1 < p → zs[p]? = xs[p]?) : Asc key zs a b := fun p q x y p1 p2 p3 hx hy => by
  rcases Nat.lt_trichotomy p (i - 1) with c1 | c1 | c1
  · rw [hz1 p p1 c1] at hx
    rcases Nat.lt_trichotomy q (i - 1) with c2 | c2 | c2
    · rw [hz1 q (by omega) c2] at hy
      exact hB _ _ x y (by omega) (by omega) (by omega) hx hy
    · subst c2
      rw [hz] at hy; cases hy
      exact hlo _ x (by omega) (by omega) hx
    · rw [hz2 q c2] at hy
      exact hB _ _ x y (by omega) (by omega) p3 hx hy
  · subst c1
    rw [hz] at hx; cases hx
    by_cases c2 : q = i - 1
    · subst c2
      rw [hz] at hy; cases hy
      exact Int.le_refl _
    · rw [hz2 q (by omega)] at hy
      exact hhi q y (by omega) p3 hy
  · rw [hz2 p c1] at hx
    rw [hz2 q (by omega)] at hy
    exact hB p q x y (by omega) p2 p3 hx hy
theorem move_left {x1 : α} (hA : Asc key xs a m) (h1 : a ≤ i) (h2 : i ≤ m) (hlo : ∀ (q : Nat) x, a ≤ q → q < i → xs[q]? = some x → key x ≤ key x1) (hhi : ∀ (q : Nat) x, i ≤ q → q < m → xs[q]? = some x → key x1 ≤ key x)
    (hz : zs[i]? = some x1) (hz1 : ∀ p, i < p → p ≤ m → zs[p]? = xs[p - 1]?) (hz2 : ∀ p, p < i → zs[p]? = xs[p]?) : Asc key zs a (m + 1) := fun p q x y p1 p2 p3 hx hy => by
  rcases Nat.lt_trichotomy p i with c1 | c1 | c1
  · rw [hz2 p c1] at hx
    rcases Nat.lt_trichotomy q i with c2 | c2 | c2
    · rw [hz2 q c2] at hy
      exact hA _ _ x y p1 p2 (by omega) hx hy
    · subst c2
      rw [hz] at hy; cases hy
      exact hlo _ x p1 c1 hx
    · rw [hz1 q c2 (by omega)] at hy
      exact hA _ _ x y p1 (by omega) (by omega) hx hy
  · subst c1
    rw [hz] at hx; cases hx
    by_cases c2 : q = p
    · subst c2
      rw [hz] at hy; cases hy
      exact Int.le_refl _
    · rw [hz1 q (by omega) (by omega)] at hy
      exact hhi _ y (by omega) (by omega) hy
  · rw [hz1 p c1 (by omega)] at hx
    rw [hz1 q (by omega) (by omega)] at hy
    exact hA _ _ x y (by omega) (by omega) (by omega) hx hy

/-! where the two parts are split -/
def SymAt (a m b mid s0 r0 : Nat) : Prop := (mid < m ∧ s0 = mid + m - b ∧ r0 = mid) ∨ (m ≤ mid ∧ s0 = a ∧ r0 = m)
theorem SymAt.in_ {mid s0 r0 : Nat} (h : SymAt a m b mid s0 r0) (hm : mid = (a + b) / 2) (h1 : a < m) (h2 : m < b) : s0 ≤ r0 ∧ ∀ c, s0 ≤ c → c < r0 → a ≤ c ∧ c < m ∧ m ≤ mid + m - 1 - c ∧ mid + m - 1 - c < b := by
  rcases h with ⟨h3, h4, h5⟩ | ⟨h3, h4, h5⟩
  · exact ⟨by omega, fun c c1 c2 => by omega⟩
  · exact ⟨by omega, fun c c1 c2 => by omega⟩
variable {mid s0 r0 s h : Nat}
theorem look_up {u v : α} (hA : Asc key xs a m) (hB : Asc key xs m b) (hin : ∀ c, s0 ≤ c → c < r0 → a ≤ c ∧ c < m ∧ m ≤ mid + m - 1 - c ∧ mid + m - 1 - c < b) (h1 : s0 ≤ h) (h2 : h < r0) (hu : xs[h]? = some u) (hv : xs[mid + m - 1 - h]? = some v) (huv : key u ≤ key v) :
    ∀ (c : Nat) x y, s0 ≤ c → c < h + 1 → xs[c]? = some x → xs[mid + m - 1 - c]? = some y → key x ≤ key y := fun c x y c1 c2 hx hy => by
  have i1 := hin c c1 (by omega)
  have i2 := hin h h1 h2
  have a1 := hA c h x u i1.1 (by omega) i2.2.1 hx hu
  have a2 := hB _ _ v y i2.2.2.1 (by omega) i1.2.2.2 hv hy
  omega
theorem look_down {u v : α} (hA : Asc key xs a m) (hB : Asc key xs m b) (hin : ∀ c, s0 ≤ c → c < r0 → a ≤ c ∧ c < m ∧ m ≤ mid + m - 1 - c ∧ mid + m - 1 - c < b) (h1 : s0 ≤ h) (hu : xs[h]? = some u) (hv : xs[mid + m - 1 - h]? = some v) (huv : key v ≤ key u) :
    ∀ (c : Nat) x y, h ≤ c → c < r0 → xs[c]? = some x → xs[mid + m - 1 - c]? = some y → key y ≤ key x := fun c x y c1 c2 hx hy => by
  have i1 := hin c (by omega) c2
  have i2 := hin h h1 (by omega)
  have a1 := hA h c u x i2.1 c1 i1.2.1 hu hx
  have a2 := hB _ _ y v i1.2.2.1 (by omega) i2.2.2.2 hy hv
  omega
theorem cross (h : SymAt a m b mid s0 r0) (hm : mid = (a + b) / 2) (h1 : a < m) (h2 : m < b) (hl : b ≤ xs.length) (hA : Asc key xs a m) (hB : Asc key xs m b) (hs1 : s0 ≤ s) (hs2 : s ≤ r0)
    (hlo : ∀ (c : Nat) x y, s0 ≤ c → c < s → xs[c]? = some x → xs[mid + m - 1 - c]? = some y → key x ≤ key y) (hhi : ∀ (c : Nat) x y, s ≤ c → c < r0 → xs[c]? = some x → xs[mid + m - 1 - c]? = some y → key y ≤ key x) :
    a ≤ s ∧ s ≤ m ∧ m ≤ mid + m - s ∧ mid + m - s ≤ b ∧ s + (mid + m - s - m) = mid ∧ (∀ (p q : Nat) x y, m ≤ q → q < mid + m - s → s ≤ p → p < m → xs[q]? = some y → xs[p]? = some x → key y ≤ key x) ∧ (∀ (p q : Nat) x y, a ≤ p → p < s → mid + m - s ≤ q → q < b → xs[p]? = some x → xs[q]? = some y → key x ≤ key y) := by
  obtain ⟨_, hin⟩ := h.in_ hm h1 h2
  have hb : a ≤ s ∧ s ≤ m ∧ m ≤ mid + m - s ∧ mid + m - s ≤ b ∧ s + (mid + m - s - m) = mid := by
    rcases h with ⟨h3, h4, h5⟩ | ⟨h3, h4, h5⟩ <;> omega
  refine ⟨hb.1, hb.2.1, hb.2.2.1, hb.2.2.2.1, hb.2.2.2.2, fun p q x y q1 q2 p1 p2 hy hx => ?_, fun p q x y p1 p2 q1 q2 hx hy => ?_⟩
  · by_cases c : s < r0
    · have i1 := hin s hs1 c
      obtain ⟨u, hu⟩ : ∃ u, xs[s]? = some u := ⟨_, List.getElem?_eq_getElem (by omega)⟩
      obtain ⟨v, hv⟩ : ∃ v, xs[mid + m - 1 - s]? = some v := ⟨_, List.getElem?_eq_getElem (by omega)⟩
      have a1 := hhi s u v (Nat.le_refl _) c hu hv
      have a2 := hA s p u x i1.1 p1 p2 hu hx
      have a3 := hB q _ y v q1 (by omega) i1.2.2.2 hy hv
      omega
    · exfalso
      rcases h with ⟨h3, h4, h5⟩ | ⟨h3, h4, h5⟩ <;> omega
  · by_cases c : s0 < s
    · have i1 := hin (s - 1) (by omega) (by omega)
      obtain ⟨u, hu⟩ : ∃ u, xs[s - 1]? = some u := ⟨_, List.getElem?_eq_getElem (by omega)⟩
      obtain ⟨v, hv⟩ : ∃ v, xs[mid + m - 1 - (s - 1)]? = some v := ⟨_, List.getElem?_eq_getElem (by omega)⟩
      have a1 := hlo (s - 1) u v (by omega) (by omega) hu hv
      have a2 := hA p (s - 1) x u p1 (by omega) i1.2.1 hx hu
      have a3 := hB _ q v y i1.2.2.1 (by omega) q2 hv hy
      omega
    · exfalso
      rcases h with ⟨h3, h4, h5⟩ | ⟨h3, h4, h5⟩ <;> omega
end

end Go.Proofs.Rid

/-
  The walks: rides merged in place.
-/
namespace Go.Proofs.Rid
open Go Go.RowKit Go.Proofs.E Go.Proofs.Cus

set_option maxHeartbeats 8000000 in
set_option maxRecDepth 20000 in
theorem sym_w : ∀ (N : Nat) {w0 w : World} {L : List E.Item} {A : Option Addr} {c n : Nat} {xs : List RX} (a m b : Nat), Mem w0 (rdRow A c xs :: L) w → marks L = [] → b - a ≤ N → a < m → m < b → b ≤ n → xs.length = n → n ≤ 100000 → Asc kx xs a m → Asc kx xs m b →
    Calls Try.prog 78 #[.slice A n c, .int .i64 a, .int .i64 m, .int .i64 b, .func (.func 43) #[] #[]] w fun e w' => ∃ ys : { ys : List RX // Merged kx xs ys a b }, e = .returned (.tuple #[]) ∧ Mem w0 (rdRow A c ys.1 :: L) w' := by
  intro N
  induction N with
  | zero =>
    intro w0 w L A c n xs a m b _ _ hN h1 h2
    omega
  | succ N ih =>
    intro w0 w L A c n xs a m b hw hmk hN h1 h2 hb hn hl hA hB
    obtain ⟨x0, hx0⟩ : ∃ x0, xs[a]? = some x0 := ⟨_, List.getElem?_eq_getElem (by omega)⟩
    obtain ⟨x1, hx1⟩ : ∃ x1, xs[m]? = some x1 := ⟨_, List.getElem?_eq_getElem (by omega)⟩
    obtain ⟨rb, hrb⟩ := rowT_at (j := 0) hw rfl (by omega)
    subst hrb
    refine H_enterM hw hmk Try.func78 rfl Try.ntmps78 rfl ?_
    refine H_seq ?_
    refine H_seq ?_
    refine R0 ?_
    refine xV (e_mv (v := .int _ _) (q0 rfl)) rfl rfl ?_
    refine xV (e_mv (v := .int _ _) (q0 rfl)) rfl rfl ?_
    refine xV (e_sub (r := ((m - a : Nat) : Int)) (q0 rfl) (q0 rfl) (fun _ => ⟨by first | omega | (simp only; omega), by first | omega | (simp only; omega), by first | omega | (simp only; omega)⟩)) rfl rfl ?_
    refine xV (e_eq (q0 rfl) (q0 rfl)) rfl rfl ?_
    refine XN ?_
    refine thenJ_normal ?_
    refine H_cond rfl (fun hm1 => ?_) (fun hm1 => ?_)
    · have hm1' : m = a + 1 := by
        have h : ((m - a : Nat) : Int) = 1 := of_decide_eq_true hm1
        omega
      subst hm1'
      refine H_seq ?_
      refine R0 ?_
      refine xV (e_mv (v := .int _ _) (q0 rfl)) rfl rfl ?_
      refine xV (e_as (v := .int _ _) (q0 rfl)) rfl rfl ?_
      refine XN ?_
      refine thenJ_normal ?_
      refine H_seq ?_
      refine R0 ?_
      refine xV (e_mv (v := .int _ _) (q0 rfl)) rfl rfl ?_
      refine xV (e_as (v := .int _ _) (q0 rfl)) rfl rfl ?_
      refine XN ?_
      refine thenJ_normal ?_
      refine H_seq ?_
      refine H_block ?_
      refine H_loop [10, 11, 12, 31, 32, 33, 34, 35, 36, 37, 38, 39, 40, 41, 42, 43, 44, 45, 46, 47, 48, 49, 50, 51, 52, 53] (fun q : Nat × Nat => [(10, .int .i64 q.1), (11, .int .i64 q.2)]) (fun _ => rdRow (some ⟨rb, 0, none⟩) c xs :: L) (fun q => a + 1 ≤ q.1 ∧ q.1 ≤ q.2 ∧ q.2 ≤ b ∧ (∀ (p : Nat) x, a + 1 ≤ p → p < q.1 → xs[p]? = some x → kx x ≤ kx x0) ∧ (∀ (p : Nat) x, q.2 ≤ p → p < b → xs[p]? = some x → kx x0 ≤ kx x)) (fun q => q.2 - q.1) (a + 1, b) ⟨rfl, rfl, trivial⟩ (fun w hw => hw) rfl ⟨Nat.le_refl _, by show a + 1 ≤ b; omega, Nat.le_refl _, fun p x p1 p2 => by simp only at p2; omega, fun p x p1 p2 => by simp only at p1; omega⟩ ?_
      rintro ⟨i, j⟩ g ⟨hi, hij, hj, hlo, hhi⟩
      simp only at hi hij hj hlo hhi
      refine H_seq ?_
      refine H_seq ?_
      refine R0 ?_
      refine xV (e_mv (v := .int _ _) (q0 rfl)) rfl rfl ?_
      refine xV (e_mv (v := .int _ _) (q0 rfl)) rfl rfl ?_
      refine xV (e_lt (q0 rfl) (q0 rfl)) rfl rfl ?_
      refine XN ?_
      refine thenJ_normal ?_
      refine H_cond rfl (fun hlt => ?_) (fun hlt => ?_)
      · have hlt' : i < j := by
          have h : (i : Int) < (j : Int) := of_decide_eq_true hlt
          omega
        obtain ⟨h, hh⟩ : ∃ h, h = (i + j) / 2 := ⟨_, rfl⟩
        obtain ⟨u, hu⟩ : ∃ u, xs[h]? = some u := ⟨_, List.getElem?_eq_getElem (by omega)⟩
        refine H_skip ?_
        refine thenJ_normal ?_
        refine H_block ?_
        refine H_seq ?_
        refine R0 ?_
        refine xV (e_mv (v := .int _ _) (q0 rfl)) rfl rfl ?_
        refine xV (e_mv (v := .int _ _) (q0 rfl)) rfl rfl ?_
        refine xV (e_add (r := ((i + j : Nat) : Int)) (q0 rfl) (q0 rfl) (fun _ => ⟨by first | omega | (simp only; omega), by first | omega | (simp only; omega), by first | omega | (simp only; omega)⟩)) rfl rfl ?_
        refine xV (e_cvtU (m := ((i + j : Nat) : Int)) Try.underlying3 Try.underlying131 (q0 rfl) (fun _ => ⟨by omega, by omega⟩)) rfl rfl ?_
        refine xV (e_shr1 (m := ((i + j : Nat) : Int)) (r := ((h : Nat) : Int)) (q0 rfl) (q0 rfl) (fun _ => by omega)) rfl rfl ?_
        refine xV (e_cvt (m := ((h : Nat) : Int)) Try.underlying131 Try.underlying3 (q0 rfl) (fun _ => ⟨by omega, by omega⟩)) rfl rfl ?_
        refine xV (e_as (v := .int _ _) (q0 rfl)) rfl rfl ?_
        refine XN ?_
        refine thenJ_normal ?_
        refine H_seq ?_
        refine R1 rfl (by decide +kernel) ?_
        refine xV (e_mv (q0 rfl)) rfl rfl ?_
        refine xV (e_mv (v := .slice _ _ _) (q0 rfl)) rfl rfl ?_
        refine xV (e_mv (v := .int _ _) (q0 rfl)) rfl rfl ?_
        refine xV (e_idx (h) Try.underlying32 Try.sizeOf27 (q0 rfl) (q0 rfl) (fun _ => ⟨by first | rfl | omega | (simp only; omega), by first | omega | (simp only; omega)⟩)) rfl rfl ?_
        refine xV (e_lds (vs := u.cells) Try.isAgg27 Try.sizeOf27 (q0 rfl) (rrs 0 rfl hu) rfl) rfl rfl ?_
        refine xV (e_mv (v := .slice _ _ _) (q0 rfl)) rfl rfl ?_
        refine xV (e_mv (v := .int _ _) (q0 rfl)) rfl rfl ?_
        refine xV (e_idx (a) Try.underlying32 Try.sizeOf27 (q0 rfl) (q0 rfl) (fun _ => ⟨by first | rfl | omega | (simp only; omega), by first | omega | (simp only; omega)⟩)) rfl rfl ?_
        refine xV (e_lds (vs := x0.cells) Try.isAgg27 Try.sizeOf27 (q0 rfl) (rrs 0 rfl hx0) rfl) rfl rfl ?_
        refine xC (enV (cap := []) (al := [.agg u.cells.toArray, .agg x0.cells.toArray]) Try.call43 (q0 rfl) (fun hg => by rw [ha2 (q0 (v := .agg _) rfl) (q0 (v := .agg _) rfl) hg]; rfl)) (fun _ w _ => cmpId_w u x0 w) rfl rfl ?_
        refine xV (e_lt (q0 rfl) (q0 rfl)) rfl rfl ?_
        refine XN ?_
        refine thenJ_normal ?_
        refine H_cond rfl (fun hc => ?_) (fun hc => ?_)
        · have hc' : kx u < kx x0 := by
            rw [cmpI_lt] at hc
            exact of_decide_eq_true hc
          refine R0 ?_
          refine xV (e_mv (v := .int _ _) (q0 rfl)) rfl rfl ?_
          refine xV (e_add (q0 rfl) (q0 rfl) (fun _ => ⟨rfl, by omega, by omega⟩)) rfl rfl ?_
          refine xV (e_as (v := .int _ _) (q0 rfl)) rfl rfl ?_
          refine XN ?_
          refine blockJ_normal ?_
          exact loopJ_normal (h + 1, j) (by repeat (first | exact agree_self | exact agree_over | refine agree_upd rfl ?_ | refine agree_updL rfl ?_ | refine agree_over2 rfl ?_)) ⟨rfl, rfl, trivial⟩ (fun w hw => hw) rfl ⟨by show a + 1 ≤ h + 1; omega, by show h + 1 ≤ j; omega, hj, fun p x p1 p2 hx => by
            have := hB p h x u p1 (by simp only at p2; omega) (by omega) hx hu
            omega, hhi⟩ (by show j - (h + 1) < j - i; omega)
        · have hc' : kx x0 ≤ kx u := by
            rw [cmpI_lt] at hc
            have := of_decide_eq_false hc
            show x0.r.id ≤ u.r.id
            omega
          refine R0 ?_
          refine xV (e_mv (v := .int _ _) (q0 rfl)) rfl rfl ?_
          refine xV (e_as (v := .int _ _) (q0 rfl)) rfl rfl ?_
          refine XN ?_
          refine blockJ_normal ?_
          exact loopJ_normal (i, h) (by repeat (first | exact agree_self | exact agree_over | refine agree_upd rfl ?_ | refine agree_updL rfl ?_ | refine agree_over2 rfl ?_)) ⟨rfl, rfl, trivial⟩ (fun w hw => hw) rfl ⟨hi, by show i ≤ h; omega, by show h ≤ b; omega, hlo, fun p x p1 p2 hx => by
            have := hB h p u x (by omega) p1 p2 hu hx
            omega⟩ (by show h - i < j - i; omega)
      · have hij' : j = i := by
          have h : ¬ (i : Int) < (j : Int) := of_decide_eq_false hlt
          omega
        subst hij'
        refine H_exit ?_
        refine thenJ_exit ?_
        refine loopJ_exit ?_
        refine blockJ_hit ?_
        refine thenJ_normal ?_
        refine H_seq ?_
        refine H_seq ?_
        refine R0 ?_
        refine xV (e_mv (v := .int _ _) (q0 rfl)) rfl rfl ?_
        refine xV (e_as (v := .int _ _) (q0 rfl)) rfl rfl ?_
        refine XN ?_
        refine thenJ_normal ?_
        refine H_block ?_
        refine H_loop [13, 55, 56, 57, 58, 59, 60, 61, 62, 63, 64, 65, 66, 67, 68, 69, 70, 71, 72, 73, 74, 75, 76] (fun q : Nat × List RX => [(13, .int .i64 q.1)]) (fun q => rdRow (some ⟨rb, 0, none⟩) c q.2 :: L) (fun q => a ≤ q.1 ∧ q.1 ≤ j - 1 ∧ Seg xs q.2 a b ∧ q.2[q.1]? = some x0 ∧ (∀ p, a ≤ p → p < q.1 → q.2[p]? = xs[p + 1]?) ∧ (∀ p, q.1 < p → q.2[p]? = xs[p]?)) (fun q => j - q.1) (a, xs) ⟨rfl, trivial⟩ (fun w hw => hw) rfl ⟨Nat.le_refl _, by show a ≤ j - 1; omega, Seg.refl _ _ _, hx0, fun p p1 p2 => by simp only at p2; omega, fun _ _ => rfl⟩ ?_
        rintro ⟨k, zs⟩ g2 ⟨hk1, hk2, hG, hz0, hz1, hz2⟩
        simp only at hk1 hk2 hG hz0 hz1 hz2
        have hzl : zs.length = n := by rw [hG.len, hn]
        refine H_seq ?_
        refine H_seq ?_
        refine R0 ?_
        refine xV (e_mv (v := .int _ _) (q0 rfl)) rfl rfl ?_
        refine xV (e_mv (v := .int _ _) (q0 rfl)) rfl rfl ?_
        refine xV (e_sub (r := ((j - 1 : Nat) : Int)) (q0 rfl) (q0 rfl) (fun _ => ⟨by first | omega | (simp only; omega), by first | omega | (simp only; omega), by first | omega | (simp only; omega)⟩)) rfl rfl ?_
        refine xV (e_lt (q0 rfl) (q0 rfl)) rfl rfl ?_
        refine XN ?_
        refine thenJ_normal ?_
        refine H_cond rfl (fun hlt2 => ?_) (fun hlt2 => ?_)
        · have hlt2' : k < j - 1 := by
            have h : (k : Int) < ((j - 1 : Nat) : Int) := of_decide_eq_true hlt2
            omega
          obtain ⟨y, hy⟩ : ∃ y, zs[k + 1]? = some y := ⟨_, List.getElem?_eq_getElem (by omega)⟩
          have hx2 : (zs.set (k + 1) x0)[k]? = some x0 := by rw [List.getElem?_set_ne (by omega)]; exact hz0
          have hy2 : (zs.set k y)[k + 1]? = some y := by rw [List.getElem?_set_ne (by omega)]; exact hy
          have hg := two_get (i := k) (j := k + 1) (by omega) hz0 hy
          refine H_skip ?_
          refine thenJ_normal ?_
          refine H_seq ?_
          refine H_block ?_
          refine H_cut [61, 62, 63, 64, 65, 66, 67, 68, 69, 70, 71, 72, 73, 74, 75, 76] (fun _ : Unit => []) (fun _ => rdRow (some ⟨rb, 0, none⟩) c ((zs.set k y).set (k + 1) x0) :: L) (fun _ => True) ?_ ?_
          · refine RAd 1 rfl (by decide +kernel) ?_
            refine aV 0 (by decide +kernel) rfl (e_mv (v := .slice _ _ _) (q0 rfl)) rfl ?_
            refine aV 1 (by decide +kernel) rfl (e_mv (v := .int _ _) (q0 rfl)) rfl ?_
            refine aV 2 (by decide +kernel) rfl (e_mv (v := .slice _ _ _) (q0 rfl)) rfl ?_
            refine aV 3 (by decide +kernel) rfl (e_mv (v := .int _ _) (q0 rfl)) rfl ?_
            refine aV 4 (by decide +kernel) rfl (e_add (q0 rfl) (q0 rfl) (fun _ => ⟨rfl, by omega, by omega⟩)) rfl ?_
            refine aV 5 (by decide +kernel) rfl (e_mv (v := .slice _ _ _) (q0 rfl)) rfl ?_
            refine aV 6 (by decide +kernel) rfl (e_mv (v := .int _ _) (q0 rfl)) rfl ?_
            refine aV 7 (by decide +kernel) rfl (e_add (q0 rfl) (q0 rfl) (fun _ => ⟨rfl, by omega, by omega⟩)) rfl ?_
            refine aV 8 (by decide +kernel) rfl (e_idx (k + 1) Try.underlying32 Try.sizeOf27 (q0 rfl) (q0 rfl) (fun _ => ⟨by first | rfl | omega | (simp only; omega), by first | omega | (simp only; omega)⟩)) rfl ?_
            refine aV 10 (by decide +kernel) rfl (e_mv (v := .slice _ _ _) (q0 rfl)) rfl ?_
            refine aV 11 (by decide +kernel) rfl (e_mv (v := .int _ _) (q0 rfl)) rfl ?_
            refine aV 12 (by decide +kernel) rfl (e_idx (k) Try.underlying32 Try.sizeOf27 (q0 rfl) (q0 rfl) (fun _ => ⟨by first | rfl | omega | (simp only; omega), by first | omega | (simp only; omega)⟩)) rfl ?_
            refine rdy2 (i := 9) (j := 13) (by decide +kernel) (sub_drop 1) ?_ ?_
            · refine aL rfl (f_ev (e_lds (vs := y.cells) Try.isAgg27 Try.sizeOf27 (q0 rfl) (rrs 0 rfl hy) rfl) rfl rfl ?_)
              refine rdy1 (i := 13) (by decide +kernel) (sub_drop 1) ?_
              refine aL rfl (f_ev (e_lds (vs := x0.cells) Try.isAgg27 Try.sizeOf27 (q0 rfl) (rrs 0 rfl hz0) rfl) rfl rfl ?_)
              refine aV 14 (by decide +kernel) rfl (e_idx (k) Try.underlying32 Try.sizeOf27 (q0 rfl) (q0 rfl) (fun _ => ⟨by first | rfl | omega | (simp only; omega), by first | omega | (simp only; omega)⟩)) rfl ?_
              refine rdy1 (i := 15) (by decide +kernel) (sub_drop 1) ?_
              refine aL rfl (f_storeR0 0 y rfl rfl Try.sizeOf27 rfl rfl rfl (by first | exact hz0 | exact hx2) rfl rfl ?_)
              refine aV 16 (by decide +kernel) rfl (e_idx (k + 1) Try.underlying32 Try.sizeOf27 (q0 rfl) (q0 rfl) (fun _ => ⟨by first | rfl | omega | (simp only; omega), by first | omega | (simp only; omega)⟩)) rfl ?_
              refine rdy1 (i := 17) (by decide +kernel) (sub_drop 1) ?_
              refine aL rfl (f_storeR0 0 x0 rfl rfl Try.sizeOf27 rfl rfl rfl (by first | exact hy2 | exact hy) rfl rfl ?_)
              refine aZ (by decide +kernel) (sub_drop 1) ?_
              exact cutJ_normal () (by repeat (first | exact agree_self | exact agree_over | refine agree_upd rfl ?_ | refine agree_updL rfl ?_ | refine agree_over2 rfl ?_)) trivial (fun w hw => by first | exact hw | (rw [List.set_comm _ _ (by omega)]; exact hw)) rfl trivial
            · refine aL rfl (f_ev (e_lds (vs := x0.cells) Try.isAgg27 Try.sizeOf27 (q0 rfl) (rrs 0 rfl hz0) rfl) rfl rfl ?_)
              refine rdy1 (i := 9) (by decide +kernel) (sub_drop 1) ?_
              refine aL rfl (f_ev (e_lds (vs := y.cells) Try.isAgg27 Try.sizeOf27 (q0 rfl) (rrs 0 rfl hy) rfl) rfl rfl ?_)
              refine aV 14 (by decide +kernel) rfl (e_idx (k) Try.underlying32 Try.sizeOf27 (q0 rfl) (q0 rfl) (fun _ => ⟨by first | rfl | omega | (simp only; omega), by first | omega | (simp only; omega)⟩)) rfl ?_
              refine rdy1 (i := 15) (by decide +kernel) (sub_drop 1) ?_
              refine aL rfl (f_storeR0 0 y rfl rfl Try.sizeOf27 rfl rfl rfl (by first | exact hz0 | exact hx2) rfl rfl ?_)
              refine aV 16 (by decide +kernel) rfl (e_idx (k + 1) Try.underlying32 Try.sizeOf27 (q0 rfl) (q0 rfl) (fun _ => ⟨by first | rfl | omega | (simp only; omega), by first | omega | (simp only; omega)⟩)) rfl ?_
              refine rdy1 (i := 17) (by decide +kernel) (sub_drop 1) ?_
              refine aL rfl (f_storeR0 0 x0 rfl rfl Try.sizeOf27 rfl rfl rfl (by first | exact hy2 | exact hy) rfl rfl ?_)
              refine aZ (by decide +kernel) (sub_drop 1) ?_
              exact cutJ_normal () (by repeat (first | exact agree_self | exact agree_over | refine agree_upd rfl ?_ | refine agree_updL rfl ?_ | refine agree_over2 rfl ?_)) trivial (fun w hw => by first | exact hw | (rw [List.set_comm _ _ (by omega)]; exact hw)) rfl trivial
          · intro _ g5 _
            refine blockJ_normal ?_
            refine thenJ_normal ?_
            refine R0 ?_
            refine xV (e_mv (v := .int _ _) (q0 rfl)) rfl rfl ?_
            refine xV (e_add (q0 rfl) (q0 rfl) (fun _ => ⟨rfl, by omega, by omega⟩)) rfl rfl ?_
            refine xV (e_as (v := .int _ _) (q0 rfl)) rfl rfl ?_
            refine XN ?_
            exact loopJ_normal (k + 1, (zs.set k y).set (k + 1) x0) (by repeat (first | exact agree_self | exact agree_over | refine agree_upd rfl ?_ | refine agree_updL rfl ?_ | refine agree_over2 rfl ?_)) ⟨rfl, trivial⟩ (fun w hw => hw) rfl ⟨by show a ≤ k + 1; omega, by show k + 1 ≤ j - 1; omega, hG.trans (Seg.two (by omega) hz0 hy (by omega) (by omega)), by show ((zs.set k y).set (k + 1) x0)[k + 1]? = some x0; rw [hg, if_pos rfl], fun p p1 p2 => by
              show ((zs.set k y).set (k + 1) x0)[p]? = xs[p + 1]?
              simp only at p2
              rw [hg, if_neg (by omega)]
              by_cases e : p = k
              · rw [if_pos e, e, ← hy, hz2 (k + 1) (by omega)]
              · rw [if_neg e]; exact hz1 p p1 (by omega), fun p p1 => by
              show ((zs.set k y).set (k + 1) x0)[p]? = xs[p]?
              simp only at p1
              rw [hg, if_neg (by omega), if_neg (by omega)]
              exact hz2 p (by omega)⟩ (by show j - (k + 1) < j - k; omega)
        · have hend : k = j - 1 := by
            have h : ¬ (k : Int) < ((j - 1 : Nat) : Int) := of_decide_eq_false hlt2
            omega
          subst hend
          refine H_exit ?_
          refine thenJ_exit ?_
          refine loopJ_exit ?_
          refine blockJ_hit ?_
          refine thenJ_normal ?_
          refine H_ret ?_
          refine thenJ_ret ?_
          exact ret0 rfl hmk fun w' hw => ⟨⟨zs, hG, move_right hB hi hj hlo hhi hz0 hz1 hz2⟩, rfl, hw⟩
    · have hm1' : ¬ m - a = 1 := fun h => by
        have h2 : ¬ ((m - a : Nat) : Int) = 1 := of_decide_eq_false hm1
        omega
      refine H_skip ?_
      refine thenJ_normal ?_
      refine H_seq ?_
      refine H_seq ?_
      refine R0 ?_
      refine xV (e_mv (v := .int _ _) (q0 rfl)) rfl rfl ?_
      refine xV (e_mv (v := .int _ _) (q0 rfl)) rfl rfl ?_
      refine xV (e_sub (r := ((b - m : Nat) : Int)) (q0 rfl) (q0 rfl) (fun _ => ⟨by first | omega | (simp only; omega), by first | omega | (simp only; omega), by first | omega | (simp only; omega)⟩)) rfl rfl ?_
      refine xV (e_eq (q0 rfl) (q0 rfl)) rfl rfl ?_
      refine XN ?_
      refine thenJ_normal ?_
      refine H_cond rfl (fun hb1 => ?_) (fun hb1 => ?_)
      · have hb1' : b = m + 1 := by
          have h : ((b - m : Nat) : Int) = 1 := of_decide_eq_true hb1
          omega
        subst hb1'
        refine H_seq ?_
        refine R0 ?_
        refine xV (e_mv (v := .int _ _) (q0 rfl)) rfl rfl ?_
        refine xV (e_as (v := .int _ _) (q0 rfl)) rfl rfl ?_
        refine XN ?_
        refine thenJ_normal ?_
        refine H_seq ?_
        refine R0 ?_
        refine xV (e_mv (v := .int _ _) (q0 rfl)) rfl rfl ?_
        refine xV (e_as (v := .int _ _) (q0 rfl)) rfl rfl ?_
        refine XN ?_
        refine thenJ_normal ?_
        refine H_seq ?_
        refine H_block ?_
        refine H_loop [14, 15, 16, 83, 84, 85, 86, 87, 88, 89, 90, 91, 92, 93, 94, 95, 96, 97, 98, 99, 100, 101, 102, 103, 104, 105, 106] (fun q : Nat × Nat => [(14, .int .i64 q.1), (15, .int .i64 q.2)]) (fun _ => rdRow (some ⟨rb, 0, none⟩) c xs :: L) (fun q => a ≤ q.1 ∧ q.1 ≤ q.2 ∧ q.2 ≤ m ∧ (∀ (p : Nat) x, a ≤ p → p < q.1 → xs[p]? = some x → kx x ≤ kx x1) ∧ (∀ (p : Nat) x, q.2 ≤ p → p < m → xs[p]? = some x → kx x1 ≤ kx x)) (fun q => q.2 - q.1) (a, m) ⟨rfl, rfl, trivial⟩ (fun w hw => hw) rfl ⟨Nat.le_refl _, by show a ≤ m; omega, Nat.le_refl _, fun p x p1 p2 => by simp only at p2; omega, fun p x p1 p2 => by simp only at p1; omega⟩ ?_
        rintro ⟨i, j⟩ g ⟨hi, hij, hj, hlo, hhi⟩
        simp only at hi hij hj hlo hhi
        refine H_seq ?_
        refine H_seq ?_
        refine R0 ?_
        refine xV (e_mv (v := .int _ _) (q0 rfl)) rfl rfl ?_
        refine xV (e_mv (v := .int _ _) (q0 rfl)) rfl rfl ?_
        refine xV (e_lt (q0 rfl) (q0 rfl)) rfl rfl ?_
        refine XN ?_
        refine thenJ_normal ?_
        refine H_cond rfl (fun hlt => ?_) (fun hlt => ?_)
        · have hlt' : i < j := by
            have h : (i : Int) < (j : Int) := of_decide_eq_true hlt
            omega
          obtain ⟨h, hh⟩ : ∃ h, h = (i + j) / 2 := ⟨_, rfl⟩
          obtain ⟨u, hu⟩ : ∃ u, xs[h]? = some u := ⟨_, List.getElem?_eq_getElem (by omega)⟩
          refine H_skip ?_
          refine thenJ_normal ?_
          refine H_block ?_
          refine H_seq ?_
          refine R0 ?_
          refine xV (e_mv (v := .int _ _) (q0 rfl)) rfl rfl ?_
          refine xV (e_mv (v := .int _ _) (q0 rfl)) rfl rfl ?_
          refine xV (e_add (r := ((i + j : Nat) : Int)) (q0 rfl) (q0 rfl) (fun _ => ⟨by first | omega | (simp only; omega), by first | omega | (simp only; omega), by first | omega | (simp only; omega)⟩)) rfl rfl ?_
          refine xV (e_cvtU (m := ((i + j : Nat) : Int)) Try.underlying3 Try.underlying131 (q0 rfl) (fun _ => ⟨by omega, by omega⟩)) rfl rfl ?_
          refine xV (e_shr1 (m := ((i + j : Nat) : Int)) (r := ((h : Nat) : Int)) (q0 rfl) (q0 rfl) (fun _ => by omega)) rfl rfl ?_
          refine xV (e_cvt (m := ((h : Nat) : Int)) Try.underlying131 Try.underlying3 (q0 rfl) (fun _ => ⟨by omega, by omega⟩)) rfl rfl ?_
          refine xV (e_as (v := .int _ _) (q0 rfl)) rfl rfl ?_
          refine XN ?_
          refine thenJ_normal ?_
          refine H_seq ?_
          refine R1 rfl (by decide +kernel) ?_
          refine xV (e_mv (q0 rfl)) rfl rfl ?_
          refine xV (e_mv (v := .slice _ _ _) (q0 rfl)) rfl rfl ?_
          refine xV (e_mv (v := .int _ _) (q0 rfl)) rfl rfl ?_
          refine xV (e_idx (m) Try.underlying32 Try.sizeOf27 (q0 rfl) (q0 rfl) (fun _ => ⟨by first | rfl | omega | (simp only; omega), by first | omega | (simp only; omega)⟩)) rfl rfl ?_
          refine xV (e_lds (vs := x1.cells) Try.isAgg27 Try.sizeOf27 (q0 rfl) (rrs 0 rfl hx1) rfl) rfl rfl ?_
          refine xV (e_mv (v := .slice _ _ _) (q0 rfl)) rfl rfl ?_
          refine xV (e_mv (v := .int _ _) (q0 rfl)) rfl rfl ?_
          refine xV (e_idx (h) Try.underlying32 Try.sizeOf27 (q0 rfl) (q0 rfl) (fun _ => ⟨by first | rfl | omega | (simp only; omega), by first | omega | (simp only; omega)⟩)) rfl rfl ?_
          refine xV (e_lds (vs := u.cells) Try.isAgg27 Try.sizeOf27 (q0 rfl) (rrs 0 rfl hu) rfl) rfl rfl ?_
          refine xC (enV (cap := []) (al := [.agg x1.cells.toArray, .agg u.cells.toArray]) Try.call43 (q0 rfl) (fun hg => by rw [ha2 (q0 (v := .agg _) rfl) (q0 (v := .agg _) rfl) hg]; rfl)) (fun _ w _ => cmpId_w x1 u w) rfl rfl ?_
          refine xV (e_lt (q0 rfl) (q0 rfl)) rfl rfl ?_
          refine xV (e_not (q0 rfl)) rfl rfl ?_
          refine XN ?_
          refine thenJ_normal ?_
          refine H_cond rfl (fun hc => ?_) (fun hc => ?_)
          · have hc' : kx u ≤ kx x1 := by
              rw [cmpI_lt] at hc
              simp only [Bool.not_eq_true', decide_eq_false_iff_not] at hc
              show u.r.id ≤ x1.r.id
              omega
            refine R0 ?_
            refine xV (e_mv (v := .int _ _) (q0 rfl)) rfl rfl ?_
            refine xV (e_add (q0 rfl) (q0 rfl) (fun _ => ⟨rfl, by omega, by omega⟩)) rfl rfl ?_
            refine xV (e_as (v := .int _ _) (q0 rfl)) rfl rfl ?_
            refine XN ?_
            refine blockJ_normal ?_
            exact loopJ_normal (h + 1, j) (by repeat (first | exact agree_self | exact agree_over | refine agree_upd rfl ?_ | refine agree_updL rfl ?_ | refine agree_over2 rfl ?_)) ⟨rfl, rfl, trivial⟩ (fun w hw => hw) rfl ⟨by show a ≤ h + 1; omega, by show h + 1 ≤ j; omega, hj, fun p x p1 p2 hx => by
              have := hA p h x u p1 (by simp only at p2; omega) (by omega) hx hu
              omega, hhi⟩ (by show j - (h + 1) < j - i; omega)
          · have hc' : kx x1 < kx u := by
              rw [cmpI_lt] at hc
              simp only [Bool.not_eq_false', decide_eq_true_eq] at hc
              exact hc
            refine R0 ?_
            refine xV (e_mv (v := .int _ _) (q0 rfl)) rfl rfl ?_
            refine xV (e_as (v := .int _ _) (q0 rfl)) rfl rfl ?_
            refine XN ?_
            refine blockJ_normal ?_
            exact loopJ_normal (i, h) (by repeat (first | exact agree_self | exact agree_over | refine agree_upd rfl ?_ | refine agree_updL rfl ?_ | refine agree_over2 rfl ?_)) ⟨rfl, rfl, trivial⟩ (fun w hw => hw) rfl ⟨hi, by show i ≤ h; omega, by show h ≤ m; omega, hlo, fun p x p1 p2 hx => by
              have := hA h p u x (by omega) p1 p2 hu hx
              omega⟩ (by show h - i < j - i; omega)
        · have hij' : j = i := by
            have h : ¬ (i : Int) < (j : Int) := of_decide_eq_false hlt
            omega
          subst hij'
          refine H_exit ?_
          refine thenJ_exit ?_
          refine loopJ_exit ?_
          refine blockJ_hit ?_
          refine thenJ_normal ?_
          refine H_seq ?_
          refine H_seq ?_
          refine R0 ?_
          refine xV (e_mv (v := .int _ _) (q0 rfl)) rfl rfl ?_
          refine xV (e_as (v := .int _ _) (q0 rfl)) rfl rfl ?_
          refine XN ?_
          refine thenJ_normal ?_
          refine H_block ?_
          refine H_loop [17, 108, 109, 110, 111, 112, 113, 114, 115, 116, 117, 118, 119, 120, 121, 122, 123, 124, 125, 126, 127, 128] (fun q : Nat × List RX => [(17, .int .i64 q.1)]) (fun q => rdRow (some ⟨rb, 0, none⟩) c q.2 :: L) (fun q => j ≤ q.1 ∧ q.1 ≤ m ∧ Seg xs q.2 a (m + 1) ∧ q.2[q.1]? = some x1 ∧ (∀ p, q.1 < p → p ≤ m → q.2[p]? = xs[p - 1]?) ∧ (∀ p, p < q.1 → q.2[p]? = xs[p]?)) (fun q => q.1) (m, xs) ⟨rfl, trivial⟩ (fun w hw => hw) rfl ⟨by show j ≤ m; omega, Nat.le_refl _, Seg.refl _ _ _, hx1, fun p p1 p2 => by simp only at p1; omega, fun _ _ => rfl⟩ ?_
          rintro ⟨k, zs⟩ g2 ⟨hk1, hk2, hG, hz0, hz1, hz2⟩
          simp only at hk1 hk2 hG hz0 hz1 hz2
          have hzl : zs.length = n := by rw [hG.len, hn]
          refine H_seq ?_
          refine H_seq ?_
          refine R0 ?_
          refine xV (e_mv (v := .int _ _) (q0 rfl)) rfl rfl ?_
          refine xV (e_mv (v := .int _ _) (q0 rfl)) rfl rfl ?_
          refine xV (e_gt (q0 rfl) (q0 rfl)) rfl rfl ?_
          refine XN ?_
          refine thenJ_normal ?_
          refine H_cond rfl (fun hlt2 => ?_) (fun hlt2 => ?_)
          · have hlt2' : j < k := by
              have h : (j : Int) < (k : Int) := of_decide_eq_true hlt2
              omega
            obtain ⟨q, rfl⟩ : ∃ q, k = q + 1 := ⟨k - 1, by omega⟩
            obtain ⟨y, hy⟩ : ∃ y, zs[q]? = some y := ⟨_, List.getElem?_eq_getElem (by omega)⟩
            have hx2 : (zs.set q x1)[q + 1]? = some x1 := by rw [List.getElem?_set_ne (by omega)]; exact hz0
            have hy2 : (zs.set (q + 1) y)[q]? = some y := by rw [List.getElem?_set_ne (by omega)]; exact hy
            have hg := two_get (i := q + 1) (j := q) (by omega) hz0 hy
            refine H_skip ?_
            refine thenJ_normal ?_
            refine H_seq ?_
            refine H_block ?_
            refine H_cut [113, 114, 115, 116, 117, 118, 119, 120, 121, 122, 123, 124, 125, 126, 127, 128] (fun _ : Unit => []) (fun _ => rdRow (some ⟨rb, 0, none⟩) c ((zs.set (q + 1) y).set q x1) :: L) (fun _ => True) ?_ ?_
            · refine RAd 1 rfl (by decide +kernel) ?_
              refine aV 0 (by decide +kernel) rfl (e_mv (v := .slice _ _ _) (q0 rfl)) rfl ?_
              refine aV 1 (by decide +kernel) rfl (e_mv (v := .int _ _) (q0 rfl)) rfl ?_
              refine aV 2 (by decide +kernel) rfl (e_mv (v := .slice _ _ _) (q0 rfl)) rfl ?_
              refine aV 3 (by decide +kernel) rfl (e_mv (v := .int _ _) (q0 rfl)) rfl ?_
              refine aV 4 (by decide +kernel) rfl (e_sub (r := ((q : Nat) : Int)) (q0 rfl) (q0 rfl) (fun _ => ⟨by first | omega | (simp only; omega), by first | omega | (simp only; omega), by first | omega | (simp only; omega)⟩)) rfl ?_
              refine aV 5 (by decide +kernel) rfl (e_mv (v := .slice _ _ _) (q0 rfl)) rfl ?_
              refine aV 6 (by decide +kernel) rfl (e_mv (v := .int _ _) (q0 rfl)) rfl ?_
              refine aV 7 (by decide +kernel) rfl (e_sub (r := ((q : Nat) : Int)) (q0 rfl) (q0 rfl) (fun _ => ⟨by first | omega | (simp only; omega), by first | omega | (simp only; omega), by first | omega | (simp only; omega)⟩)) rfl ?_
              refine aV 8 (by decide +kernel) rfl (e_idx (q) Try.underlying32 Try.sizeOf27 (q0 rfl) (q0 rfl) (fun _ => ⟨by first | rfl | omega | (simp only; omega), by first | omega | (simp only; omega)⟩)) rfl ?_
              refine aV 10 (by decide +kernel) rfl (e_mv (v := .slice _ _ _) (q0 rfl)) rfl ?_
              refine aV 11 (by decide +kernel) rfl (e_mv (v := .int _ _) (q0 rfl)) rfl ?_
              refine aV 12 (by decide +kernel) rfl (e_idx (q + 1) Try.underlying32 Try.sizeOf27 (q0 rfl) (q0 rfl) (fun _ => ⟨by first | rfl | omega | (simp only; omega), by first | omega | (simp only; omega)⟩)) rfl ?_
              refine rdy2 (i := 9) (j := 13) (by decide +kernel) (sub_drop 1) ?_ ?_
              · refine aL rfl (f_ev (e_lds (vs := y.cells) Try.isAgg27 Try.sizeOf27 (q0 rfl) (rrs 0 rfl hy) rfl) rfl rfl ?_)
                refine rdy1 (i := 13) (by decide +kernel) (sub_drop 1) ?_
                refine aL rfl (f_ev (e_lds (vs := x1.cells) Try.isAgg27 Try.sizeOf27 (q0 rfl) (rrs 0 rfl hz0) rfl) rfl rfl ?_)
                refine aV 14 (by decide +kernel) rfl (e_idx (q + 1) Try.underlying32 Try.sizeOf27 (q0 rfl) (q0 rfl) (fun _ => ⟨by first | rfl | omega | (simp only; omega), by first | omega | (simp only; omega)⟩)) rfl ?_
                refine rdy1 (i := 15) (by decide +kernel) (sub_drop 1) ?_
                refine aL rfl (f_storeR0 0 y rfl rfl Try.sizeOf27 rfl rfl rfl (by first | exact hz0 | exact hx2) rfl rfl ?_)
                refine aV 16 (by decide +kernel) rfl (e_idx (q) Try.underlying32 Try.sizeOf27 (q0 rfl) (q0 rfl) (fun _ => ⟨by first | rfl | omega | (simp only; omega), by first | omega | (simp only; omega)⟩)) rfl ?_
                refine rdy1 (i := 17) (by decide +kernel) (sub_drop 1) ?_
                refine aL rfl (f_storeR0 0 x1 rfl rfl Try.sizeOf27 rfl rfl rfl (by first | exact hy2 | exact hy) rfl rfl ?_)
                refine aZ (by decide +kernel) (sub_drop 1) ?_
                exact cutJ_normal () (by repeat (first | exact agree_self | exact agree_over | refine agree_upd rfl ?_ | refine agree_updL rfl ?_ | refine agree_over2 rfl ?_)) trivial (fun w hw => by first | exact hw | (rw [List.set_comm _ _ (by omega)]; exact hw)) rfl trivial
              · refine aL rfl (f_ev (e_lds (vs := x1.cells) Try.isAgg27 Try.sizeOf27 (q0 rfl) (rrs 0 rfl hz0) rfl) rfl rfl ?_)
                refine rdy1 (i := 9) (by decide +kernel) (sub_drop 1) ?_
                refine aL rfl (f_ev (e_lds (vs := y.cells) Try.isAgg27 Try.sizeOf27 (q0 rfl) (rrs 0 rfl hy) rfl) rfl rfl ?_)
                refine aV 14 (by decide +kernel) rfl (e_idx (q + 1) Try.underlying32 Try.sizeOf27 (q0 rfl) (q0 rfl) (fun _ => ⟨by first | rfl | omega | (simp only; omega), by first | omega | (simp only; omega)⟩)) rfl ?_
                refine rdy1 (i := 15) (by decide +kernel) (sub_drop 1) ?_
                refine aL rfl (f_storeR0 0 y rfl rfl Try.sizeOf27 rfl rfl rfl (by first | exact hz0 | exact hx2) rfl rfl ?_)
                refine aV 16 (by decide +kernel) rfl (e_idx (q) Try.underlying32 Try.sizeOf27 (q0 rfl) (q0 rfl) (fun _ => ⟨by first | rfl | omega | (simp only; omega), by first | omega | (simp only; omega)⟩)) rfl ?_
                refine rdy1 (i := 17) (by decide +kernel) (sub_drop 1) ?_
                refine aL rfl (f_storeR0 0 x1 rfl rfl Try.sizeOf27 rfl rfl rfl (by first | exact hy2 | exact hy) rfl rfl ?_)
                refine aZ (by decide +kernel) (sub_drop 1) ?_
                exact cutJ_normal () (by repeat (first | exact agree_self | exact agree_over | refine agree_upd rfl ?_ | refine agree_updL rfl ?_ | refine agree_over2 rfl ?_)) trivial (fun w hw => by first | exact hw | (rw [List.set_comm _ _ (by omega)]; exact hw)) rfl trivial
            · intro _ g5 _
              refine blockJ_normal ?_
              refine thenJ_normal ?_
              refine R0 ?_
              refine xV (e_mv (v := .int _ _) (q0 rfl)) rfl rfl ?_
              refine xV (e_sub (r := ((q : Nat) : Int)) (q0 rfl) (q0 rfl) (fun _ => ⟨by first | omega | (simp only; omega), by first | omega | (simp only; omega), by first | omega | (simp only; omega)⟩)) rfl rfl ?_
              refine xV (e_as (v := .int _ _) (q0 rfl)) rfl rfl ?_
              refine XN ?_
              exact loopJ_normal (q, (zs.set (q + 1) y).set q x1) (by repeat (first | exact agree_self | exact agree_over | refine agree_upd rfl ?_ | refine agree_updL rfl ?_ | refine agree_over2 rfl ?_)) ⟨rfl, trivial⟩ (fun w hw => hw) rfl ⟨by show j ≤ q; omega, by show q ≤ m; omega, hG.trans (Seg.two (by omega) hz0 hy (by omega) (by omega)), by show ((zs.set (q + 1) y).set q x1)[q]? = some x1; rw [hg, if_pos rfl], fun p p1 p2 => by
                show ((zs.set (q + 1) y).set q x1)[p]? = xs[p - 1]?
                simp only at p1
                rw [hg, if_neg (by omega)]
                by_cases e : p = q + 1
                · rw [if_pos e, e, ← hy, hz2 q (by omega), Nat.add_sub_cancel]
                · rw [if_neg e]; exact hz1 p (by omega) p2, fun p p1 => by
                show ((zs.set (q + 1) y).set q x1)[p]? = xs[p]?
                simp only at p1
                rw [hg, if_neg (by omega), if_neg (by omega)]
                exact hz2 p (by omega)⟩ (by show q < q + 1; omega)
          · have hend : k = j := by
              have h : ¬ (j : Int) < (k : Int) := of_decide_eq_false hlt2
              omega
            subst hend
            refine H_exit ?_
            refine thenJ_exit ?_
            refine loopJ_exit ?_
            refine blockJ_hit ?_
            refine thenJ_normal ?_
            refine H_ret ?_
            refine thenJ_ret ?_
            exact ret0 rfl hmk fun w' hw => ⟨⟨zs, hG, move_left hA hi hj hlo hhi hz0 hz1 hz2⟩, rfl, hw⟩
      · have hb1' : ¬ b - m = 1 := fun h => by
          have h2 : ¬ ((b - m : Nat) : Int) = 1 := of_decide_eq_false hb1
          omega
        obtain ⟨mid, hmid⟩ : ∃ mid, mid = (a + b) / 2 := ⟨_, rfl⟩
        refine H_skip ?_
        refine thenJ_normal ?_
        refine H_seq ?_
        refine R0 ?_
        refine xV (e_mv (v := .int _ _) (q0 rfl)) rfl rfl ?_
        refine xV (e_mv (v := .int _ _) (q0 rfl)) rfl rfl ?_
        refine xV (e_add (r := ((a + b : Nat) : Int)) (q0 rfl) (q0 rfl) (fun _ => ⟨by first | omega | (simp only; omega), by first | omega | (simp only; omega), by first | omega | (simp only; omega)⟩)) rfl rfl ?_
        refine xV (e_cvtU (m := ((a + b : Nat) : Int)) Try.underlying3 Try.underlying131 (q0 rfl) (fun _ => ⟨by omega, by omega⟩)) rfl rfl ?_
        refine xV (e_shr1 (m := ((a + b : Nat) : Int)) (r := ((mid : Nat) : Int)) (q0 rfl) (q0 rfl) (fun _ => by omega)) rfl rfl ?_
        refine xV (e_cvt (m := ((mid : Nat) : Int)) Try.underlying131 Try.underlying3 (q0 rfl) (fun _ => ⟨by omega, by omega⟩)) rfl rfl ?_
        refine xV (e_as (v := .int _ _) (q0 rfl)) rfl rfl ?_
        refine XN ?_
        refine thenJ_normal ?_
        refine H_seq ?_
        refine R0 ?_
        refine xV (e_mv (v := .int _ _) (q0 rfl)) rfl rfl ?_
        refine xV (e_mv (v := .int _ _) (q0 rfl)) rfl rfl ?_
        refine xV (e_add (r := ((mid + m : Nat) : Int)) (q0 rfl) (q0 rfl) (fun _ => ⟨by first | omega | (simp only; omega), by first | omega | (simp only; omega), by first | omega | (simp only; omega)⟩)) rfl rfl ?_
        refine xV (e_as (v := .int _ _) (q0 rfl)) rfl rfl ?_
        refine XN ?_
        refine thenJ_normal ?_
        refine H_seq ?_
        refine R0 ?_
        refine xV (e_as (v := .int _ _) (q0 rfl)) rfl rfl ?_
        refine xV (e_as (v := .int _ _) (q0 rfl)) rfl rfl ?_
        refine XN ?_
        refine thenJ_normal ?_
        refine H_seq ?_
        refine H_seq ?_
        refine R0 ?_
        refine xV (e_mv (v := .int _ _) (q0 rfl)) rfl rfl ?_
        refine xV (e_mv (v := .int _ _) (q0 rfl)) rfl rfl ?_
        refine xV (e_gt (q0 rfl) (q0 rfl)) rfl rfl ?_
        refine XN ?_
        refine thenJ_normal ?_
        refine H_cut [20, 21, 141, 142, 143, 144, 145, 146] (fun q : Nat × Nat => [(20, .int .i64 q.1), (21, .int .i64 q.2)]) (fun _ => rdRow (some ⟨rb, 0, none⟩) c xs :: L) (fun q => SymAt a m b mid q.1 q.2) ?_ ?_
        · have _ht : True := trivial
          refine H_cond rfl (fun hgt => ?_) (fun hgt => ?_)
          · have hgt' : mid < m := by
              have h : (mid : Int) < (m : Int) := of_decide_eq_true hgt
              omega
            refine H_seq ?_
            refine R0 ?_
            refine xV (e_mv (v := .int _ _) (q0 rfl)) rfl rfl ?_
            refine xV (e_mv (v := .int _ _) (q0 rfl)) rfl rfl ?_
            refine xV (e_sub (r := ((mid + m - b : Nat) : Int)) (q0 rfl) (q0 rfl) (fun _ => ⟨by first | omega | (simp only; omega), by first | omega | (simp only; omega), by first | omega | (simp only; omega)⟩)) rfl rfl ?_
            refine xV (e_as (v := .int _ _) (q0 rfl)) rfl rfl ?_
            refine XN ?_
            refine thenJ_normal ?_
            refine R0 ?_
            refine xV (e_mv (v := .int _ _) (q0 rfl)) rfl rfl ?_
            refine xV (e_as (v := .int _ _) (q0 rfl)) rfl rfl ?_
            refine XN ?_
            exact cutJ_normal (mid + m - b, mid) (by repeat (first | exact agree_self | exact agree_over | refine agree_upd rfl ?_ | refine agree_updL rfl ?_ | refine agree_over2 rfl ?_)) ⟨rfl, rfl, trivial⟩ (fun w hw => hw) rfl (.inl ⟨hgt', rfl, rfl⟩)
          · have hgt' : m ≤ mid := by
              have h : ¬ (mid : Int) < (m : Int) := of_decide_eq_false hgt
              omega
            refine H_seq ?_
            refine R0 ?_
            refine xV (e_mv (v := .int _ _) (q0 rfl)) rfl rfl ?_
            refine xV (e_as (v := .int _ _) (q0 rfl)) rfl rfl ?_
            refine XN ?_
            refine thenJ_normal ?_
            refine R0 ?_
            refine xV (e_mv (v := .int _ _) (q0 rfl)) rfl rfl ?_
            refine xV (e_as (v := .int _ _) (q0 rfl)) rfl rfl ?_
            refine XN ?_
            exact cutJ_normal (a, m) (by repeat (first | exact agree_self | exact agree_over | refine agree_upd rfl ?_ | refine agree_updL rfl ?_ | refine agree_over2 rfl ?_)) ⟨rfl, rfl, trivial⟩ (fun w hw => hw) rfl (.inr ⟨hgt', rfl, rfl⟩)
        · rintro ⟨s0, r0⟩ g hS
          simp only at hS
          obtain ⟨hsr, hin⟩ := hS.in_ hmid h1 h2
          refine thenJ_normal ?_
          refine H_seq ?_
          refine R0 ?_
          refine xV (e_mv (v := .int _ _) (q0 rfl)) rfl rfl ?_
          refine xV (e_sub (r := ((mid + m - 1 : Nat) : Int)) (q0 rfl) (q0 rfl) (fun _ => ⟨by first | omega | (simp only; omega), by first | omega | (simp only; omega), by first | omega | (simp only; omega)⟩)) rfl rfl ?_
          refine xV (e_as (v := .int _ _) (q0 rfl)) rfl rfl ?_
          refine XN ?_
          refine thenJ_normal ?_
          refine H_seq ?_
          refine H_block ?_
          refine H_loop [20, 21, 23, 149, 150, 151, 152, 153, 154, 155, 156, 157, 158, 159, 160, 161, 162, 163, 164, 165, 166, 167, 168, 169, 170, 171, 172, 173, 174] (fun q : Nat × Nat => [(20, .int .i64 q.1), (21, .int .i64 q.2)]) (fun _ => rdRow (some ⟨rb, 0, none⟩) c xs :: L) (fun q => s0 ≤ q.1 ∧ q.1 ≤ q.2 ∧ q.2 ≤ r0 ∧ (∀ (d : Nat) x y, s0 ≤ d → d < q.1 → xs[d]? = some x → xs[mid + m - 1 - d]? = some y → kx x ≤ kx y) ∧ (∀ (d : Nat) x y, q.2 ≤ d → d < r0 → xs[d]? = some x → xs[mid + m - 1 - d]? = some y → kx y ≤ kx x)) (fun q => q.2 - q.1) (s0, r0) ⟨rfl, rfl, trivial⟩ (fun w hw => hw) rfl ⟨Nat.le_refl _, hsr, Nat.le_refl _, fun d x y d1 d2 => by simp only at d2; omega, fun d x y d1 d2 => by simp only at d1; omega⟩ ?_
          rintro ⟨s, r⟩ g2 ⟨hs0, hsr2, hr0, hlo, hhi⟩
          simp only at hs0 hsr2 hr0 hlo hhi
          refine H_seq ?_
          refine H_seq ?_
          refine R0 ?_
          refine xV (e_mv (v := .int _ _) (q0 rfl)) rfl rfl ?_
          refine xV (e_mv (v := .int _ _) (q0 rfl)) rfl rfl ?_
          refine xV (e_lt (q0 rfl) (q0 rfl)) rfl rfl ?_
          refine XN ?_
          refine thenJ_normal ?_
          refine H_cond rfl (fun hlt => ?_) (fun hlt => ?_)
          · have hlt' : s < r := by
              have h : (s : Int) < (r : Int) := of_decide_eq_true hlt
              omega
            obtain ⟨h, hh⟩ : ∃ h, h = (s + r) / 2 := ⟨_, rfl⟩
            have hih := hin h (by omega) (by omega)
            have hr1 : r ≤ 100000 := by have := hin (r - 1) (by omega) (by omega); omega
            obtain ⟨u, hu⟩ : ∃ u, xs[h]? = some u := ⟨_, List.getElem?_eq_getElem (by omega)⟩
            obtain ⟨v, hv⟩ : ∃ v, xs[mid + m - 1 - h]? = some v := ⟨_, List.getElem?_eq_getElem (by omega)⟩
            refine H_skip ?_
            refine thenJ_normal ?_
            refine H_block ?_
            refine H_seq ?_
            refine R0 ?_
            refine xV (e_mv (v := .int _ _) (q0 rfl)) rfl rfl ?_
            refine xV (e_mv (v := .int _ _) (q0 rfl)) rfl rfl ?_
            refine xV (e_add (r := ((s + r : Nat) : Int)) (q0 rfl) (q0 rfl) (fun _ => ⟨by first | omega | (simp only; omega), by first | omega | (simp only; omega), by first | omega | (simp only; omega)⟩)) rfl rfl ?_
            refine xV (e_cvtU (m := ((s + r : Nat) : Int)) Try.underlying3 Try.underlying131 (q0 rfl) (fun _ => ⟨by omega, by omega⟩)) rfl rfl ?_
            refine xV (e_shr1 (m := ((s + r : Nat) : Int)) (r := ((h : Nat) : Int)) (q0 rfl) (q0 rfl) (fun _ => by omega)) rfl rfl ?_
            refine xV (e_cvt (m := ((h : Nat) : Int)) Try.underlying131 Try.underlying3 (q0 rfl) (fun _ => ⟨by omega, by omega⟩)) rfl rfl ?_
            refine xV (e_as (v := .int _ _) (q0 rfl)) rfl rfl ?_
            refine XN ?_
            refine thenJ_normal ?_
            refine H_seq ?_
            refine R1 rfl (by decide +kernel) ?_
            refine xV (e_mv (q0 rfl)) rfl rfl ?_
            refine xV (e_mv (v := .slice _ _ _) (q0 rfl)) rfl rfl ?_
            refine xV (e_mv (v := .int _ _) (q0 rfl)) rfl rfl ?_
            refine xV (e_mv (v := .int _ _) (q0 rfl)) rfl rfl ?_
            refine xV (e_sub (r := ((mid + m - 1 - h : Nat) : Int)) (q0 rfl) (q0 rfl) (fun _ => ⟨by first | omega | (simp only; omega), by first | omega | (simp only; omega), by first | omega | (simp only; omega)⟩)) rfl rfl ?_
            refine xV (e_idx (mid + m - 1 - h) Try.underlying32 Try.sizeOf27 (q0 rfl) (q0 rfl) (fun _ => ⟨by first | rfl | omega | (simp only; omega), by first | omega | (simp only; omega)⟩)) rfl rfl ?_
            refine xV (e_lds (vs := v.cells) Try.isAgg27 Try.sizeOf27 (q0 rfl) (rrs 0 rfl hv) rfl) rfl rfl ?_
            refine xV (e_mv (v := .slice _ _ _) (q0 rfl)) rfl rfl ?_
            refine xV (e_mv (v := .int _ _) (q0 rfl)) rfl rfl ?_
            refine xV (e_idx (h) Try.underlying32 Try.sizeOf27 (q0 rfl) (q0 rfl) (fun _ => ⟨by first | rfl | omega | (simp only; omega), by first | omega | (simp only; omega)⟩)) rfl rfl ?_
            refine xV (e_lds (vs := u.cells) Try.isAgg27 Try.sizeOf27 (q0 rfl) (rrs 0 rfl hu) rfl) rfl rfl ?_
            refine xC (enV (cap := []) (al := [.agg v.cells.toArray, .agg u.cells.toArray]) Try.call43 (q0 rfl) (fun hg => by rw [ha2 (q0 (v := .agg _) rfl) (q0 (v := .agg _) rfl) hg]; rfl)) (fun _ w _ => cmpId_w v u w) rfl rfl ?_
            refine xV (e_lt (q0 rfl) (q0 rfl)) rfl rfl ?_
            refine xV (e_not (q0 rfl)) rfl rfl ?_
            refine XN ?_
            refine thenJ_normal ?_
            refine H_cond rfl (fun hc => ?_) (fun hc => ?_)
            · have hc' : kx u ≤ kx v := by
                rw [cmpI_lt] at hc
                simp only [Bool.not_eq_true', decide_eq_false_iff_not] at hc
                show u.r.id ≤ v.r.id
                omega
              refine R0 ?_
              refine xV (e_mv (v := .int _ _) (q0 rfl)) rfl rfl ?_
              refine xV (e_add (q0 rfl) (q0 rfl) (fun _ => ⟨rfl, by omega, by omega⟩)) rfl rfl ?_
              refine xV (e_as (v := .int _ _) (q0 rfl)) rfl rfl ?_
              refine XN ?_
              refine blockJ_normal ?_
              exact loopJ_normal (h + 1, r) (by repeat (first | exact agree_self | exact agree_over | refine agree_upd rfl ?_ | refine agree_updL rfl ?_ | refine agree_over2 rfl ?_)) ⟨rfl, rfl, trivial⟩ (fun w hw => hw) rfl ⟨by show s0 ≤ h + 1; omega, by show h + 1 ≤ r; omega, hr0, look_up hA hB hin (by omega) (by omega) hu hv hc', hhi⟩ (by show r - (h + 1) < r - s; omega)
            · have hc' : kx v ≤ kx u := by
                rw [cmpI_lt] at hc
                simp only [Bool.not_eq_false', decide_eq_true_eq] at hc
                show v.r.id ≤ u.r.id
                omega
              refine R0 ?_
              refine xV (e_mv (v := .int _ _) (q0 rfl)) rfl rfl ?_
              refine xV (e_as (v := .int _ _) (q0 rfl)) rfl rfl ?_
              refine XN ?_
              refine blockJ_normal ?_
              exact loopJ_normal (s, h) (by repeat (first | exact agree_self | exact agree_over | refine agree_upd rfl ?_ | refine agree_updL rfl ?_ | refine agree_over2 rfl ?_)) ⟨rfl, rfl, trivial⟩ (fun w hw => hw) rfl ⟨hs0, by show s ≤ h; omega, by show h ≤ r0; omega, hlo, look_down hA hB hin (by omega) hu hv hc'⟩ (by show h - s < r - s; omega)
          · have hsr' : r = s := by
              have h : ¬ (s : Int) < (r : Int) := of_decide_eq_false hlt
              omega
            subst hsr'
            obtain ⟨e1, e2, e3, e4, e5, hBA, hAB⟩ := cross hS hmid h1 h2 (by omega) hA hB hs0 hr0 hlo hhi
            obtain ⟨e, he⟩ : ∃ e, e = mid + m - r := ⟨_, rfl⟩
            rw [← he] at e3 e4 e5 hBA hAB
            refine H_exit ?_
            refine thenJ_exit ?_
            refine loopJ_exit ?_
            refine blockJ_hit ?_
            refine thenJ_normal ?_
            refine H_seq ?_
            refine R0 ?_
            refine xV (e_mv (v := .int _ _) (q0 rfl)) rfl rfl ?_
            refine xV (e_mv (v := .int _ _) (q0 rfl)) rfl rfl ?_
            refine xV (e_sub (r := ((e : Nat) : Int)) (q0 rfl) (q0 rfl) (fun _ => ⟨by first | omega | (simp only; omega), by first | omega | (simp only; omega), by first | omega | (simp only; omega)⟩)) rfl rfl ?_
            refine xV (e_as (v := .int _ _) (q0 rfl)) rfl rfl ?_
            refine XN ?_
            refine thenJ_normal ?_
            refine H_seq ?_
            refine H_seq ?_
            refine R0 ?_
            refine xV (e_mv (v := .int _ _) (q0 rfl)) rfl rfl ?_
            refine xV (e_mv (v := .int _ _) (q0 rfl)) rfl rfl ?_
            refine xV (e_lt (q0 rfl) (q0 rfl)) rfl rfl ?_
            refine xV (e_mv (v := .bool _) (q0 rfl)) rfl rfl ?_
            refine xVT (e_mv (v := .int _ _) (q0 rfl)) rfl rfl rfl rfl ?_
            refine xVT (e_mv (v := .int _ _) (q0 rfl)) rfl rfl rfl rfl ?_
            refine xVT (e_lt (q1 rfl) (q1 rfl)) rfl rfl rfl rfl ?_
            refine xV (e_and (q0 rfl) rfl (fun h => by first | rfl | (rw [h]; rfl))) rfl rfl ?_
            refine XN ?_
            refine thenJ_normal ?_
            refine H_cut [186, 187, 188, 189, 190, 191] (fun _ : List RX => []) (fun ys => rdRow (some ⟨rb, 0, none⟩) c ys :: L) (fun ys => Rot xs ys r m e ∧ Seg xs ys a b) ?_ ?_
            · have _ht : True := trivial
              refine H_cond rfl (fun hrot => ?_) (fun hrot => ?_)
              · have hrot' : r < m ∧ m < e := by
                  have h : (decide ((r : Int) < (m : Int)) && decide ((m : Int) < (e : Int))) = true := hrot
                  simp at h
                  omega
                refine R0 ?_
                refine xV (e_mv (v := .slice _ _ _) (q0 rfl)) rfl rfl ?_
                refine xV (e_mv (v := .int _ _) (q0 rfl)) rfl rfl ?_
                refine xV (e_mv (v := .int _ _) (q0 rfl)) rfl rfl ?_
                refine xV (e_mv (v := .int _ _) (q0 rfl)) rfl rfl ?_
                refine xV (e_mv (q0 rfl)) rfl rfl ?_
                refine X_eff (f_callM (en Try.call89 (fun _ => rfl)) (fun w hw => rot_w r m e hw hmk hn hrot'.1 hrot'.2 (by omega) hl) rfl (fun _ => rfl) fun u => ?_)
                obtain ⟨ys, hR, hG⟩ := u
                refine XN ?_
                exact cutJ_normal ys (by repeat (first | exact agree_self | exact agree_over | refine agree_upd rfl ?_ | refine agree_updL rfl ?_ | refine agree_over2 rfl ?_)) trivial (fun w hw => hw) rfl ⟨hR, hG.mono (by omega) (by omega)⟩
              · have hrot' : ¬ (r < m ∧ m < e) := by
                  have h : (decide ((r : Int) < (m : Int)) && decide ((m : Int) < (e : Int))) = false := hrot
                  simp at h
                  omega
                refine H_skip ?_
                exact cutJ_normal xs (by repeat (first | exact agree_self | exact agree_over | refine agree_upd rfl ?_ | refine agree_updL rfl ?_ | refine agree_over2 rfl ?_)) trivial (fun w hw => hw) rfl ⟨Rot.triv e2 e3 (by omega), Seg.refl _ _ _⟩
            · rintro ys g3 ⟨hR, hG⟩
              obtain ⟨p1, p2, p3, p4, plow⟩ := rot_parts hR hA hB e1 e2 e3 e4 hBA hAB
              rw [e5] at p2 p3 plow
              have hyl : ys.length = n := by rw [hG.len, hn]
              refine thenJ_normal ?_
              refine H_seq ?_
              refine H_seq ?_
              refine R0 ?_
              refine xV (e_mv (v := .int _ _) (q0 rfl)) rfl rfl ?_
              refine xV (e_mv (v := .int _ _) (q0 rfl)) rfl rfl ?_
              refine xV (e_lt (q0 rfl) (q0 rfl)) rfl rfl ?_
              refine xV (e_mv (v := .bool _) (q0 rfl)) rfl rfl ?_
              refine xVT (e_mv (v := .int _ _) (q0 rfl)) rfl rfl rfl rfl ?_
              refine xVT (e_mv (v := .int _ _) (q0 rfl)) rfl rfl rfl rfl ?_
              refine xVT (e_lt (q1 rfl) (q1 rfl)) rfl rfl rfl rfl ?_
              refine xV (e_and (q0 rfl) rfl (fun h => by first | rfl | (rw [h]; rfl))) rfl rfl ?_
              refine XN ?_
              refine thenJ_normal ?_
              refine H_cut [200, 201, 202, 203, 204, 205] (fun _ : List RX => []) (fun zs => rdRow (some ⟨rb, 0, none⟩) c zs :: L) (fun zs => Seg ys zs a mid ∧ Asc kx zs a mid) ?_ ?_
              · have _ht : True := trivial
                refine H_cond rfl (fun hl1 => ?_) (fun hl1 => ?_)
                · have hl1' : a < r ∧ r < mid := by
                    have h : (decide ((a : Int) < (r : Int)) && decide ((r : Int) < (mid : Int))) = true := hl1
                    simp at h
                    omega
                  refine R0 ?_
                  refine xV (e_mv (v := .slice _ _ _) (q0 rfl)) rfl rfl ?_
                  refine xV (e_mv (v := .int _ _) (q0 rfl)) rfl rfl ?_
                  refine xV (e_mv (v := .int _ _) (q0 rfl)) rfl rfl ?_
                  refine xV (e_mv (v := .int _ _) (q0 rfl)) rfl rfl ?_
                  refine xV (e_mv (q0 rfl)) rfl rfl ?_
                  refine X_eff (f_callM (en Try.call78 (fun _ => rfl)) (fun w hw => ih a r mid hw hmk (by omega) hl1'.1 hl1'.2 (by omega) hyl hl p1 p2) rfl (fun _ => rfl) fun u => ?_)
                  obtain ⟨zs, hM⟩ := u
                  refine XN ?_
                  exact cutJ_normal zs (by repeat (first | exact agree_self | exact agree_over | refine agree_upd rfl ?_ | refine agree_updL rfl ?_ | refine agree_over2 rfl ?_)) trivial (fun w hw => hw) rfl ⟨hM.seg, hM.asc⟩
                · have hl1' : ¬ (a < r ∧ r < mid) := by
                    have h : (decide ((a : Int) < (r : Int)) && decide ((r : Int) < (mid : Int))) = false := hl1
                    simp at h
                    omega
                  have hasc : Asc kx ys a mid := by
                    by_cases h : a < r
                    · exact p1.sub (Nat.le_refl _) (by omega)
                    · exact p2.sub (by omega) (Nat.le_refl _)
                  refine H_skip ?_
                  exact cutJ_normal ys (by repeat (first | exact agree_self | exact agree_over | refine agree_upd rfl ?_ | refine agree_updL rfl ?_ | refine agree_over2 rfl ?_)) trivial (fun w hw => hw) rfl ⟨Seg.refl _ _ _, hasc⟩
              · rintro zs g4 ⟨hG2, hzs⟩
                have hzl : zs.length = n := by rw [hG2.len, hyl]
                have p3' : Asc kx zs mid e := fun p q x y q1 q2 q3 hx hy => by
                  rw [hG2.out p (by omega)] at hx
                  rw [hG2.out q (by omega)] at hy
                  exact p3 p q x y q1 q2 q3 hx hy
                have p4' : Asc kx zs e b := fun p q x y q1 q2 q3 hx hy => by
                  rw [hG2.out p (by omega)] at hx
                  rw [hG2.out q (by omega)] at hy
                  exact p4 p q x y q1 q2 q3 hx hy
                refine thenJ_normal ?_
                refine H_seq ?_
                refine R0 ?_
                refine xV (e_mv (v := .int _ _) (q0 rfl)) rfl rfl ?_
                refine xV (e_mv (v := .int _ _) (q0 rfl)) rfl rfl ?_
                refine xV (e_lt (q0 rfl) (q0 rfl)) rfl rfl ?_
                refine xV (e_mv (v := .bool _) (q0 rfl)) rfl rfl ?_
                refine xVT (e_mv (v := .int _ _) (q0 rfl)) rfl rfl rfl rfl ?_
                refine xVT (e_mv (v := .int _ _) (q0 rfl)) rfl rfl rfl rfl ?_
                refine xVT (e_lt (q1 rfl) (q1 rfl)) rfl rfl rfl rfl ?_
                refine xV (e_and (q0 rfl) rfl (fun h => by first | rfl | (rw [h]; rfl))) rfl rfl ?_
                refine XN ?_
                refine thenJ_normal ?_
                refine H_cond rfl (fun hr1 => ?_) (fun hr1 => ?_)
                · have hr1' : mid < e ∧ e < b := by
                    have h : (decide ((mid : Int) < (e : Int)) && decide ((e : Int) < (b : Int))) = true := hr1
                    simp at h
                    omega
                  refine R0 ?_
                  refine xV (e_mv (v := .slice _ _ _) (q0 rfl)) rfl rfl ?_
                  refine xV (e_mv (v := .int _ _) (q0 rfl)) rfl rfl ?_
                  refine xV (e_mv (v := .int _ _) (q0 rfl)) rfl rfl ?_
                  refine xV (e_mv (v := .int _ _) (q0 rfl)) rfl rfl ?_
                  refine xV (e_mv (q0 rfl)) rfl rfl ?_
                  refine X_eff (f_callM (en Try.call78 (fun _ => rfl)) (fun w hw => ih mid e b hw hmk (by omega) hr1'.1 hr1'.2 hb hzl hl p3' p4') rfl (fun _ => rfl) fun u => ?_)
                  obtain ⟨ws, hM⟩ := u
                  refine XN ?_
                  exact end0 rfl hmk fun w' hw => ⟨⟨ws, (hG.trans (hG2.mono (Nat.le_refl _) (by omega))).trans (hM.seg.mono (by omega) (Nat.le_refl _)), sides hG2 hzs hM.seg hM.asc plow (by omega) (by omega)⟩, rfl, hw⟩
                · have hr1' : ¬ (mid < e ∧ e < b) := by
                    have h : (decide ((mid : Int) < (e : Int)) && decide ((e : Int) < (b : Int))) = false := hr1
                    simp at h
                    omega
                  have hasc : Asc kx zs mid b := by
                    by_cases h : mid < e
                    · exact p3'.sub (Nat.le_refl _) (by omega)
                    · exact p4'.sub (by omega) (Nat.le_refl _)
                  refine H_skip ?_
                  exact end0 rfl hmk fun w' hw => ⟨⟨zs, hG.trans (hG2.mono (Nat.le_refl _) (by omega)), sides hG2 hzs (Seg.refl _ _ _) hasc plow (by omega) (by omega)⟩, rfl, hw⟩

end Go.Proofs.Rid

/-
  The walks: rides sorted by their number, in place, at most forty.
-/
namespace Go.Proofs.Rid
open Go Go.RowKit Go.Proofs.E Go.Proofs.Cus

theorem asc_of {xs : List RX} {a b : Nat} (h : SortedOn xlt xs a b) : Asc kx xs a b := fun p q x y p1 p2 p3 hx hy => by
  by_cases e : p = q
  · subst e
    rw [hx] at hy; cases hy
    exact Int.le_refl _
  · have := h p q x y p1 (by omega) p3 hx hy
    unfold xlt idLt at this
    simp at this
    exact this
theorem of_asc {xs : List RX} {a b : Nat} (h : Asc kx xs a b) : SortedOn xlt xs a b := fun p q x y p1 p2 p3 hx hy => by
  have := h p q x y p1 (by omega) p3 hx hy
  unfold xlt idLt
  simp
  exact this
theorem Asc.same {xs ys : List RX} {a b : Nat} (h : Asc kx xs a b) (e : ∀ p, a ≤ p → p < b → ys[p]? = xs[p]?) : Asc kx ys a b := fun p q x y p1 p2 p3 hx hy => by
  rw [e p p1 (by omega)] at hx
  rw [e q (by omega) p3] at hy
  exact h p q x y p1 p2 p3 hx hy
section
variable {w0 w : World} {L : List E.Item}
set_option maxHeartbeats 4000000 in
set_option maxRecDepth 20000 in
theorem stable40_w {A : Option Addr} {c n : Nat} {xs : List RX} (hw : Mem w0 (rdRow A c xs :: L) w) (hmk : marks L = []) (hn : xs.length = n) (hl : n ≤ 40) :
    Calls Try.prog 60 #[.slice A n c, .int .i64 n, .func (.func 43) #[] #[]] w fun e w' => ∃ ys : { ys : List RX // ys.Perm xs ∧ Asc kx ys 0 n }, e = .returned (.tuple #[]) ∧ Mem w0 (rdRow A c ys.1 :: L) w' := by
  refine H_enterM hw hmk Try.func60 rfl Try.ntmps60 rfl ?_
  refine H_seq ?_
  refine R0 ?_
  refine xV (e_as (v := .int _ _) (q0 rfl)) rfl rfl ?_
  refine XN ?_
  refine thenJ_normal ?_
  refine H_seq ?_
  refine R0 ?_
  refine xV (e_mv (v := .int _ _) (q0 rfl)) rfl rfl ?_
  refine xV (e_as (v := .int _ _) (q0 rfl)) rfl rfl ?_
  refine xV (e_as (v := .int _ _) (q0 rfl)) rfl rfl ?_
  refine XN ?_
  refine thenJ_normal ?_
  refine H_seq ?_
  refine H_block ?_
  refine H_loop [7, 8, 11, 12, 13, 14, 15, 16, 17, 18, 19, 20, 21, 22] (fun q : Nat × List RX => [(7, .int .i64 ((20 * q.1 : Nat) : Int)), (8, .int .i64 ((20 * q.1 + 20 : Nat) : Int))]) (fun q => rdRow A c q.2 :: L) (fun q => 20 * q.1 ≤ n ∧ q.2.Perm xs ∧ (1 ≤ q.1 → Asc kx q.2 0 20) ∧ (2 ≤ q.1 → Asc kx q.2 20 40)) (fun q => 3 - q.1) (0, xs) ⟨rfl, rfl, trivial⟩ (fun w hw => hw) rfl ⟨by show 20 * 0 ≤ n; omega, List.Perm.refl _, fun h => by simp at h, fun h => by simp at h⟩ ?_
  rintro ⟨q, ys⟩ g ⟨hq, hp, hd1, hd2⟩
  simp only at hq hp hd1 hd2
  have hyl : ys.length = n := by rw [hp.length_eq, hn]
  have hins := fun (a b : Nat) (w : World) (hw : Mem w0 (rdRow A c ys :: L) w) (hb : b ≤ n) (ha : a ≤ 100000) => by
    have h := ins_w (xs := ys) a b hw hmk (by omega) (by omega) ha
    rw [hyl] at h
    exact h
  refine H_seq ?_
  refine H_seq ?_
  refine R0 ?_
  refine xV (e_mv (v := .int _ _) (q0 rfl)) rfl rfl ?_
  refine xV (e_mv (v := .int _ _) (q0 rfl)) rfl rfl ?_
  refine xV (e_le (q0 rfl) (q0 rfl)) rfl rfl ?_
  refine XN ?_
  refine thenJ_normal ?_
  refine H_cond rfl (fun hle => ?_) (fun hle => ?_)
  · have hle' : 20 * q + 20 ≤ n := by
      have h : ((20 * q + 20 : Nat) : Int) ≤ (n : Int) := of_decide_eq_true hle
      omega
    refine H_skip ?_
    refine thenJ_normal ?_
    refine H_block ?_
    refine H_seq ?_
    refine R0 ?_
    refine xV (e_mv (v := .slice _ _ _) (q0 rfl)) rfl rfl ?_
    refine xV (e_mv (v := .int _ _) (q0 rfl)) rfl rfl ?_
    refine xV (e_mv (v := .int _ _) (q0 rfl)) rfl rfl ?_
    refine xV (e_mv (q0 rfl)) rfl rfl ?_
    refine X_eff (f_callM (en Try.call77 (ha4 (q0 rfl) (q0 rfl) (q0 rfl) (q0 rfl))) (fun w hw => hins (20 * q) (20 * q + 20) w hw hle' (by omega)) rfl (fun _ => rfl) fun u => ?_)
    obtain ⟨zs, i, hi1, hi2, hO⟩ := u
    have hi : i = 20 * q + 20 := by omega
    subst hi
    refine XN ?_
    refine thenJ_normal ?_
    refine H_seq ?_
    refine R0 ?_
    refine xV (e_mv (v := .int _ _) (q0 rfl)) rfl rfl ?_
    refine xV (e_as (v := .int _ _) (q0 rfl)) rfl rfl ?_
    refine XN ?_
    refine thenJ_normal ?_
    refine R0 ?_
    refine xV (e_mv (v := .int _ _) (q0 rfl)) rfl rfl ?_
    refine xV (e_mv (v := .int _ _) (q0 rfl)) rfl rfl ?_
    refine xV (e_add (r := ((20 * (q + 1) + 20 : Nat) : Int)) (q0 rfl) (q0 rfl) (fun _ => ⟨by first | omega | (simp only; omega), by first | omega | (simp only; omega), by first | omega | (simp only; omega)⟩)) rfl rfl ?_
    refine xV (e_as (v := .int _ _) (q0 rfl)) rfl rfl ?_
    refine XN ?_
    refine blockJ_normal ?_
    exact loopJ_normal (q + 1, zs) (by repeat (first | exact agree_self | exact agree_over | refine agree_upd rfl ?_ | refine agree_updL rfl ?_ | refine agree_over2 rfl ?_)) ⟨rfl, rfl, trivial⟩ (fun w hw => hw) rfl ⟨by show 20 * (q + 1) ≤ n; omega, hO.perm.trans hp, fun _ => by
      by_cases h0 : q = 0
      · subst h0; exact asc_of hO.ok
      · exact (hd1 (by omega)).same fun p p1 p2 => hO.out p (by omega), fun h2 => by
      simp only at h2
      have h1 : q = 1 := by omega
      subst h1
      exact asc_of hO.ok⟩ (by show 3 - (q + 1) < 3 - q; omega)
  · have hle' : n < 20 * q + 20 := by
      have h : ¬ ((20 * q + 20 : Nat) : Int) ≤ (n : Int) := of_decide_eq_false hle
      omega
    refine H_exit ?_
    refine thenJ_exit ?_
    refine loopJ_exit ?_
    refine blockJ_hit ?_
    refine thenJ_normal ?_
    refine H_seq ?_
    refine R0 ?_
    refine xV (e_mv (v := .slice _ _ _) (q0 rfl)) rfl rfl ?_
    refine xV (e_mv (v := .int _ _) (q0 rfl)) rfl rfl ?_
    refine xV (e_mv (v := .int _ _) (q0 rfl)) rfl rfl ?_
    refine xV (e_mv (q0 rfl)) rfl rfl ?_
    refine X_eff (f_callM (en Try.call77 (ha4 (q0 rfl) (q0 rfl) (q0 rfl) (q0 rfl))) (fun w hw => hins (20 * q) n w hw (Nat.le_refl _) (by omega)) rfl (fun _ => rfl) fun u => ?_)
    obtain ⟨zs, i, hi1, hi2, hO⟩ := u
    have hzp : zs.Perm xs := hO.perm.trans hp
    have hs1 : Asc kx zs 0 (min 20 n) := by
      by_cases h0 : q = 0
      · subst h0; exact (asc_of hO.ok).sub (by omega) (by omega)
      · exact ((hd1 (by omega)).sub (Nat.le_refl _) (by omega)).same fun p p1 p2 => hO.out p (by omega)
    have hs2 : Asc kx zs 20 n := by
      rcases Nat.lt_or_ge q 1 with h0 | h0
      · intro p q x y p1 p2 p3; omega
      · by_cases h1 : q = 1
        · subst h1; exact (asc_of hO.ok).sub (by omega) hi1
        · exact ((hd2 (by omega)).sub (Nat.le_refl _) hl).same fun p p1 p2 => hO.out p (by omega)
    clear hd1 hd2
    have hzl : zs.length = n := by rw [hzp.length_eq, hn]
    refine XN ?_
    refine thenJ_normal ?_
    refine H_block ?_
    refine H_loop [6, 7, 8, 9, 28, 29, 30, 31, 32, 33, 34, 35, 36, 37, 38, 39, 40, 41, 42, 43, 44, 45, 46, 47, 48, 49, 50, 51, 52, 53, 54, 55, 56, 57, 58, 59, 60, 61, 62] (fun d : Nat × List RX => [(6, .int .i64 ((20 * (d.1 + 1) : Nat) : Int))]) (fun d => rdRow A c d.2 :: L) (fun d => d.1 ≤ 1 ∧ d.2.Perm xs ∧ (d.1 = 0 → d.2 = zs) ∧ (d.1 = 1 → Asc kx d.2 0 n)) (fun d => 1 - d.1) (0, zs) ⟨rfl, trivial⟩ (fun w hw => hw) rfl ⟨by show 0 ≤ 1; omega, hzp, fun _ => rfl, fun h => by simp at h⟩ ?_
    rintro ⟨d, ws⟩ g2 ⟨hd, hp2, hw0, hw1⟩
    simp only at hd hp2 hw0 hw1
    refine H_seq ?_
    refine H_seq ?_
    refine R0 ?_
    refine xV (e_mv (v := .int _ _) (q0 rfl)) rfl rfl ?_
    refine xV (e_mv (v := .int _ _) (q0 rfl)) rfl rfl ?_
    refine xV (e_lt (q0 rfl) (q0 rfl)) rfl rfl ?_
    refine XN ?_
    refine thenJ_normal ?_
    refine H_cond rfl (fun h20 => ?_) (fun h20 => ?_)
    · have h20' : 20 * (d + 1) < n := by
        have h : ((20 * (d + 1) : Nat) : Int) < (n : Int) := of_decide_eq_true h20
        omega
      have hd0 : d = 0 := by omega
      subst hd0
      have hwz := hw0 rfl
      subst hwz
      refine H_skip ?_
      refine thenJ_normal ?_
      refine H_block ?_
      refine H_seq ?_
      refine R0 ?_
      refine xV (e_mv (v := .int _ _) (q0 rfl)) rfl rfl ?_
      refine xV (e_mul (r := ((40 : Nat) : Int)) (q0 rfl) (q0 rfl) (fun _ => ⟨by first | omega | (simp only; omega), by first | omega | (simp only; omega), by first | omega | (simp only; omega)⟩)) rfl rfl ?_
      refine xV (e_as (v := .int _ _) (q0 rfl)) rfl rfl ?_
      refine xV (e_as (v := .int _ _) (q0 rfl)) rfl rfl ?_
      refine XN ?_
      refine thenJ_normal ?_
      refine H_seq ?_
      refine H_block ?_
      refine H_loop [7, 8, 33, 34, 35, 36, 37, 38, 39, 40, 41, 42, 43, 44, 45, 46, 47, 48] (fun e : Nat × List RX => [(7, .int .i64 ((40 * e.1 : Nat) : Int)), (8, .int .i64 ((40 * e.1 + 40 : Nat) : Int))]) (fun e => rdRow A c e.2 :: L) (fun e => e.1 ≤ 1 ∧ e.2.Perm xs ∧ (e.1 = 0 → e.2 = ws) ∧ (e.1 = 1 → n = 40 ∧ Asc kx e.2 0 40)) (fun e => 1 - e.1) (0, ws) ⟨rfl, rfl, trivial⟩ (fun w hw => hw) rfl ⟨by show 0 ≤ 1; omega, hp2, fun _ => rfl, fun h => by simp at h⟩ ?_
      rintro ⟨e, vs⟩ g3 ⟨he, hp3, hv0, hv1⟩
      simp only at he hp3 hv0 hv1
      refine H_seq ?_
      refine H_seq ?_
      refine R0 ?_
      refine xV (e_mv (v := .int _ _) (q0 rfl)) rfl rfl ?_
      refine xV (e_mv (v := .int _ _) (q0 rfl)) rfl rfl ?_
      refine xV (e_le (q0 rfl) (q0 rfl)) rfl rfl ?_
      refine XN ?_
      refine thenJ_normal ?_
      refine H_cond rfl (fun h40 => ?_) (fun h40 => ?_)
      · have h40' : 40 * e + 40 ≤ n := by
          have h : ((40 * e + 40 : Nat) : Int) ≤ (n : Int) := of_decide_eq_true h40
          omega
        have he0 : e = 0 := by omega
        have hn40 : n = 40 := by omega
        subst he0
        have hvz := hv0 rfl
        subst hvz
        subst hn40
        refine H_skip ?_
        refine thenJ_normal ?_
        refine H_block ?_
        refine H_seq ?_
        refine R0 ?_
        refine xV (e_mv (v := .slice _ _ _) (q0 rfl)) rfl rfl ?_
        refine xV (e_mv (v := .int _ _) (q0 rfl)) rfl rfl ?_
        refine xV (e_mv (v := .int _ _) (q0 rfl)) rfl rfl ?_
        refine xV (e_mv (v := .int _ _) (q0 rfl)) rfl rfl ?_
        refine xV (e_add (r := ((20 : Nat) : Int)) (q0 rfl) (q0 rfl) (fun _ => ⟨by first | omega | (simp only; omega), by first | omega | (simp only; omega), by first | omega | (simp only; omega)⟩)) rfl rfl ?_
        refine xV (e_mv (v := .int _ _) (q0 rfl)) rfl rfl ?_
        refine xV (e_mv (q0 rfl)) rfl rfl ?_
        refine X_eff (f_callM (en Try.call78 (fun _ => rfl)) (fun w hw => sym_w 40 0 20 40 hw hmk (by omega) (by omega) (by omega) (by omega) hzl (by omega) (hs1.sub (Nat.le_refl _) (by omega)) hs2) rfl (fun _ => rfl) fun u => ?_)
        obtain ⟨us, hM⟩ := u
        refine XN ?_
        refine thenJ_normal ?_
        refine H_seq ?_
        refine R0 ?_
        refine xV (e_mv (v := .int _ _) (q0 rfl)) rfl rfl ?_
        refine xV (e_as (v := .int _ _) (q0 rfl)) rfl rfl ?_
        refine XN ?_
        refine thenJ_normal ?_
        refine R0 ?_
        refine xV (e_mv (v := .int _ _) (q0 rfl)) rfl rfl ?_
        refine xV (e_mv (v := .int _ _) (q0 rfl)) rfl rfl ?_
        refine xV (e_mul (r := ((40 : Nat) : Int)) (q0 rfl) (q0 rfl) (fun _ => ⟨by first | omega | (simp only; omega), by first | omega | (simp only; omega), by first | omega | (simp only; omega)⟩)) rfl rfl ?_
        refine xV (e_add (r := ((40 * (0 + 1) + 40 : Nat) : Int)) (q0 rfl) (q0 rfl) (fun _ => ⟨by first | omega | (simp only; omega), by first | omega | (simp only; omega), by first | omega | (simp only; omega)⟩)) rfl rfl ?_
        refine xV (e_as (v := .int _ _) (q0 rfl)) rfl rfl ?_
        refine XN ?_
        refine blockJ_normal ?_
        exact loopJ_normal (1, us) (by repeat (first | exact agree_self | exact agree_over | refine agree_upd rfl ?_ | refine agree_updL rfl ?_ | refine agree_over2 rfl ?_)) ⟨rfl, rfl, trivial⟩ (fun w hw => hw) rfl ⟨Nat.le_refl _, hM.seg.perm.trans hp3, fun h => by simp at h, fun _ => ⟨rfl, hM.asc⟩⟩ (by show 1 - 1 < 1 - 0; omega)
      · have h40' : n < 40 * e + 40 := by
          have h : ¬ ((40 * e + 40 : Nat) : Int) ≤ (n : Int) := of_decide_eq_false h40
          omega
        refine H_exit ?_
        refine thenJ_exit ?_
        refine loopJ_exit ?_
        refine blockJ_hit ?_
        refine thenJ_normal ?_
        refine H_seq ?_
        refine H_seq ?_
        refine R0 ?_
        refine xV (e_mv (v := .int _ _) (q0 rfl)) rfl rfl ?_
        refine xV (e_mv (v := .int _ _) (q0 rfl)) rfl rfl ?_
        refine xV (e_add (r := ((40 * e + 20 : Nat) : Int)) (q0 rfl) (q0 rfl) (fun _ => ⟨by first | omega | (simp only; omega), by first | omega | (simp only; omega), by first | omega | (simp only; omega)⟩)) rfl rfl ?_
        refine xV (e_as (v := .int _ _) (q0 rfl)) rfl rfl ?_
        refine XN ?_
        refine thenJ_normal ?_
        refine H_seq ?_
        refine R0 ?_
        refine xV (e_mv (v := .int _ _) (q0 rfl)) rfl rfl ?_
        refine xV (e_mv (v := .int _ _) (q0 rfl)) rfl rfl ?_
        refine xV (e_lt (q0 rfl) (q0 rfl)) rfl rfl ?_
        refine XN ?_
        refine thenJ_normal ?_
        refine H_cond rfl (fun hlast => ?_) (fun hlast => ?_)
        · have hlast' : 40 * e + 20 < n := by
            have h : ((40 * e + 20 : Nat) : Int) < (n : Int) := of_decide_eq_true hlast
            omega
          have he0 : e = 0 := by omega
          subst he0
          have hvz := hv0 rfl
          subst hvz
          refine R0 ?_
          refine xV (e_mv (v := .slice _ _ _) (q0 rfl)) rfl rfl ?_
          refine xV (e_mv (v := .int _ _) (q0 rfl)) rfl rfl ?_
          refine xV (e_mv (v := .int _ _) (q0 rfl)) rfl rfl ?_
          refine xV (e_mv (v := .int _ _) (q0 rfl)) rfl rfl ?_
          refine xV (e_mv (q0 rfl)) rfl rfl ?_
          refine X_eff (f_callM (en Try.call78 (fun _ => rfl)) (fun w hw => sym_w 40 0 20 n hw hmk (by omega) (by omega) (by omega) (Nat.le_refl _) hzl (by omega) (hs1.sub (Nat.le_refl _) (by omega)) hs2) rfl (fun _ => rfl) fun u => ?_)
          obtain ⟨us, hM⟩ := u
          refine XN ?_
          refine thenJ_normal ?_
          refine R0 ?_
          refine xV (e_mv (v := .int _ _) (q0 rfl)) rfl rfl ?_
          refine xV (e_mul (r := ((20 * (1 + 1) : Nat) : Int)) (q0 rfl) (q0 rfl) (fun _ => ⟨by first | omega | (simp only; omega), by first | omega | (simp only; omega), by first | omega | (simp only; omega)⟩)) rfl rfl ?_
          refine xV (e_as (v := .int _ _) (q0 rfl)) rfl rfl ?_
          refine XN ?_
          refine blockJ_normal ?_
          exact loopJ_normal (1, us) (by repeat (first | exact agree_self | exact agree_over | refine agree_upd rfl ?_ | refine agree_updL rfl ?_ | refine agree_over2 rfl ?_)) ⟨rfl, trivial⟩ (fun w hw => hw) rfl ⟨Nat.le_refl _, hM.seg.perm.trans hp3, fun h => by simp at h, fun _ => hM.asc⟩ (by show 1 - 1 < 1 - 0; omega)
        · have hlast' : n ≤ 40 * e + 20 := by
            have h : ¬ ((40 * e + 20 : Nat) : Int) < (n : Int) := of_decide_eq_false hlast
            omega
          have he1 : e = 1 := by omega
          obtain ⟨h40, hasc⟩ := hv1 he1
          refine H_skip ?_
          refine thenJ_normal ?_
          refine R0 ?_
          refine xV (e_mv (v := .int _ _) (q0 rfl)) rfl rfl ?_
          refine xV (e_mul (r := ((20 * (1 + 1) : Nat) : Int)) (q0 rfl) (q0 rfl) (fun _ => ⟨by first | omega | (simp only; omega), by first | omega | (simp only; omega), by first | omega | (simp only; omega)⟩)) rfl rfl ?_
          refine xV (e_as (v := .int _ _) (q0 rfl)) rfl rfl ?_
          refine XN ?_
          refine blockJ_normal ?_
          exact loopJ_normal (1, vs) (by repeat (first | exact agree_self | exact agree_over | refine agree_upd rfl ?_ | refine agree_updL rfl ?_ | refine agree_over2 rfl ?_)) ⟨rfl, trivial⟩ (fun w hw => hw) rfl ⟨Nat.le_refl _, hp3, fun h => by simp at h, fun _ => by rw [h40]; exact hasc⟩ (by show 1 - 1 < 1 - 0; omega)
    · have h20' : n ≤ 20 * (d + 1) := by
        have h : ¬ ((20 * (d + 1) : Nat) : Int) < (n : Int) := of_decide_eq_false h20
        omega
      have hfin : Asc kx ws 0 n := by
        by_cases h0 : d = 0
        · rw [hw0 h0]
          exact hs1.sub (Nat.le_refl _) (by omega)
        · exact hw1 (by omega)
      refine H_exit ?_
      refine thenJ_exit ?_
      refine loopJ_exit ?_
      refine blockJ_hit ?_
      exact end0 rfl hmk fun w' hw => ⟨⟨ws, hp2, hfin⟩, rfl, hw⟩
set_option maxRecDepth 20000 in
theorem sort40_w {A : Option Addr} {c : Nat} {xs : List RX} (hw : Mem w0 (rdRow A c xs :: L) w) (hmk : marks L = []) (hl : xs.length ≤ 40) :
    Calls Try.prog 42 #[.slice A xs.length c, .func (.func 43) #[] #[]] w fun e w' => ∃ ys : { ys : List RX // Sorted xs ys }, e = .returned (.tuple #[]) ∧ Mem w0 (rdRow A c ys.1 :: L) w' := by
  refine H_enterM hw hmk Try.func42 rfl Try.ntmps42 rfl ?_
  refine R0 ?_
  refine xV (e_mv (v := .slice _ _ _) (q0 rfl)) rfl rfl ?_
  refine xV (e_mv (v := .slice _ _ _) (q0 rfl)) rfl rfl ?_
  refine xV (e_len Try.underlying32 (q0 rfl)) rfl rfl ?_
  refine xV (e_mv (q0 rfl)) rfl rfl ?_
  refine X_eff (f_callM (en Try.call60 (ha3 (q0 rfl) (q0 rfl) (q0 rfl))) (fun w hw => stable40_w hw hmk rfl hl) rfl (fun _ => rfl) fun u => ?_)
  refine XN ?_
  exact end0 rfl hmk fun w' hw => ⟨⟨u.1, u.2.1, by rw [u.2.1.length_eq]; exact of_asc u.2.2⟩, rfl, hw⟩
end

end Go.Proofs.Rid

/-
  The walks: all rides of events (at most forty rides).
-/
namespace Go.Proofs.Rid
open Go Go.RowKit Go.Proofs.E Go.Proofs.Cus

set_option maxHeartbeats 1000000 in
set_option maxRecDepth 20000 in
theorem all40_w (f : Fl) (a : FA) (A : Option Addr) (n c : Nat) (xs : List Ev) (w : World) (hf : FlAt w f a) (hx : EvsAt w A n xs) (hn : n ≤ 1000) (hpl : PlOk xs) (hr20 : (storyOf f xs).rides.length ≤ 40) :
    Calls Try.prog 23 #[.agg (f.cells a).toArray, .slice A n c] w fun r w' => ∃ y : RdsOut (allOf f xs), r = .returned (.tuple #[.slice y.1.1 y.1.2.2.length y.1.2.1, .int .i64 (flErr f)]) ∧ Mem w [rdRow y.1.1 y.1.2.1 y.1.2.2, rdBag y.1.2.2] w' := by
  have hxl := hx.1
  have hal := accOf_len f xs
  refine H_enter Try.func23 rfl Try.ntmps23 rfl ?_
  refine H_seq ?_
  refine R0 ?_
  refine X_box (v := .agg _) rfl rfl fun b2 => ?_
  refine xV (e_as (v := .slice _ _ _) (q0 rfl)) rfl rfl ?_
  refine xV (e_as (v := .int _ _) (q0 rfl)) rfl rfl ?_
  refine XN ?_
  refine thenJ_normal ?_
  refine H_seq ?_
  refine R0 ?_
  refine xV (eS Try.isAgg42 Try.sizeOf42 (q0 rfl)) rfl rfl ?_
  refine xV (e_mv (v := .slice _ _ _) (q0 rfl)) rfl rfl ?_
  refine xCX (en Try.call24 (ha2 (q0 rfl) (q0 rfl))) (fun w hw => accepted_w f a A n c xs w (hf.mem hw) (hx.mem hw) (by omega) hpl) rfl (fun _ => rfl) fun r1 => ?_
  refine xV (e_mv (q0 rfl)) rfl rfl ?_
  refine xV (e_ext (q0 rfl) rfl) rfl rfl ?_
  refine xV (e_ext (q0 rfl) rfl) rfl rfl ?_
  refine xV (e_as (v := .slice _ _ _) (q0 rfl)) rfl rfl ?_
  refine xV (e_as (v := .int _ _) (q0 rfl)) rfl rfl ?_
  refine XN ?_
  refine thenJ_normal ?_
  refine H_seq ?_
  refine H_seq ?_
  refine R0 ?_
  refine xV (e_mv (v := .int _ _) (q0 rfl)) rfl rfl ?_
  refine xV (e_ne (q0 rfl) (q0 rfl)) rfl rfl ?_
  refine XN ?_
  refine thenJ_normal ?_
  refine H_cond rfl (fun h1 => ?_) (fun h1 => ?_)
  · have h1' : flErr f ≠ 0 := by simpa using h1
    have ho : allOf f xs = [] := by unfold allOf; rw [if_neg h1']
    refine H_seq ?_
    refine R0 ?_
    refine xV (e_mv (v := .int _ _) (q0 rfl)) rfl rfl ?_
    refine xV (e_as (v := .slice _ _ _) (q0 rfl)) rfl rfl ?_
    refine xV (e_as (v := .int _ _) (q0 rfl)) rfl rfl ?_
    refine XN ?_
    refine thenJ_normal ?_
    refine H_ret ?_
    refine thenJ_ret ?_
    exact ret2 (v := .slice _ _ _) (x := .int _ _) rfl rfl rfl rfl fun w' hw => ⟨⟨(none, 0, []), ho.symm⟩, rfl, ((mem_nil.2 hw.1).noBag (f := rdParts)).nilRow _ _ _ rfl⟩
  · have h1' : flErr f = 0 := by simpa using h1
    obtain ⟨hbk, -⟩ := flErr_ok h1'
    have hnb := nb_eq h1'
    have ho : allOf f xs = byId (storyOf f xs).rides := by unfold allOf; rw [if_pos h1']
    have hjn := joint_of h1' xs
    have hja := fun k => joint_at h1' xs k
    have hbikes : ∀ e ∈ accOf f xs, 0 ≤ e.bike ∧ e.bike < (nbOf f : Int) := fun e he => by
      obtain ⟨hrp, _⟩ := replay_of h1' xs (fun _ => ())
      obtain ⟨k, hk⟩ := List.mem_iff_getElem?.1 he
      have := (evErr_ok (hrp.at_ (g := fun _ => ()) hk).1).2.1
      rw [hnb] at this; exact this
    have hst : storyOf f xs = (accOf f xs).foldl tellY (beginSY (nbOf f)) := rfl
    rw [h1', ho]
    generalize hac0 : accOf f xs = acc at *
    generalize hN : nbOf f = nb at *
    have hnb1 : nb ≤ 1000 := by omega
    obtain ⟨r11, r12⟩ := r1
    refine H_skip ?_
    refine thenJ_normal ?_
    refine H_seq ?_
    refine H_cut [8, 21, 22, 23, 24, 25, 26, 27, 28, 29] (fun x : YA => [(8, .pointer (some ⟨x.sb, 0, none⟩))]) (fun x => [box x.sb 77 [.slice none 0 0, .map (some x.m), .slice (some ⟨x.g, 0, none⟩) nb nb, .slice none 0 0, .slice (some ⟨x.s, 0, none⟩) nb nb], inRow (some ⟨x.g, 0, none⟩) nb (List.replicate nb 0), E.rowT 58 4 Sp.cells (some ⟨x.s, 0, none⟩) nb (List.replicate nb zSp), imap x.m [], evRow r11 r12 acc]) (fun x => x.rA = none ∧ x.rc = 0 ∧ x.pA = none ∧ x.pc = 0 ∧ x.gc = nb ∧ x.sc = nb) ?_ ?_
    · refine RA rfl (by decide +kernel) ?_
      refine aV 1 (by decide +kernel) rfl (e_fld Try.underlying42 rfl Try.sizeOf3 rfl (q0 rfl)) rfl ?_
      refine aV 2 (by decide +kernel) rfl (eL Try.isAgg3 (q0 rfl)) rfl ?_
      refine aV 4 (by decide +kernel) rfl (e_fld Try.underlying42 rfl Try.sizeOf3 rfl (q0 rfl)) rfl ?_
      refine aV 5 (by decide +kernel) rfl (eL Try.isAgg3 (q0 rfl)) rfl ?_
      refine rdy3 (i := 0) (j := 3) (k := 6) (by decide +kernel) (sub_drop 0) ?_ ?_ ?_
      · refine aL rfl (f_makeMap rfl fun b21 => ?_)
        refine rdy2 (i := 3) (j := 6) (by decide +kernel) (sub_drop 1) ?_ ?_
        · refine aL rfl (f_make (i := Try.t3) (k := 1) (n := nb) (m := nb) encInt 0 Try.underlying40 (by kernel_rfl) rfl rfl rfl (by show Value.int .i64 f.bikes = _; rw [hnb]) (by show Value.int .i64 f.bikes = _; rw [hnb]) ⟨⟨Nat.le_refl _, by omega⟩, by decide⟩ rfl fun b24 => ?_)
          refine aI 1 ?_
          refine rdy1 (i := 6) (by decide +kernel) (sub_drop 2) ?_
          refine aL rfl (f_make (i := Try.t58) (k := 4) (n := nb) (m := nb) Sp.cells zSp Try.underlying54 (by kernel_rfl) rfl rfl rfl (by show Value.int .i64 f.bikes = _; rw [hnb]) (by show Value.int .i64 f.bikes = _; rw [hnb]) ⟨⟨Nat.le_refl _, by omega⟩, by decide⟩ rfl fun b27 => ?_)
          refine aI 2 ?_
          refine aV 7 (by decide +kernel) rfl (e_build Try.underlying77 fl77 Try.zeroValue77 (pt (v := .map _) rfl (pt (v := .slice _ _ _) rfl (pt (v := .slice _ _ _) rfl E.p0))) rfl) rfl ?_
          refine rdy1 (i := 8) (by decide +kernel) (sub_drop 3) ?_
          refine aL rfl (f_box (v := .agg _) rfl rfl fun b29 => ?_)
          refine aI 3 ?_
          refine aRL (sub_drop 4) ?_
          refine aV 9 (by decide +kernel) rfl (e_as (v := .pointer _) (q0 rfl)) rfl ?_
          refine aZ (by decide +kernel) (sub_drop 0) ?_
          exact cutJ_normal (⟨b29, none, 0, b21, b24, nb, none, 0, b27, nb⟩ : YA) (by repeat (first | exact agree_self | exact agree_over | refine agree_upd rfl ?_ | refine agree_updL rfl ?_ | refine agree_over2 rfl ?_)) ⟨rfl, trivial⟩ (fun w hw => hw.pick [3, 1, 2, 0, 4] (by decide)) rfl ⟨rfl, rfl, rfl, rfl, rfl, rfl⟩
        · refine aL rfl (f_make (i := Try.t58) (k := 4) (n := nb) (m := nb) Sp.cells zSp Try.underlying54 (by kernel_rfl) rfl rfl rfl (by show Value.int .i64 f.bikes = _; rw [hnb]) (by show Value.int .i64 f.bikes = _; rw [hnb]) ⟨⟨Nat.le_refl _, by omega⟩, by decide⟩ rfl fun b27 => ?_)
          refine aI 1 ?_
          refine rdy1 (i := 3) (by decide +kernel) (sub_drop 2) ?_
          refine aL rfl (f_make (i := Try.t3) (k := 1) (n := nb) (m := nb) encInt 0 Try.underlying40 (by kernel_rfl) rfl rfl rfl (by show Value.int .i64 f.bikes = _; rw [hnb]) (by show Value.int .i64 f.bikes = _; rw [hnb]) ⟨⟨Nat.le_refl _, by omega⟩, by decide⟩ rfl fun b24 => ?_)
          refine aI 1 ?_
          refine aV 7 (by decide +kernel) rfl (e_build Try.underlying77 fl77 Try.zeroValue77 (pt (v := .map _) rfl (pt (v := .slice _ _ _) rfl (pt (v := .slice _ _ _) rfl E.p0))) rfl) rfl ?_
          refine rdy1 (i := 8) (by decide +kernel) (sub_drop 3) ?_
          refine aL rfl (f_box (v := .agg _) rfl rfl fun b29 => ?_)
          refine aI 3 ?_
          refine aRL (sub_drop 4) ?_
          refine aV 9 (by decide +kernel) rfl (e_as (v := .pointer _) (q0 rfl)) rfl ?_
          refine aZ (by decide +kernel) (sub_drop 0) ?_
          exact cutJ_normal (⟨b29, none, 0, b21, b24, nb, none, 0, b27, nb⟩ : YA) (by repeat (first | exact agree_self | exact agree_over | refine agree_upd rfl ?_ | refine agree_updL rfl ?_ | refine agree_over2 rfl ?_)) ⟨rfl, trivial⟩ (fun w hw => hw.pick [3, 1, 2, 0, 4] (by decide)) rfl ⟨rfl, rfl, rfl, rfl, rfl, rfl⟩
      · refine aL rfl (f_make (i := Try.t3) (k := 1) (n := nb) (m := nb) encInt 0 Try.underlying40 (by kernel_rfl) rfl rfl rfl (by show Value.int .i64 f.bikes = _; rw [hnb]) (by show Value.int .i64 f.bikes = _; rw [hnb]) ⟨⟨Nat.le_refl _, by omega⟩, by decide⟩ rfl fun b24 => ?_)
        refine rdy2 (i := 0) (j := 6) (by decide +kernel) (sub_drop 1) ?_ ?_
        · refine aL rfl (f_makeMap rfl fun b21 => ?_)
          refine rdy1 (i := 6) (by decide +kernel) (sub_drop 2) ?_
          refine aL rfl (f_make (i := Try.t58) (k := 4) (n := nb) (m := nb) Sp.cells zSp Try.underlying54 (by kernel_rfl) rfl rfl rfl (by show Value.int .i64 f.bikes = _; rw [hnb]) (by show Value.int .i64 f.bikes = _; rw [hnb]) ⟨⟨Nat.le_refl _, by omega⟩, by decide⟩ rfl fun b27 => ?_)
          refine aI 2 ?_
          refine aV 7 (by decide +kernel) rfl (e_build Try.underlying77 fl77 Try.zeroValue77 (pt (v := .map _) rfl (pt (v := .slice _ _ _) rfl (pt (v := .slice _ _ _) rfl E.p0))) rfl) rfl ?_
          refine rdy1 (i := 8) (by decide +kernel) (sub_drop 3) ?_
          refine aL rfl (f_box (v := .agg _) rfl rfl fun b29 => ?_)
          refine aI 3 ?_
          refine aRL (sub_drop 4) ?_
          refine aV 9 (by decide +kernel) rfl (e_as (v := .pointer _) (q0 rfl)) rfl ?_
          refine aZ (by decide +kernel) (sub_drop 0) ?_
          exact cutJ_normal (⟨b29, none, 0, b21, b24, nb, none, 0, b27, nb⟩ : YA) (by repeat (first | exact agree_self | exact agree_over | refine agree_upd rfl ?_ | refine agree_updL rfl ?_ | refine agree_over2 rfl ?_)) ⟨rfl, trivial⟩ (fun w hw => hw.pick [3, 1, 2, 0, 4] (by decide)) rfl ⟨rfl, rfl, rfl, rfl, rfl, rfl⟩
        · refine aL rfl (f_make (i := Try.t58) (k := 4) (n := nb) (m := nb) Sp.cells zSp Try.underlying54 (by kernel_rfl) rfl rfl rfl (by show Value.int .i64 f.bikes = _; rw [hnb]) (by show Value.int .i64 f.bikes = _; rw [hnb]) ⟨⟨Nat.le_refl _, by omega⟩, by decide⟩ rfl fun b27 => ?_)
          refine aI 1 ?_
          refine rdy1 (i := 0) (by decide +kernel) (sub_drop 2) ?_
          refine aL rfl (f_makeMap rfl fun b21 => ?_)
          refine aV 7 (by decide +kernel) rfl (e_build Try.underlying77 fl77 Try.zeroValue77 (pt (v := .map _) rfl (pt (v := .slice _ _ _) rfl (pt (v := .slice _ _ _) rfl E.p0))) rfl) rfl ?_
          refine rdy1 (i := 8) (by decide +kernel) (sub_drop 3) ?_
          refine aL rfl (f_box (v := .agg _) rfl rfl fun b29 => ?_)
          refine aI 3 ?_
          refine aRL (sub_drop 4) ?_
          refine aV 9 (by decide +kernel) rfl (e_as (v := .pointer _) (q0 rfl)) rfl ?_
          refine aZ (by decide +kernel) (sub_drop 0) ?_
          exact cutJ_normal (⟨b29, none, 0, b21, b24, nb, none, 0, b27, nb⟩ : YA) (by repeat (first | exact agree_self | exact agree_over | refine agree_upd rfl ?_ | refine agree_updL rfl ?_ | refine agree_over2 rfl ?_)) ⟨rfl, trivial⟩ (fun w hw => hw.pick [3, 1, 2, 0, 4] (by decide)) rfl ⟨rfl, rfl, rfl, rfl, rfl, rfl⟩
      · refine aL rfl (f_make (i := Try.t58) (k := 4) (n := nb) (m := nb) Sp.cells zSp Try.underlying54 (by kernel_rfl) rfl rfl rfl (by show Value.int .i64 f.bikes = _; rw [hnb]) (by show Value.int .i64 f.bikes = _; rw [hnb]) ⟨⟨Nat.le_refl _, by omega⟩, by decide⟩ rfl fun b27 => ?_)
        refine rdy2 (i := 0) (j := 3) (by decide +kernel) (sub_drop 1) ?_ ?_
        · refine aL rfl (f_makeMap rfl fun b21 => ?_)
          refine rdy1 (i := 3) (by decide +kernel) (sub_drop 2) ?_
          refine aL rfl (f_make (i := Try.t3) (k := 1) (n := nb) (m := nb) encInt 0 Try.underlying40 (by kernel_rfl) rfl rfl rfl (by show Value.int .i64 f.bikes = _; rw [hnb]) (by show Value.int .i64 f.bikes = _; rw [hnb]) ⟨⟨Nat.le_refl _, by omega⟩, by decide⟩ rfl fun b24 => ?_)
          refine aI 1 ?_
          refine aV 7 (by decide +kernel) rfl (e_build Try.underlying77 fl77 Try.zeroValue77 (pt (v := .map _) rfl (pt (v := .slice _ _ _) rfl (pt (v := .slice _ _ _) rfl E.p0))) rfl) rfl ?_
          refine rdy1 (i := 8) (by decide +kernel) (sub_drop 3) ?_
          refine aL rfl (f_box (v := .agg _) rfl rfl fun b29 => ?_)
          refine aI 3 ?_
          refine aRL (sub_drop 4) ?_
          refine aV 9 (by decide +kernel) rfl (e_as (v := .pointer _) (q0 rfl)) rfl ?_
          refine aZ (by decide +kernel) (sub_drop 0) ?_
          exact cutJ_normal (⟨b29, none, 0, b21, b24, nb, none, 0, b27, nb⟩ : YA) (by repeat (first | exact agree_self | exact agree_over | refine agree_upd rfl ?_ | refine agree_updL rfl ?_ | refine agree_over2 rfl ?_)) ⟨rfl, trivial⟩ (fun w hw => hw.pick [3, 1, 2, 0, 4] (by decide)) rfl ⟨rfl, rfl, rfl, rfl, rfl, rfl⟩
        · refine aL rfl (f_make (i := Try.t3) (k := 1) (n := nb) (m := nb) encInt 0 Try.underlying40 (by kernel_rfl) rfl rfl rfl (by show Value.int .i64 f.bikes = _; rw [hnb]) (by show Value.int .i64 f.bikes = _; rw [hnb]) ⟨⟨Nat.le_refl _, by omega⟩, by decide⟩ rfl fun b24 => ?_)
          refine rdy1 (i := 0) (by decide +kernel) (sub_drop 2) ?_
          refine aL rfl (f_makeMap rfl fun b21 => ?_)
          refine aV 7 (by decide +kernel) rfl (e_build Try.underlying77 fl77 Try.zeroValue77 (pt (v := .map _) rfl (pt (v := .slice _ _ _) rfl (pt (v := .slice _ _ _) rfl E.p0))) rfl) rfl ?_
          refine rdy1 (i := 8) (by decide +kernel) (sub_drop 3) ?_
          refine aL rfl (f_box (v := .agg _) rfl rfl fun b29 => ?_)
          refine aI 3 ?_
          refine aRL (sub_drop 4) ?_
          refine aV 9 (by decide +kernel) rfl (e_as (v := .pointer _) (q0 rfl)) rfl ?_
          refine aZ (by decide +kernel) (sub_drop 0) ?_
          exact cutJ_normal (⟨b29, none, 0, b21, b24, nb, none, 0, b27, nb⟩ : YA) (by repeat (first | exact agree_self | exact agree_over | refine agree_upd rfl ?_ | refine agree_updL rfl ?_ | refine agree_over2 rfl ?_)) ⟨rfl, trivial⟩ (fun w hw => hw.pick [3, 1, 2, 0, 4] (by decide)) rfl ⟨rfl, rfl, rfl, rfl, rfl, rfl⟩
    · rintro ⟨sb, rA, rc, m, g0, gc, pA, pc, s0, sc⟩ g4 ⟨e1, e2, e3, e4, e5, e6⟩
      simp only at e1 e2 e3 e4 e5 e6
      subst e1 e2 e3 e4 e5 e6
      refine thenJ_normal ?_
      refine H_seq ?_
      refine H_seq ?_
      refine R0 ?_
      refine xV (e_mv (v := .pointer _) (q0 rfl)) rfl rfl ?_
      refine xV (e_nilc (q0 rfl)) rfl rfl ?_
      refine xV (e_fld Try.underlying77 rfl Try.sizeOf40 rfl (q0 rfl)) rfl rfl ?_
      refine xV (eL Try.isAgg40 (q0 rfl)) rfl rfl ?_
      refine xV (e_len Try.underlying40 (q0 rfl)) rfl rfl ?_
      refine xV (e_mv (v := .int _ _) (q0 rfl)) rfl rfl ?_
      refine XN ?_
      refine thenJ_normal ?_
      refine H_block ?_
      refine H_loop [9, 35, 36, 37, 38, 39, 40, 41, 42, 43, 44] (fun k : Nat => [(35, .int .i64 k)]) (fun k => [box sb 77 [.slice none 0 0, .map (some m), .slice (some ⟨g0, 0, none⟩) sc sc, .slice none 0 0, .slice (some ⟨s0, 0, none⟩) sc sc], inRow (some ⟨g0, 0, none⟩) sc (List.replicate k (-1) ++ List.replicate (sc - k) 0), E.rowT 58 4 Sp.cells (some ⟨s0, 0, none⟩) sc (List.replicate sc zSp), imap m [], evRow r11 r12 acc]) (fun k => k ≤ sc) (fun k => sc - k) 0 ⟨rfl, trivial⟩ (fun w hw => by simpa using hw) rfl (Nat.zero_le _) ?_
      rintro k g5 hk
      refine H_seq ?_
      refine R0 ?_
      refine xV (e_lt (q0 rfl) (q0 rfl)) rfl rfl ?_
      refine XN ?_
      refine thenJ_normal ?_
      refine H_seq ?_
      refine H_cond rfl (fun hlt => ?_) (fun hlt => ?_)
      · have hlt' : k < sc := by simp at hlt; omega
        have hget := rep_get k sc hlt'
        refine H_skip ?_
        refine thenJ_normal ?_
        refine H_seq ?_
        refine H_block ?_
        refine H_seq ?_
        refine R0 ?_
        refine xV (e_mv (v := .int _ _) (q0 rfl)) rfl rfl ?_
        refine xV (e_as (v := .int _ _) (q0 rfl)) rfl rfl ?_
        refine XN ?_
        refine thenJ_normal ?_
        refine R0 ?_
        refine xV (e_mv (v := .pointer _) (q0 rfl)) rfl rfl ?_
        refine xV (e_nilc (q0 rfl)) rfl rfl ?_
        refine xV (e_fld Try.underlying77 rfl Try.sizeOf40 rfl (q0 rfl)) rfl rfl ?_
        refine xV (eL Try.isAgg40 (q0 rfl)) rfl rfl ?_
        refine xV (e_mv (v := .int _ _) (q0 rfl)) rfl rfl ?_
        refine xV (e_idx _ Try.underlying40 Try.sizeOf3 (q0 rfl) (q0 rfl) (fun _ => ⟨rfl, by omega⟩)) rfl rfl ?_
        refine X_eff (f_storeR0 1 (k := 1) (enc := encInt) (-1) rfl rfl Try.sizeOf3 rfl rfl rfl hget rfl rfl ?_)
        refine XN ?_
        refine blockJ_normal ?_
        refine thenJ_normal ?_
        refine R0 ?_
        refine xV (e_add (q0 rfl) (q0 rfl) (fun _ => ⟨rfl, by omega, by omega⟩)) rfl rfl ?_
        refine xV (e_mv (v := .int _ _) (q0 rfl)) rfl rfl ?_
        refine XN ?_
        exact loopJ_normal (k + 1) (by repeat (first | exact agree_self | exact agree_over | refine agree_upd rfl ?_ | refine agree_updL rfl ?_ | refine agree_over2 rfl ?_)) ⟨rfl, trivial⟩ (fun w hw => by show Mem _ [_, inRow _ _ (List.replicate (k + 1) (-1) ++ List.replicate (sc - (k + 1)) 0), _, _, _] w; rw [← rep_set k sc hlt']; exact hw) rfl (by show k + 1 ≤ sc; omega) (by show sc - (k + 1) < sc - k; omega)
      · have hkn : k = sc := by simp at hlt; omega
        subst hkn
        refine H_mem (L' := stY ⟨sb, none, 0, m, g0, k, none, 0, s0, k⟩ ⟨[], [], List.replicate k (-1), [], List.replicate k zSp⟩ ++ [evRow r11 r12 acc]) (fun w hw => by
          rw [Nat.sub_self, List.replicate_zero, List.append_nil] at hw
          have h10 := ((hw.noBag (f := rdParts)).nilRow 27 13 RX.cells (c := 0) rfl).nilRow 4 1 encB (c := 0) rfl
          have h11 := h10.pickN 8 [3, 1, 2, 0, 4, 5, 6, 7] (by decide) (by decide)
          have hc : yCells ⟨sb, none, 0, m, g0, k, none, 0, s0, k⟩ ⟨[], [], List.replicate k (-1), [], List.replicate k zSp⟩ = [.slice none 0 0, .map (some m), .slice (some ⟨g0, 0, none⟩) k k, .slice none 0 0, .slice (some ⟨s0, 0, none⟩) k k] := by unfold yCells; simp
          show Mem _ ([box sb 77 (yCells _ _), _, _, _, _, _, _] ++ [_]) w
          rw [hc]
          exact h11) rfl ?_
        refine H_exit ?_
        refine thenJ_exit ?_
        refine loopJ_exit ?_
        refine blockJ_hit ?_
        refine thenJ_normal ?_
        refine H_seq ?_
        refine H_seq ?_
        refine R0 ?_
        refine xV (e_mv (v := .slice _ _ _) (q0 rfl)) rfl rfl ?_
        refine xV (e_len Try.underlying43 (q0 rfl)) rfl rfl ?_
        refine xV (e_mv (v := .int _ _) (q0 rfl)) rfl rfl ?_
        refine XN ?_
        refine thenJ_normal ?_
        refine H_block ?_
        refine H_loop [11, 47, 48, 49, 50, 51, 52, 53, 54] (fun q : Nat × YA × TY => [(47, .int .i64 q.1)]) (fun q => stY q.2.1 q.2.2 ++ [evRow r11 r12 acc]) (fun q => q.1 ≤ acc.length ∧ q.2.1.sb = sb ∧ q.2.2.plain = (acc.take q.1).foldl tellY (beginSY k)) (fun q => acc.length - q.1) (0, ⟨sb, none, 0, m, g0, k, none, 0, s0, k⟩, ⟨[], [], List.replicate k (-1), [], List.replicate k zSp⟩) ⟨rfl, trivial⟩ (fun w hw => hw) rfl ⟨Nat.zero_le _, rfl, rfl⟩ ?_
        rintro ⟨i, ya, ty⟩ g6 ⟨hi, hsb, hty⟩
        simp only at hi hsb hty
        have hJ := hja i
        rw [← hty] at hJ
        refine H_seq ?_
        refine R0 ?_
        refine xV (e_lt (q0 rfl) (q0 rfl)) rfl rfl ?_
        refine XN ?_
        refine thenJ_normal ?_
        refine H_seq ?_
        refine H_cond rfl (fun hlt2 => ?_) (fun hlt2 => ?_)
        · have hlt2' : i < acc.length := by simpa using hlt2
          obtain ⟨e, he⟩ : ∃ e, acc[i]? = some e := ⟨_, List.getElem?_eq_getElem hlt2'⟩
          have hstep : (acc.take (i + 1)).foldl tellY (beginSY k) = tellY ty.plain e := by rw [take_snoc _ _ _ he, List.foldl_append, ← hty]; rfl
          refine H_know (fun w hw => rowT_at (j := 7) hw rfl (by omega)) fun ⟨rb, hrb⟩ => ?_
          subst hrb
          refine H_skip ?_
          refine thenJ_normal ?_
          refine H_seq ?_
          refine H_block ?_
          refine H_seq ?_
          refine R0 ?_
          refine xV (e_idx _ Try.underlying43 Try.sizeOf50 (q0 rfl) (q0 rfl) (fun _ => ⟨rfl, by omega⟩)) rfl rfl ?_
          refine xV (eS Try.isAgg50 Try.sizeOf50 (q0 rfl)) rfl rfl ?_
          refine X_alloc Try.zeroValue50 rfl fun b11 => ?_
          refine X_st (v := .agg _) rfl rfl Try.sizeOf50 ?_
          refine XN ?_
          refine thenJ_normal ?_
          refine R0 ?_
          refine xV (e_mv (v := .pointer _) (q0 rfl)) rfl rfl ?_
          refine xV (eS Try.isAgg50 Try.sizeOf50 (q0 rfl)) rfl rfl ?_
          rw [← hsb]
          refine X_eff (f_callM (en Try.call41 (ha2 (q0 rfl) (q0 rfl))) (fun w hw => tell_w (a := ya) (t := ty) (L := [_, _]) (Mem.rot (X := [_]) (S := stY ya ty) hw) rfl hJ.wf (by rw [List.length_take]; omega) e (hbikes e (List.mem_of_getElem? he))) rfl (fun _ => rfl) fun y => ?_)
          obtain ⟨⟨ya2, ty2⟩, hy1, hy2⟩ := y
          refine XN ?_
          refine blockJ_normal ?_
          refine thenJ_normal ?_
          refine R0 ?_
          refine xV (e_add (q0 rfl) (q0 rfl) (fun _ => ⟨rfl, by omega, by omega⟩)) rfl rfl ?_
          refine xV (e_mv (v := .int _ _) (q0 rfl)) rfl rfl ?_
          refine XN ?_
          exact loopJ_normal (i + 1, ya2, ty2) (by repeat (first | exact agree_self | exact agree_over | refine agree_upd rfl ?_ | refine agree_updL rfl ?_ | refine agree_over2 rfl ?_)) ⟨rfl, trivial⟩ (fun w hw => Mem.rot (X := [_]) (S := stY ya2 ty2) (hw.pickN 9 [7, 0, 1, 2, 3, 4, 5, 6, 8] (by decide) (by decide)) |>.pickN 9 [0, 1, 2, 3, 4, 5, 6, 8] (by decide) (by decide)) rfl ⟨by show i + 1 ≤ _; omega, hy1, by show ty2.plain = _; rw [hstep]; exact hy2⟩ (by show acc.length - (i + 1) < acc.length - i; omega)
        · have hend : i = acc.length := by simp at hlt2; omega
          subst hend
          rw [List.take_length, ← hst] at hty
          obtain ⟨yb, yrA, yrc, ym, yg, ygc, ypA, ypc, ys0, ysc⟩ := ya
          simp only at hsb
          subst hsb
          have hlen : ty.xs.length ≤ 40 := by
            have h0 : ty.plain.rides.length = ty.xs.length := by simp [TY.plain]
            rw [← h0, hty]; exact hr20
          refine H_exit ?_
          refine thenJ_exit ?_
          refine loopJ_exit ?_
          refine blockJ_hit ?_
          refine thenJ_normal ?_
          refine H_seq ?_
          refine H_mem (fun w hw => hw.pickN 8 [1, 0, 2, 3, 4, 5, 6, 7] (by decide) (by decide)) rfl ?_
          refine R0 ?_
          refine xV (e_mv (v := .pointer _) (q0 rfl)) rfl rfl ?_
          refine xV (e_nilc (q0 rfl)) rfl rfl ?_
          refine xV (e_fld Try.underlying77 rfl Try.sizeOf32 rfl (q0 rfl)) rfl rfl ?_
          refine xV (eL Try.isAgg32 (q0 rfl)) rfl rfl ?_
          refine X_eff (f_callM (en Try.call42 (ha2 (q0 rfl) (q0 rfl))) (fun w hw => sort40_w hw rfl hlen) rfl (fun _ => rfl) fun u => ?_)
          obtain ⟨zs, hz⟩ := u
          have hzl : zs.length = ty.xs.length := hz.perm.length_eq
          have hids := hjn.ji.ids
          have hu1 : zs.map (·.r) = byId (storyOf f xs).rides := byId_unique (by rw [← hty]; exact hz.perm.map _) (by
            refine List.pairwise_map.2 (List.pairwise_iff_getElem.2 fun p q hp hq hpq => ?_)
            have := hz.ok p q zs[p] zs[q] (Nat.zero_le _) hpq hq (List.getElem?_eq_getElem hp) (List.getElem?_eq_getElem hq)
            unfold xlt idLt at this
            simp at this
            exact this) hids
          refine XN ?_
          refine thenJ_normal ?_
          refine H_seq ?_
          refine R0 ?_
          refine xV (e_mv (v := .pointer _) (q0 rfl)) rfl rfl ?_
          refine xV (e_nilc (q0 rfl)) rfl rfl ?_
          refine xV (e_fld Try.underlying77 rfl Try.sizeOf32 rfl (q0 rfl)) rfl rfl ?_
          refine xV (eL Try.isAgg32 (q0 rfl)) rfl rfl ?_
          refine xV (e_as (v := .slice _ _ _) (q0 rfl)) rfl rfl ?_
          refine xV (e_as (v := .int _ _) (q0 rfl)) rfl rfl ?_
          refine XN ?_
          refine thenJ_normal ?_
          refine H_ret ?_
          exact ret2 (v := .slice _ _ _) (x := .int _ _) rfl rfl rfl rfl fun w' hw => ⟨⟨(yrA, yrc, zs), hu1⟩, by show Ending.returned (.tuple #[.slice yrA ty.xs.length yrc, _]) = .returned (.tuple #[.slice yrA zs.length yrc, _]); rw [hzl], (Mem.bagPerm (hw.pick [2, 0] (by decide)) (T' := zs.flatMap rdParts) (hz.perm.flatMap_right _)).pick [1, 0] (by decide)⟩

end Go.Proofs.Rid

/-
  Plain facts: rides that ended before a horizon do not change by later events.
-/
namespace Go.Proofs.Rid
open Go.Proofs.Cus

def isFin (hz : Int) (r : Rd) : Bool := !r.open_ && decide (r.end_.lo < hz)
theorem filter_set {α : Type} {p : α → Bool} {l : List α} {k : Nat} {x y : α} (hk : l[k]? = some x) (hx : p x = false) (hy : p y = false) : (l.set k y).filter p = l.filter p := by
  obtain ⟨h1, h2⟩ := List.getElem?_eq_some_iff.1 hk
  have e1 : l = l.take k ++ x :: l.drop (k + 1) := by
    rw [← h2, List.getElem_cons_drop, List.take_append_drop]
  have e2 : l.set k y = l.take k ++ y :: l.drop (k + 1) := by
    rw [List.set_eq_take_append_cons_drop, if_pos h1]
  rw [e2]
  conv => rhs; rw [e1]
  rw [List.filter_append, List.filter_append, List.filter_cons, List.filter_cons, if_neg (by rw [hy]; decide), if_neg (by rw [hx]; decide)]
theorem fin_step {hz : Int} {e : Ev} {y z : SY} (h : StForm e y z) (he : hz ≤ e.at_) : z.rides.filter (isFin hz) = y.rides.filter (isFin hz) := by
  cases h with
  | same _ h2 => rw [h2]
  | new fr _ h2 =>
    rw [h2, List.filter_append]
    have : isFin hz (newR e fr (spanE e)) = false := rfl
    simp [this]
  | one k r q p p' _ hk ho _ hs h2 =>
    rw [h2]
    refine filter_set hk (by unfold isFin; rw [ho]; rfl) ?_
    cases hs with
    | swap => unfold isFin swapR; simp [ho]
    | pause => unfold isFin pauseR; simp [ho]
    | resume => unfold isFin resumeR; split <;> simp [ho]
    | finish to => unfold isFin finishR spanE; simp; omega
theorem fin_run {f : Fl} {n : Nat} (hn : f.bikes = n) {hz : Int} : ∀ (l : List Ev) {N : Nat} {s : PS} {y : SY}, Joint n N s y → Replay f s l → (∀ e ∈ l, hz ≤ e.at_) → (l.foldl tellY y).rides.filter (isFin hz) = y.rides.filter (isFin hz)
  | [], _, _, _, _, _, _ => rfl
  | e :: l, N, s, y, h, ⟨h1, h2, h3, h4⟩, hz => by
    have hb := (evErr_ok h1).2.1
    rw [hn] at hb
    rw [List.foldl_cons, fin_run hn l (N := N + 1) ⟨h.ji.step h.inv h.wf hb h3, h.inv.step hb h3, h.wf.tell hb⟩ h4 fun e' he' => hz e' (List.mem_cons_of_mem _ he')]
    exact fin_step (tell_form h.ji h.inv hb h3) (hz e (by simp))
/-- the rides that ended before a horizon, by the events before it -/
theorem fin_until {f : Fl} (hok : flErr f = 0) (xs : List Ev) (hz : Int) : (storyOf f xs).rides.filter (isFin hz) = (storyOf f (untilP (hz - 1) xs)).rides.filter (isFin hz) := by
  obtain ⟨rest, hacc, hrr, hpre, hpost⟩ := acc_split hok xs (hz - 1)
  have hJ := joint_of hok (untilP (hz - 1) xs)
  have : storyOf f xs = rest.foldl tellY (storyOf f (untilP (hz - 1) xs)) := by unfold storyOf; rw [hacc, List.foldl_append]
  rw [this]
  exact fin_run (nb_eq hok) rest hJ hrr fun e he => by have := hpost e he; omega
theorem filter_byId {l m : List Rd} {p : Rd → Bool} (hl : (l.map (·.id)).Nodup) (hm : (m.map (·.id)).Nodup) (h : l.filter p = m.filter p) : (byId l).filter p = (byId m).filter p := by
  refine sorted_unique ?_ ((byId_strict hl).filter p) ((byId_strict hm).filter p)
  have h1 := (byId_perm l).filter p
  have h2 := (byId_perm m).filter p
  rw [h] at h1
  exact h1.trans h2.symm
theorem all_fin {f : Fl} {xs ys : List Ev} {hz : Int} (h : untilP (hz - 1) ys = untilP (hz - 1) xs) : (allOf f ys).filter (isFin hz) = (allOf f xs).filter (isFin hz) := by
  by_cases hok : flErr f = 0
  · unfold allOf
    rw [if_pos hok, if_pos hok]
    refine filter_byId (joint_of hok ys).ji.ids (joint_of hok xs).ji.ids ?_
    rw [fin_until hok ys hz, fin_until hok xs hz, h]
  · unfold allOf
    rw [if_neg hok, if_neg hok]
/-- events from the horizon on do not count -/
theorem until_more {hz : Int} (xs more : List Ev) : untilP (hz - 1) (xs ++ more.filter fun e => decide (hz ≤ e.at_)) = untilP (hz - 1) xs := by
  have hs := fun l : List Ev => (set_isSet l).sorted
  unfold untilP
  refine strict_unique ((hs _).filter _) ((hs _).filter _) fun e => ?_
  rw [List.mem_filter, List.mem_filter, (set_isSet _).mem, (set_isSet _).mem]
  constructor
  · rintro ⟨⟨h1, h2⟩, h3⟩
    have h4 : e.at_ ≤ hz - 1 := by simp at h3; omega
    have h5 : e ∈ xs := by
      rcases List.mem_append.1 h1 with h | h
      · exact h
      · have := (List.mem_filter.1 h).2
        simp at this; omega
    exact ⟨⟨h5, fun e' he' hn => h2 e' (List.mem_append.2 (.inl he')) hn⟩, h3⟩
  · rintro ⟨⟨h1, h2⟩, h3⟩
    have h4 : e.at_ ≤ hz - 1 := by simp at h3; omega
    refine ⟨⟨List.mem_append.2 (.inl h1), fun e' he' hn => ?_⟩, h3⟩
    rcases List.mem_append.1 he' with h | h
    · exact h2 e' h hn
    · have h6 := (List.mem_filter.1 h).2
      simp at h6
      cases hle : evLess e' e with
      | false => rfl
      | true =>
        have := at_of_less hle
        omega

end Go.Proofs.Rid

/-
  The walks of the laws: rides that ended before a horizon do not change by later events.
-/
namespace Go.Proofs.Rid
open Go Go.RowKit Go.Proofs.E Go.Proofs.Cus

theorem story40 (f : Fl) {xs : List Ev} (h : xs.length ≤ 80) : (storyOf f xs).rides.length ≤ 40 := by
  by_cases hok : flErr f = 0
  · have h1 := story_len hok xs
    have h2 := accOf_len f xs
    omega
  · have : accOf f xs = [] := by unfold accOf; rw [if_neg hok]
    unfold storyOf
    rw [this]
    exact Nat.zero_le _
theorem short_out {f : Fl} {xs : List Ev} {N : Nat} (h : xs.length ≤ N) (hN : N ≤ 100000) (y : RdsOut (allOf f xs)) : Short y.1.2.2 := fun x hx => by
  have := short_of f h x.r (by rw [← y.2]; exact List.mem_map_of_mem hx)
  omega
theorem out_len {f : Fl} {xs : List Ev} (y : RdsOut (allOf f xs)) : 2 * y.1.2.2.length ≤ xs.length := by
  have h := congrArg List.length y.2
  rw [List.length_map] at h
  have := all_len (f := f) xs
  omega
attribute [local irreducible] allOf flErr storyOf
set_option maxHeartbeats 1000000 in
set_option maxRecDepth 20000 in
theorem finalsLaw_w (f : Fl) (a : FA) (A : Option Addr) (n c : Nat) (xs : List Ev) (B : Option Addr) (m d : Nat) (more : List Ev) (hz : Int) (w : World) (hf : FlAt w f a) (hx : EvsAt w A n xs) (hpl : PlOk xs) (hy : EvsAt w B m more) (hpl2 : PlOk more) :
    Calls Try.prog 7 #[.agg (f.cells a).toArray, .slice A n c, .slice B m d, .int .i64 hz] w fun r w' => r = .returned (.bool true) ∧ Bel w w' := by
  have hl := hx.1
  have hl2 := hy.1
  refine H_enter Try.func7 rfl Try.ntmps7 rfl ?_
  refine H_seq ?_
  refine R0 ?_
  refine X_box (v := .agg _) rfl rfl fun b4 => ?_
  refine xV (e_as (v := .bool _) (q0 rfl)) rfl rfl ?_
  refine XN ?_
  refine thenJ_normal ?_
  refine H_seq ?_
  refine H_seq ?_
  refine R0 ?_
  refine xV (eS Try.isAgg42 Try.sizeOf42 (q0 rfl)) rfl rfl ?_
  refine xV (e_mv (v := .slice _ _ _) (q0 rfl)) rfl rfl ?_
  refine xC (en Try.call22 (ha2 (q0 rfl) (q0 rfl))) (fun _ w _ => few_w f a A n c w) rfl rfl ?_
  refine xV (e_not (q0 rfl)) rfl rfl ?_
  refine xV (e_mv (v := .bool _) (q0 rfl)) rfl rfl ?_
  refine xVF (e_mv (v := .slice _ _ _) (q0 rfl)) rfl rfl rfl rfl ?_
  refine xVF (e_len Try.underlying43 (q1 rfl)) rfl rfl rfl rfl ?_
  refine xVF (e_gt (q1 rfl) (q0 rfl)) rfl rfl rfl rfl ?_
  refine xV (e_or (q0 rfl) rfl (fun h => by first | rfl | (rw [h]; rfl))) rfl rfl ?_
  refine XN ?_
  refine thenJ_normal ?_
  refine H_cond rfl (fun h0 => ?_) (fun h0 => ?_)
  · refine H_seq ?_
    refine R0 ?_
    refine xC (en Try.call10 (ha0)) (fun _ w _ => awake_w w) rfl rfl ?_
    refine xV (e_as (v := .bool _) (q0 rfl)) rfl rfl ?_
    refine XN ?_
    refine thenJ_normal ?_
    refine H_ret ?_
    refine thenJ_ret ?_
    exact ret1 (v := .bool _) rfl rfl rfl fun w' hw => ⟨rfl, hw.1⟩
  · have h0' : ((!fewP a n) || decide ((40 : Int) < (m : Int))) = false := h0
    simp only [Bool.or_eq_false_iff, decide_eq_false_iff_not] at h0'
    have hn := few_n h0'.1
    have hm : m ≤ 40 := by omega
    subst hl
    subst hl2
    obtain ⟨T, hT⟩ : ∃ T : Nat → List Ev, ∀ k, T k = xs ++ (more.take k).filter fun e => decide (hz ≤ e.at_) := ⟨_, fun _ => rfl⟩
    have hT0 : T 0 = xs := by rw [hT]; simp
    have hTn : T more.length = xs ++ more.filter fun e => decide (hz ≤ e.at_) := by rw [hT, List.take_length]
    have hTs : ∀ k e, more[k]? = some e → T (k + 1) = T k ++ if decide (hz ≤ e.at_) = true then [e] else [] := fun k e h => by
      rw [hT, hT, take_snoc _ _ _ h, List.filter_append, List.append_assoc]
      congr 2
      rw [List.filter_cons]; split <;> rfl
    have hTl : ∀ k, (T k).length ≤ 80 := fun k => by
      rw [hT]
      have h1 := List.length_filter_le (fun e : Ev => decide (hz ≤ e.at_)) (more.take k)
      rw [List.length_take] at h1
      rw [List.length_append]; omega
    refine H_skip ?_
    refine thenJ_normal ?_
    refine H_seq ?_
    refine R0 ?_
    refine X_eff (f_slit0 Ev.cells Try.underlying43 Try.sizeOf50 rfl fun A0 c0 => ?_)
    refine xV (e_mv (v := .slice _ _ _) (q0 rfl)) rfl rfl ?_
    refine X_append (f_append (k := 9) (i := Try.t50) (enc := Ev.cells) 0 Try.underlying43 (by kernel_rfl) rfl rfl rfl rfl (fun _ => rfl) (fun _ => rfl) rfl rfl rfl (fun w hw => hx.mem hw) ⟨by simp; omega, by decide⟩ rfl fun A1 c1 => ?_)
    refine xV (e_as (v := .slice _ _ _) (q0 rfl)) rfl rfl ?_
    refine XN ?_
    refine thenJ_normal ?_
    refine H_seq ?_
    refine H_seq ?_
    refine R0 ?_
    refine xV (e_as (v := .int _ _) (q0 rfl)) rfl rfl ?_
    refine XN ?_
    refine thenJ_normal ?_
    refine H_block ?_
    refine H_loop [9, 10, 28, 29, 30, 31, 32, 33, 34, 35, 36, 37, 38, 39, 40, 41, 42, 43, 44, 45, 46, 47] (fun q : Nat × Option Addr × Nat => [(10, .int .i64 q.1), (9, .slice q.2.1 (T q.1).length q.2.2)]) (fun q => [evRow q.2.1 q.2.2 (T q.1), box b4 42 (f.cells a)]) (fun q => q.1 ≤ more.length) (fun q => more.length - q.1) (0, A1, c1) ⟨rfl, by rw [hT0]; rfl, trivial⟩ (fun w hw => by rw [hT0]; exact hw) rfl (Nat.zero_le _) ?_
    rintro ⟨k, oA, oc⟩ g hk
    simp only at hk
    refine H_seq ?_
    refine H_seq ?_
    refine R0 ?_
    refine xV (e_mv (v := .int _ _) (q0 rfl)) rfl rfl ?_
    refine xV (e_mv (v := .slice _ _ _) (q0 rfl)) rfl rfl ?_
    refine xV (e_len Try.underlying43 (q0 rfl)) rfl rfl ?_
    refine xV (e_lt (q0 rfl) (q0 rfl)) rfl rfl ?_
    refine XN ?_
    refine thenJ_normal ?_
    refine H_cond rfl (fun hlt => ?_) (fun hlt => ?_)
    · have hlt' : k < more.length := by simpa using hlt
      obtain ⟨b, off, e, rfl, hbl, he, hre⟩ := hy.at_ hlt'
      have hs := hTs k e he
      have hll := hTl k
      refine H_skip ?_
      refine thenJ_normal ?_
      refine H_seq ?_
      refine H_block ?_
      refine H_seq ?_
      refine R0 ?_
      refine xV (e_mv (v := .slice _ _ _) (q0 rfl)) rfl rfl ?_
      refine xV (e_mv (v := .int _ _) (q0 rfl)) rfl rfl ?_
      refine xV (e_idx _ Try.underlying43 Try.sizeOf50 (q0 rfl) (q0 rfl) (fun _ => ⟨rfl, by omega⟩)) rfl rfl ?_
      refine xV (e_fld Try.underlying50 rfl Try.sizeOf3 rfl (q0 rfl)) rfl rfl ?_
      refine xV (eL Try.isAgg3 (q0 rfl)) rfl rfl ?_
      refine xV (e_mv (v := .int _ _) (q0 rfl)) rfl rfl ?_
      refine xV (e_ge (q0 rfl) (q0 rfl)) rfl rfl ?_
      refine XN ?_
      refine thenJ_normal ?_
      refine H_cond rfl (fun hb => ?_) (fun hb => ?_)
      · rw [if_pos hb] at hs
        refine R0 ?_
        refine xV (e_mv (v := .slice _ _ _) (q0 rfl)) rfl rfl ?_
        refine xV (e_mv (v := .slice _ _ _) (q0 rfl)) rfl rfl ?_
        refine xV (e_mv (v := .int _ _) (q0 rfl)) rfl rfl ?_
        refine xV (e_idx _ Try.underlying43 Try.sizeOf50 (q0 rfl) (q0 rfl) (fun _ => ⟨rfl, by omega⟩)) rfl rfl ?_
        refine xV (eS Try.isAgg50 Try.sizeOf50 (q0 rfl)) rfl rfl ?_
        refine X_push (k := 9) (i := Try.t50) 0 (e) Try.underlying43 (by kernel_rfl) rfl rfl rfl rfl Try.sizeOf50 Try.zeroValue50 rfl rfl rfl rfl rfl rfl ⟨by simp only; omega, by decide⟩ rfl rfl fun PB A2 c2 => ?_
        refine xV (e_as (v := .slice _ _ _) (q0 rfl)) rfl rfl ?_
        refine XN ?_
        refine blockJ_normal ?_
        refine thenJ_normal ?_
        refine R0 ?_
        refine xV (e_mv (v := .int _ _) (q0 rfl)) rfl rfl ?_
        refine xV (e_add (q0 rfl) (q0 rfl) (fun _ => ⟨rfl, by omega, by omega⟩)) rfl rfl ?_
        refine xV (e_as (v := .int _ _) (q0 rfl)) rfl rfl ?_
        refine XN ?_
        exact loopJ_normal (k + 1, A2, c2) (by repeat (first | exact agree_self | exact agree_over | refine agree_upd rfl ?_ | refine agree_updL rfl ?_ | refine agree_over2 rfl ?_)) ⟨rfl, by show _ = Value.slice A2 (T (k + 1)).length c2; rw [hs]; rfl, trivial⟩ (fun w hw => by show Mem _ [evRow A2 c2 (T (k + 1)), _] w; rw [hs]; exact hw) rfl (by show k + 1 ≤ _; omega) (by show more.length - (k + 1) < more.length - k; omega)
      · rw [if_neg (by rw [hb]; decide), List.append_nil] at hs
        refine H_skip ?_
        refine blockJ_normal ?_
        refine thenJ_normal ?_
        refine R0 ?_
        refine xV (e_mv (v := .int _ _) (q0 rfl)) rfl rfl ?_
        refine xV (e_add (q0 rfl) (q0 rfl) (fun _ => ⟨rfl, by omega, by omega⟩)) rfl rfl ?_
        refine xV (e_as (v := .int _ _) (q0 rfl)) rfl rfl ?_
        refine XN ?_
        exact loopJ_normal (k + 1, oA, oc) (by repeat (first | exact agree_self | exact agree_over | refine agree_upd rfl ?_ | refine agree_updL rfl ?_ | refine agree_over2 rfl ?_)) ⟨rfl, by show _ = Value.slice oA (T (k + 1)).length oc; rw [hs]; rfl, trivial⟩ (fun w hw => by show Mem _ [evRow oA oc (T (k + 1)), _] w; rw [hs]; exact hw) rfl (by show k + 1 ≤ _; omega) (by show more.length - (k + 1) < more.length - k; omega)
    · have hend : k = more.length := by simp at hlt; omega
      subst hend
      have hMl := hTl more.length
      have hfin : (allOf f xs).filter (finalP hz) = (allOf f (T more.length)).filter (finalP hz) := by
        rw [hTn]
        exact (all_fin (until_more xs more)).symm
      have hMp : PlOk (T more.length) := fun e he => by
        rw [hTn] at he
        rcases List.mem_append.1 he with h | h
        · exact hpl e h
        · exact hpl2 e (List.mem_filter.1 h).1
      generalize T more.length = M at *
      have hr1 := story40 f (xs := xs) (by omega)
      have hr2 := story40 f (xs := M) (by omega)
      refine H_exit ?_
      refine thenJ_exit ?_
      refine loopJ_exit ?_
      refine blockJ_hit ?_
      refine thenJ_normal ?_
      refine H_seq ?_
      refine R0 ?_
      refine xV (eS Try.isAgg42 Try.sizeOf42 (q0 rfl)) rfl rfl ?_
      refine xV (e_mv (v := .slice _ _ _) (q0 rfl)) rfl rfl ?_
      refine xCX (en Try.call23 (ha2 (q0 rfl) (q0 rfl))) (fun w hw => all40_w f a A _ c xs w (hf.mem hw) (hx.mem hw) (by omega) hpl hr1) rfl (fun _ => rfl) fun x => ?_
      refine xV (e_mv (q0 rfl)) rfl rfl ?_
      refine xV (e_ext (q0 rfl) rfl) rfl rfl ?_
      refine xV (e_ext (q0 rfl) rfl) rfl rfl ?_
      refine xV (e_as (v := .slice _ _ _) (q0 rfl)) rfl rfl ?_
      refine xV (e_as (v := .int _ _) (q0 rfl)) rfl rfl ?_
      refine XN ?_
      refine thenJ_normal ?_
      refine H_seq ?_
      refine R0 ?_
      refine xV (eS Try.isAgg42 Try.sizeOf42 (q0 rfl)) rfl rfl ?_
      refine xV (e_mv (v := .slice _ _ _) (q0 rfl)) rfl rfl ?_
      refine xCX (en Try.call23 (ha2 (q0 rfl) (q0 rfl))) (fun w hw => all40_w f a oA _ oc M w (hf.mem hw) (slAt_row hw (j := 2) rfl (fun _ => rfl) (by omega)) (by omega) hMp hr2) rfl (fun _ => rfl) fun y => ?_
      have hx1 := short_out (N := 40) (by omega) (by omega) x
      have hy1 := short_out (N := 80) (by omega) (by omega) y
      have hx2 := out_len x
      have hy2 := out_len y
      have hsx : ∀ r ∈ allOf f xs, r.legs.length ≤ 100000 ∧ r.pauses.length ≤ 100000 := fun r hr => by have := short_of f (N := 40) (by omega) r hr; omega
      have hsy : ∀ r ∈ allOf f M, r.legs.length ≤ 100000 ∧ r.pauses.length ≤ 100000 := fun r hr => by have := short_of f (N := 80) (by omega) r hr; omega
      have hax := all_len (f := f) xs
      have hay := all_len (f := f) M
      have hfx : ((x.1.2.2.map (·.r)).filter (finalP hz)).length ≤ 100000 := by
        have := List.length_filter_le (finalP hz) (x.1.2.2.map (·.r))
        rw [List.length_map] at this; omega
      have hfy : ((y.1.2.2.map (·.r)).filter (finalP hz)).length ≤ 100000 := by
        have := List.length_filter_le (finalP hz) (y.1.2.2.map (·.r))
        rw [List.length_map] at this; omega
      have hgx : ∀ r ∈ (x.1.2.2.map (·.r)).filter (finalP hz), r.legs.length ≤ 100000 ∧ r.pauses.length ≤ 100000 := fun r hr => hsx r (by rw [← x.2]; exact (List.mem_filter.1 hr).1)
      have hgy : ∀ r ∈ (y.1.2.2.map (·.r)).filter (finalP hz), r.legs.length ≤ 100000 ∧ r.pauses.length ≤ 100000 := fun r hr => hsy r (by rw [← y.2]; exact (List.mem_filter.1 hr).1)
      refine xV (e_mv (q0 rfl)) rfl rfl ?_
      refine xV (e_ext (q0 rfl) rfl) rfl rfl ?_
      refine xV (e_ext (q0 rfl) rfl) rfl rfl ?_
      refine xV (e_as (v := .slice _ _ _) (q0 rfl)) rfl rfl ?_
      refine xV (e_as (v := .int _ _) (q0 rfl)) rfl rfl ?_
      refine XN ?_
      refine thenJ_normal ?_
      refine H_seq ?_
      refine R0 ?_
      refine xV (e_mv (v := .int _ _) (q0 rfl)) rfl rfl ?_
      refine xV (e_mv (v := .int _ _) (q0 rfl)) rfl rfl ?_
      refine xV (e_eq (q0 rfl) (q0 rfl)) rfl rfl ?_
      refine xV (e_mv (v := .bool _) (q0 rfl)) rfl rfl ?_
      refine xVT (e_mv (v := .slice _ _ _) (q0 rfl)) rfl rfl rfl rfl ?_
      refine xVT (e_mv (v := .int _ _) (q0 rfl)) rfl rfl rfl rfl ?_
      refine X_effG (Gd_true rfl rfl) (by first | rfl | decide | simp) (f_callx (en Try.call20 (ha2 (qk (v := .slice _ _ _) rfl (by first | rfl | decide | simp)) (qk (v := .int _ _) rfl (by first | rfl | decide | simp)))) (fun w hw => final_w x.1.1 _ x.1.2.1 x.1.2.2 hz w (rds_out x hw 2 3 rfl rfl (by omega) hsx) hx1 (by omega)) rfl (fun _ => rfl) fun o1 => ?_)
      refine xVT (e_mv (v := .slice _ _ _) (q0 rfl)) rfl rfl rfl rfl ?_
      refine xVT (e_mv (v := .int _ _) (q0 rfl)) rfl rfl rfl rfl ?_
      refine X_effG (Gd_true rfl rfl) (by first | rfl | decide | simp) (f_callx (en Try.call20 (ha2 (qk (v := .slice _ _ _) rfl (by first | rfl | decide | simp)) (qk (v := .int _ _) rfl (by first | rfl | decide | simp)))) (fun w hw => final_w y.1.1 _ y.1.2.1 y.1.2.2 hz w (rds_out y hw 2 3 rfl rfl (by omega) hsy) hy1 (by omega)) rfl (fun _ => rfl) fun o2 => ?_)
      have e1 : o1.1.2.2.map (·.r) = o2.1.2.2.map (·.r) := by rw [o1.2, o2.2, x.2, y.2]; exact hfin
      refine xCT (en Try.call17 (ha2 (q0 (v := .slice _ _ _) rfl) (q0 (v := .slice _ _ _) rfl))) (fun _ w hw => sameT e1 (rds_new o1 hw 2 3 rfl rfl hfx hgx) (rds_new o2 hw 0 1 rfl rfl hfy hgy)) rfl rfl rfl rfl ?_
      refine xV (e_and (q0 rfl) rfl (fun h => by first | rfl | (rw [h]; rfl))) rfl rfl ?_
      refine xV (e_mv (v := .bool _) (q0 rfl)) rfl rfl ?_
      refine xCT (en Try.call10 (ha0)) (fun _ w _ => awake_w w) rfl rfl rfl rfl ?_
      refine xV (e_and (q0 rfl) rfl (fun h => by first | rfl | (rw [h]; rfl))) rfl rfl ?_
      refine xV (e_as (v := .bool _) (q0 rfl)) rfl rfl ?_
      refine XN ?_
      refine thenJ_normal ?_
      refine H_ret ?_
      exact ret1 (v := .bool _) rfl rfl rfl fun w' hw => ⟨ret_bool (by simp), hw.1⟩

end Go.Proofs.Rid
