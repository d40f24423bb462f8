import Derived.Test.YtbocfacfgddbcaaGreatFarEb
import Derived.Test.YtbocfacfgddbcaaGreatProg
import Derived.Test.YtbocfacfgddbcaaGreatFarEa
set_option linter.unusedVariables false
set_option linter.unusedSimpArgs false
/-
  Plain functions: windows of moments; their union in normal form, which is the only one.
-/
namespace Go.Proofs.Far

structure Wn where
  lo : Int
  hi : Int
deriving DecidableEq, Inhabited
def wnOk (w : Wn) : Bool := (decide (0 ≤ w.lo) && decide (w.lo ≤ w.hi)) && decide (w.hi ≤ 4294944000)
def has (l : List Wn) (t : Int) : Prop := ∃ w ∈ l, w.lo ≤ t ∧ t < w.hi
/-- a further window, in the order of their beginnings -/
def mergeF (out : List Wn) (w : Wn) : List Wn :=
  if w.lo = w.hi then out
  else match out.getLast? with
    | none => out ++ [w]
    | some z => if w.lo ≤ z.hi then out.dropLast ++ [⟨z.lo, max z.hi w.hi⟩] else out ++ [w]
def normP (l : List Wn) : List Wn := l.foldl mergeF []
def byLo (l : List Wn) : List Wn := l.mergeSort fun x y => decide (x.lo ≤ y.lo)
def unionP (l : List Wn) : List Wn := normP (byLo l)
def sumW (l : List Wn) : Int := (l.map fun w => w.hi - w.lo).sum
def lenP (l : List Wn) : Int := sumW (unionP l)

/-- normal form -/
structure Nf (l : List Wn) : Prop where
  pos : ∀ w ∈ l, w.lo < w.hi
  apart : l.Pairwise fun a b => a.hi < b.lo
theorem Nf.tail {a : Wn} {l : List Wn} (h : Nf (a :: l)) : Nf l := ⟨fun w hw => h.pos w (List.mem_cons_of_mem _ hw), (List.pairwise_cons.1 h.apart).2⟩
theorem has_cons {a : Wn} {l : List Wn} {t : Int} : has (a :: l) t ↔ (a.lo ≤ t ∧ t < a.hi) ∨ has l t := by
  unfold has
  simp
theorem has_append {l m : List Wn} {t : Int} : has (l ++ m) t ↔ has l t ∨ has m t := by
  unfold has
  constructor
  · rintro ⟨w, hw, h⟩
    rcases List.mem_append.1 hw with hw | hw
    · exact .inl ⟨w, hw, h⟩
    · exact .inr ⟨w, hw, h⟩
  · rintro (⟨w, hw, h⟩ | ⟨w, hw, h⟩)
    · exact ⟨w, List.mem_append.2 (.inl hw), h⟩
    · exact ⟨w, List.mem_append.2 (.inr hw), h⟩
theorem not_has_nil {t : Int} : ¬ has [] t := by rintro ⟨w, hw, _⟩; cases hw
/-- what lies behind the first window of a normal form lies behind its end -/
theorem Nf.later {a : Wn} {l : List Wn} (h : Nf (a :: l)) {t : Int} (ht : has l t) : a.hi < t := by
  obtain ⟨w, hw, h1, h2⟩ := ht
  have := (List.pairwise_cons.1 h.apart).1 w hw
  omega
theorem Nf.unique : ∀ {l m : List Wn}, Nf l → Nf m → (∀ t, has l t ↔ has m t) → l = m
  | [], [], _, _, _ => rfl
  | [], b :: m, _, hm, h => by
    have hb := hm.pos b (by simp)
    exact absurd ((h b.lo).2 (has_cons.2 (.inl ⟨Int.le_refl _, hb⟩))) not_has_nil
  | a :: l, [], hl, _, h => by
    have ha := hl.pos a (by simp)
    exact absurd ((h a.lo).1 (has_cons.2 (.inl ⟨Int.le_refl _, ha⟩))) not_has_nil
  | a :: l, b :: m, hl, hm, h => by
    have ha := hl.pos a (by simp)
    have hb := hm.pos b (by simp)
    have first : ∀ {x : Wn} {k : List Wn}, Nf (x :: k) → ∀ t, has (x :: k) t → x.lo ≤ t := fun {x k} hx t ht => by
      have hp := hx.pos x (by simp)
      rcases has_cons.1 ht with h1 | h1
      · exact h1.1
      · have := hx.later h1; omega
    have hlo : a.lo = b.lo := by
      have h1 := first hm a.lo ((h a.lo).1 (has_cons.2 (.inl ⟨Int.le_refl _, ha⟩)))
      have h2 := first hl b.lo ((h b.lo).2 (has_cons.2 (.inl ⟨Int.le_refl _, hb⟩)))
      omega
    have stop : ∀ {x : Wn} {k : List Wn}, Nf (x :: k) → ¬ has (x :: k) x.hi := fun {x k} hx ht => by
      rcases has_cons.1 ht with h1 | h1
      · omega
      · have := hx.later h1; omega
    have hhi : a.hi = b.hi := by
      rcases Int.lt_trichotomy a.hi b.hi with h1 | h1 | h1
      · exact absurd ((h a.hi).2 (has_cons.2 (.inl ⟨by omega, h1⟩))) (stop hl)
      · exact h1
      · exact absurd ((h b.hi).1 (has_cons.2 (.inl ⟨by omega, h1⟩))) (stop hm)
    have hab : a = b := by
      cases a; cases b
      simp only at hlo hhi
      rw [hlo, hhi]
    subst hab
    have ht : ∀ t, has l t ↔ has m t := fun t => by
      constructor
      · intro h1
        rcases has_cons.1 ((h t).1 (has_cons.2 (.inr h1))) with h2 | h2
        · have := hl.later h1; omega
        · exact h2
      · intro h1
        rcases has_cons.1 ((h t).2 (has_cons.2 (.inr h1))) with h2 | h2
        · have := hm.later h1; omega
        · exact h2
    rw [Nf.unique hl.tail hm.tail ht]

/-- one more window -/
theorem mergeF_ok {out : List Wn} {w : Wn} (h : Nf out) (hw : w.lo ≤ w.hi) (hlast : ∀ z ∈ out, z.lo ≤ w.lo) : Nf (mergeF out w) ∧ (∀ t, has (mergeF out w) t ↔ has out t ∨ (w.lo ≤ t ∧ t < w.hi)) ∧ ∀ z ∈ mergeF out w, z.lo ≤ w.lo := by
  unfold mergeF
  by_cases he : w.lo = w.hi
  · rw [if_pos he]
    exact ⟨h, fun t => ⟨.inl, fun h1 => by rcases h1 with h1 | h1; exact h1; omega⟩, hlast⟩
  · rw [if_neg he]
    rcases List.eq_nil_or_concat out with rfl | ⟨l, z, rfl⟩
    · refine ⟨⟨fun x hx => ?_, by simp⟩, fun t => ?_, fun x hx => ?_⟩
      · simp at hx; subst hx; omega
      · simp only [List.getLast?_nil, List.nil_append]
        rw [has_cons]
        exact or_comm
      · simp at hx; subst hx; omega
    · rw [List.concat_eq_append] at h hlast ⊢
      rw [List.getLast?_append, List.getLast?_singleton]
      simp only [Option.some_or]
      have hz := h.pos z (by simp)
      have hzl := hlast z (by simp)
      have hp := List.pairwise_append.1 h.apart
      by_cases hc : w.lo ≤ z.hi
      · rw [if_pos hc, List.dropLast_concat]
        refine ⟨⟨fun x hx => ?_, ?_⟩, fun t => ?_, fun x hx => ?_⟩
        · rcases List.mem_append.1 hx with hx | hx
          · exact h.pos x (List.mem_append.2 (.inl hx))
          · simp at hx; subst hx; simp only; omega
        · refine List.pairwise_append.2 ⟨hp.1, by simp, fun x hx y hy => ?_⟩
          simp at hy
          subst hy
          exact hp.2.2 x hx z (by simp)
        · rw [has_append, has_append, has_cons, has_cons]
          have hn : ¬ has [] t := not_has_nil
          simp only
          constructor
          · rintro (h1 | h1 | h1)
            · exact .inl (.inl h1)
            · by_cases h2 : t < z.hi
              · exact .inl (.inr (.inl ⟨h1.1, h2⟩))
              · right; omega
            · exact absurd h1 hn
          · rintro ((h1 | h1 | h1) | h1)
            · exact .inl h1
            · exact .inr (.inl (by omega))
            · exact absurd h1 hn
            · exact .inr (.inl (by omega))
        · rcases List.mem_append.1 hx with hx | hx
          · exact hlast x (List.mem_append.2 (.inl hx))
          · simp at hx; subst hx; exact hzl
      · rw [if_neg hc]
        refine ⟨⟨fun x hx => ?_, ?_⟩, fun t => ?_, fun x hx => ?_⟩
        · rcases List.mem_append.1 hx with hx | hx
          · exact h.pos x hx
          · simp at hx; subst hx; omega
        · refine List.pairwise_append.2 ⟨h.apart, by simp, fun x hx y hy => ?_⟩
          simp at hy
          subst hy
          rcases List.mem_append.1 hx with hx | hx
          · have := hp.2.2 x hx z (by simp); omega
          · simp at hx; subst hx; omega
        · rw [has_append, has_cons]
          have hn : ¬ has [] t := not_has_nil
          constructor
          · rintro (h1 | h1 | h1)
            · exact .inl h1
            · exact .inr h1
            · exact absurd h1 hn
          · rintro (h1 | h1)
            · exact .inl h1
            · exact .inr (.inl h1)
        · rcases List.mem_append.1 hx with hx | hx
          · exact hlast x hx
          · simp at hx; subst hx; omega
theorem fold_ok : ∀ (l out : List Wn), Nf out → (∀ w ∈ l, w.lo ≤ w.hi) → l.Pairwise (fun a b => a.lo ≤ b.lo) → (∀ z ∈ out, ∀ w ∈ l, z.lo ≤ w.lo) → Nf (l.foldl mergeF out) ∧ ∀ t, has (l.foldl mergeF out) t ↔ has out t ∨ has l t
  | [], out, h, _, _, _ => ⟨h, fun t => ⟨.inl, fun h1 => h1.elim id fun h2 => absurd h2 not_has_nil⟩⟩
  | w :: l, out, h, hv, hs, hz => by
    obtain ⟨h1, h2, h3⟩ := mergeF_ok h (hv w (by simp)) (fun z hzm => hz z hzm w (by simp))
    have hs' := List.pairwise_cons.1 hs
    obtain ⟨h4, h5⟩ := fold_ok l (mergeF out w) h1 (fun x hx => hv x (List.mem_cons_of_mem _ hx)) hs'.2 (fun z hzm x hx => by
      have := h3 z hzm
      have := hs'.1 x hx
      omega)
    refine ⟨h4, fun t => ?_⟩
    rw [List.foldl_cons, h5, h2, has_cons, or_assoc]
/-- a sorted list's normal form depends on what it holds alone -/
theorem norm_nf {l : List Wn} (hv : ∀ w ∈ l, w.lo ≤ w.hi) (hs : l.Pairwise fun a b => a.lo ≤ b.lo) : Nf (normP l) ∧ ∀ t, has (normP l) t ↔ has l t := by
  obtain ⟨h1, h2⟩ := fold_ok l [] ⟨fun w hw => (by cases hw), List.Pairwise.nil⟩ hv hs (fun z hz => (by cases hz))
  exact ⟨h1, fun t => by rw [show normP l = l.foldl mergeF [] from rfl, h2]; exact ⟨fun h => h.elim (fun h => absurd h not_has_nil) id, .inr⟩⟩
theorem byLo_perm (l : List Wn) : (byLo l).Perm l := List.mergeSort_perm _ _
theorem byLo_sorted (l : List Wn) : (byLo l).Pairwise fun a b => a.lo ≤ b.lo := by
  have := List.pairwise_mergeSort (le := fun x y : Wn => decide (x.lo ≤ y.lo)) (fun a b c h1 h2 => by simp at *; omega) (fun a b => by simp; omega) l
  exact this.imp fun h => by simpa using h
theorem has_perm {l m : List Wn} (h : l.Perm m) (t : Int) : has l t ↔ has m t := by
  unfold has
  constructor
  · rintro ⟨w, hw, h1⟩; exact ⟨w, h.mem_iff.1 hw, h1⟩
  · rintro ⟨w, hw, h1⟩; exact ⟨w, h.mem_iff.2 hw, h1⟩
theorem union_nf {l : List Wn} (hv : ∀ w ∈ l, w.lo ≤ w.hi) : Nf (unionP l) ∧ ∀ t, has (unionP l) t ↔ has l t := by
  obtain ⟨h1, h2⟩ := norm_nf (fun w hw => hv w ((byLo_perm l).mem_iff.1 hw)) (byLo_sorted l)
  exact ⟨h1, fun t => (h2 t).trans (has_perm (byLo_perm l) t)⟩
theorem union_congr {l m : List Wn} (hl : ∀ w ∈ l, w.lo ≤ w.hi) (hm : ∀ w ∈ m, w.lo ≤ w.hi) (h : ∀ t, has l t ↔ has m t) : unionP l = unionP m := by
  obtain ⟨h1, h2⟩ := union_nf hl
  obtain ⟨h3, h4⟩ := union_nf hm
  exact Nf.unique h1 h3 fun t => by rw [h2, h4, h]
/-- any order that is sorted will do -/
theorem norm_any {l s : List Wn} (hl : ∀ w ∈ l, w.lo ≤ w.hi) (hp : s.Perm l) (hs : s.Pairwise fun a b => a.lo ≤ b.lo) : normP s = unionP l := by
  obtain ⟨h1, h2⟩ := norm_nf (fun w hw => hl w (hp.mem_iff.1 hw)) hs
  obtain ⟨h3, h4⟩ := union_nf hl
  exact Nf.unique h1 h3 fun t => by rw [h2, h4, has_perm hp]
theorem wnOk_le {w : Wn} (h : wnOk w = true) : 0 ≤ w.lo ∧ w.lo ≤ w.hi ∧ w.hi ≤ 4294944000 := by
  unfold wnOk at h
  simp at h
  omega

end Go.Proofs.Far

/-
  Plain functions: what is left of a window when others are cut out, and what it has in common with others.
-/
namespace Go.Proofs.Far

/-- one hole; the second part is how far the window is done -/
def mstep (w : Wn) (s : List Wn × Int) (h : Wn) : List Wn × Int :=
  if w.hi ≤ h.lo then s else (if s.2 < h.lo then s.1 ++ [⟨s.2, h.lo⟩] else s.1, max s.2 h.hi)
def mend (w : Wn) (s : List Wn × Int) : List Wn := if s.2 < w.hi then s.1 ++ [⟨s.2, w.hi⟩] else s.1
def minus1 (w : Wn) (y : List Wn) : List Wn := mend w (y.foldl (mstep w) ([], w.lo))
def one (w : Wn) : List Wn := if w.lo = w.hi then [] else [w]
/-- the window w (if it is not empty) without those of y -/
def minusP (w : Wn) (y : List Wn) : List Wn := (one w).flatMap fun x => minus1 x y
def cut1 (w h : Wn) : List Wn := if max w.lo h.lo < min w.hi h.hi then [⟨max w.lo h.lo, min w.hi h.hi⟩] else []
def commonP (w : Wn) (y : List Wn) : List Wn := (one w).flatMap fun x => y.flatMap (cut1 x)
theorem union_one (w : Wn) : unionP [w] = one w := by
  unfold unionP byLo normP mergeF one
  rw [List.mergeSort_singleton]
  simp only [List.foldl_cons, List.foldl_nil, List.getLast?_nil, List.nil_append]
theorem one_mem {w x : Wn} (h : x ∈ one w) : x = w ∧ w.lo ≠ w.hi := by
  unfold one at h
  split at h
  · cases h
  · simp at h; exact ⟨h, by assumption⟩
/-- behind a window's end no hole counts -/
theorem mstep_late {w : Wn} : ∀ {y : List Wn} (s : List Wn × Int), (∀ h ∈ y, w.hi ≤ h.lo) → y.foldl (mstep w) s = s
  | [], _, _ => rfl
  | h :: y, s, hy => by
    rw [List.foldl_cons, show mstep w s h = s by unfold mstep; rw [if_pos (hy h (by simp))]]
    exact mstep_late s fun x hx => hy x (List.mem_cons_of_mem _ hx)
theorem Nf.ascend {a : Wn} {l : List Wn} (h : Nf (a :: l)) : ∀ x ∈ l, a.lo ≤ x.lo := fun x hx => by
  have h1 := (List.pairwise_cons.1 h.apart).1 x hx
  have h2 := h.pos a (by simp)
  omega
theorem Nf.drop {l : List Wn} (h : Nf l) (k : Nat) : Nf (l.drop k) := ⟨fun w hw => h.pos w (List.mem_of_mem_drop hw), h.apart.sublist (List.drop_sublist k l)⟩
/-- before a window's beginning no hole counts -/
theorem mstep_early {w h : Wn} {s : List Wn × Int} (hp : h.lo < h.hi) (hl : h.hi ≤ s.2) : mstep w s h = s := by
  unfold mstep
  split
  · rfl
  · rw [if_neg (by omega), show max s.2 h.hi = s.2 by omega]

/-! all windows lie among the moments -/
def WOk (l : List Wn) : Prop := ∀ w ∈ l, 0 ≤ w.lo ∧ w.lo ≤ w.hi ∧ w.hi ≤ 4294944000
theorem WOk.le {l : List Wn} (h : WOk l) : ∀ w ∈ l, w.lo ≤ w.hi := fun w hw => (h w hw).2.1
theorem WOk.nil : WOk [] := fun w hw => by cases hw
theorem WOk.append {l m : List Wn} (hl : WOk l) (hm : WOk m) : WOk (l ++ m) := fun w hw => by
  rcases List.mem_append.1 hw with h | h
  · exact hl w h
  · exact hm w h
theorem WOk.one {w : Wn} (h : 0 ≤ w.lo ∧ w.lo ≤ w.hi ∧ w.hi ≤ 4294944000) : WOk [w] := fun x hx => by simp at hx; subst hx; exact h
theorem mergeF_WOk {out : List Wn} {w : Wn} (h : WOk out) (hw : 0 ≤ w.lo ∧ w.lo ≤ w.hi ∧ w.hi ≤ 4294944000) : WOk (mergeF out w) := by
  unfold mergeF
  split
  · exact h
  · split
    · exact h.append (WOk.one hw)
    · rename_i z hz
      have hzm := List.mem_of_getLast? hz
      have h1 := h z hzm
      split
      · refine WOk.append (fun x hx => h x (List.dropLast_subset _ hx)) (WOk.one ?_)
        simp only
        omega
      · exact h.append (WOk.one hw)
theorem fold_WOk : ∀ (l out : List Wn), WOk out → WOk l → WOk (l.foldl mergeF out)
  | [], _, h, _ => h
  | w :: l, out, h, hl => by
    rw [List.foldl_cons]
    exact fold_WOk l _ (mergeF_WOk h (hl w (by simp))) fun x hx => hl x (List.mem_cons_of_mem _ hx)
theorem union_WOk {l : List Wn} (h : WOk l) : WOk (unionP l) := fold_WOk (byLo l) [] WOk.nil fun w hw => h w ((byLo_perm l).mem_iff.1 hw)
theorem mergeF_len (out : List Wn) (w : Wn) : (mergeF out w).length ≤ out.length + 1 := by
  unfold mergeF
  split
  · omega
  · split
    · simp
    · split
      · simp
      · simp
theorem fold_len : ∀ (l out : List Wn), (l.foldl mergeF out).length ≤ out.length + l.length
  | [], out => by simp
  | w :: l, out => by
    rw [List.foldl_cons, List.length_cons]
    have h1 := fold_len l (mergeF out w)
    have h2 := mergeF_len out w
    omega
theorem union_len (l : List Wn) : (unionP l).length ≤ l.length := by
  have h1 := fold_len (byLo l) []
  have h2 := (byLo_perm l).length_eq
  unfold unionP normP
  simp only [List.length_nil, Nat.zero_add] at h1
  omega
theorem mstep_WOk {w h : Wn} {s : List Wn × Int} (hw : 0 ≤ w.lo ∧ w.lo ≤ w.hi ∧ w.hi ≤ 4294944000) (hh : 0 ≤ h.lo ∧ h.lo ≤ h.hi ∧ h.hi ≤ 4294944000) (hs : WOk s.1 ∧ 0 ≤ s.2 ∧ s.2 ≤ 4294944000) : WOk (mstep w s h).1 ∧ 0 ≤ (mstep w s h).2 ∧ (mstep w s h).2 ≤ 4294944000 := by
  unfold mstep
  split
  · exact hs
  · refine ⟨?_, by simp only; omega, by simp only; omega⟩
    simp only
    split
    · exact hs.1.append (WOk.one (by simp only; omega))
    · exact hs.1
theorem mfold_WOk {w : Wn} (hw : 0 ≤ w.lo ∧ w.lo ≤ w.hi ∧ w.hi ≤ 4294944000) : ∀ (y : List Wn) (s : List Wn × Int), WOk y → (WOk s.1 ∧ 0 ≤ s.2 ∧ s.2 ≤ 4294944000) → WOk (y.foldl (mstep w) s).1 ∧ 0 ≤ (y.foldl (mstep w) s).2 ∧ (y.foldl (mstep w) s).2 ≤ 4294944000
  | [], s, _, hs => hs
  | h :: y, s, hy, hs => by
    rw [List.foldl_cons]
    exact mfold_WOk hw y _ (fun x hx => hy x (List.mem_cons_of_mem _ hx)) (mstep_WOk hw (hy h (by simp)) hs)
theorem mfold_len {w : Wn} : ∀ (y : List Wn) (s : List Wn × Int), (y.foldl (mstep w) s).1.length ≤ s.1.length + y.length
  | [], s => by simp
  | h :: y, s => by
    rw [List.foldl_cons, List.length_cons]
    have h1 := mfold_len (w := w) y (mstep w s h)
    have h2 : (mstep w s h).1.length ≤ s.1.length + 1 := by
      unfold mstep
      split
      · omega
      · simp only
        split <;> simp
    omega
theorem minus_WOk {w : Wn} (hw : 0 ≤ w.lo ∧ w.lo ≤ w.hi ∧ w.hi ≤ 4294944000) {y : List Wn} (hy : WOk y) : WOk (minusP w y) := fun x hx => by
  unfold minusP at hx
  obtain ⟨z, hz, hx2⟩ := List.mem_flatMap.1 hx
  clear hx
  obtain ⟨rfl, _⟩ := one_mem hz
  obtain ⟨h1, h2, h3⟩ := mfold_WOk hw y ([], z.lo) hy ⟨WOk.nil, by simp only; omega, by simp only; omega⟩
  unfold minus1 mend at hx2
  split at hx2
  · exact (h1.append (WOk.one (by simp only; omega))) x hx2
  · exact h1 x hx2
theorem common_WOk {w : Wn} (hw : 0 ≤ w.lo ∧ w.lo ≤ w.hi ∧ w.hi ≤ 4294944000) {y : List Wn} (hy : WOk y) : WOk (commonP w y) := fun x hx => by
  unfold commonP at hx
  obtain ⟨z, hz, hx2⟩ := List.mem_flatMap.1 hx
  clear hx
  obtain ⟨rfl, _⟩ := one_mem hz
  obtain ⟨h, hh, hx3⟩ := List.mem_flatMap.1 hx2
  clear hx2
  unfold cut1 at hx3
  have := hy h hh
  split at hx3
  · simp at hx3; subst hx3; simp only; omega
  · cases hx3

end Go.Proofs.Far

/-
  Plain functions: versions of the tariff, passes, limits of the day (no program in sight).
-/
namespace Go.Proofs.Far

/-! versions -/
structure Tf where
  from_ : Int
  unlock : Int
  step : Int
  free : Int
  price : Int
  pause : Int
deriving DecidableEq, Inhabited
def inI (n lo hi : Int) : Bool := decide (lo ≤ n) && decide (n ≤ hi)
def tfOk (t : Tf) : Bool := ((((inI t.from_ 0 4294943999 && inI t.unlock 0 1000000) && inI t.price 0 1000000) && inI t.pause 0 1000000) && inI t.step 1 86400) && inI t.free 0 86400
def tfOrd : Option Tf → Tf → Bool
  | none, t => decide (t.from_ ≠ 0)
  | some q, t => decide (t.from_ ≤ q.from_)
/-- the error of the versions from one on; p is the version before it -/
def tfErrL : Option Tf → List Tf → Int
  | _, [] => 0
  | p, t :: l =>
    if tfOk t = false then 1
    else if tfOrd p t = true then 9
    else tfErrL (some t) l
def tfErr (l : List Tf) : Int := if l.length = 0 then 10 else if 8 < l.length then 8 else tfErrL none l
/-- the last version that has begun -/
def atL (t : Int) : Nat → Nat → List Tf → Nat
  | a, _, [] => a
  | a, k, x :: l => atL t (if x.from_ ≤ t then k else a) (k + 1) l
def atP (l : List Tf) (t : Int) : Nat := atL t 0 0 l
def stepsP (t : Tf) (secs : Int) : Int := (max secs 0 + t.step - 1) / t.step
def ridP (t : Tf) (secs : Int) : Int := t.price * stepsP t (secs - t.free)
def pauP (t : Tf) (secs : Int) : Int := t.pause * stepsP t secs
def money (n : Int) : Int × Int := if 1000000000000 < n then (0, 2) else (n, 0)
theorem inI_iff {n lo hi : Int} : inI n lo hi = true ↔ lo ≤ n ∧ n ≤ hi := by unfold inI; simp
theorem tfOk_iff {t : Tf} : tfOk t = true ↔ (0 ≤ t.from_ ∧ t.from_ ≤ 4294943999) ∧ (0 ≤ t.unlock ∧ t.unlock ≤ 1000000) ∧ (0 ≤ t.price ∧ t.price ≤ 1000000) ∧ (0 ≤ t.pause ∧ t.pause ≤ 1000000) ∧ (1 ≤ t.step ∧ t.step ≤ 86400) ∧ (0 ≤ t.free ∧ t.free ≤ 86400) := by
  unfold tfOk
  simp only [Bool.and_eq_true, inI_iff, and_assoc]
theorem steps_le {t : Tf} (h : 1 ≤ t.step ∧ t.step ≤ 86400) {s : Int} (hs : s ≤ 4294944000) : 0 ≤ stepsP t s ∧ stepsP t s ≤ 4294944000 := by
  unfold stepsP
  have h0 : 0 ≤ max s 0 := by omega
  have h1 : max s 0 ≤ 4294944000 := by omega
  constructor
  · exact Int.ediv_nonneg (by omega) (by omega)
  · have hq : (max s 0 + t.step - 1) / t.step ≤ max s 0 := by
      rw [Int.ediv_le_iff_le_mul (by omega)]
      have : max s 0 * 1 ≤ max s 0 * t.step := Int.mul_le_mul_of_nonneg_left h.1 h0
      have : max s 0 * t.step + (t.step - 1) ≥ max s 0 + t.step - 1 := by omega
      omega
    omega
/-- the version before the k-th -/
def tfPre (l : List Tf) : Nat → Option Tf
  | 0 => none
  | k + 1 => l[k]?
theorem tfErrL_step {l : List Tf} {k : Nat} {t : Tf} (h : l[k]? = some t) (h0 : tfOk t = true) (h1 : tfOrd (tfPre l k) t = false) : tfErrL (tfPre l k) (l.drop k) = tfErrL (tfPre l (k + 1)) (l.drop (k + 1)) := by
  obtain ⟨hk, e⟩ := List.getElem?_eq_some_iff.1 h
  rw [List.drop_eq_getElem_cons hk, e]
  show tfErrL _ (t :: _) = tfErrL (l[k]?) _
  rw [h]
  conv => lhs; unfold tfErrL
  rw [if_neg (by rw [h0]; decide), if_neg (by rw [h1]; decide)]
theorem tfErrL_bad {l : List Tf} {k : Nat} {t : Tf} (h : l[k]? = some t) (h0 : tfOk t = false) : tfErrL (tfPre l k) (l.drop k) = 1 := by
  obtain ⟨hk, e⟩ := List.getElem?_eq_some_iff.1 h
  rw [List.drop_eq_getElem_cons hk, e]
  unfold tfErrL
  rw [if_pos h0]
theorem tfErrL_ord {l : List Tf} {k : Nat} {t : Tf} (h : l[k]? = some t) (h0 : tfOk t = true) (h1 : tfOrd (tfPre l k) t = true) : tfErrL (tfPre l k) (l.drop k) = 9 := by
  obtain ⟨hk, e⟩ := List.getElem?_eq_some_iff.1 h
  rw [List.drop_eq_getElem_cons hk, e]
  unfold tfErrL
  rw [if_neg (by rw [h0]; decide), if_pos h1]
theorem tfErrL_ok : ∀ {l : List Tf} {p : Option Tf}, tfErrL p l = 0 → ∀ t ∈ l, tfOk t = true
  | [], _, _, t, ht => by cases ht
  | x :: l, p, h, t, ht => by
    unfold tfErrL at h
    split at h
    · cases h
    · rename_i h1
      split at h
      · cases h
      · rcases List.mem_cons.1 ht with rfl | ht
        · simpa using h1
        · exact tfErrL_ok h t ht
theorem tfErr_ok {l : List Tf} (h : tfErr l = 0) : 0 < l.length ∧ l.length ≤ 8 ∧ ∀ t ∈ l, tfOk t = true := by
  unfold tfErr at h
  split at h
  · cases h
  · split at h
    · cases h
    · exact ⟨by omega, by omega, tfErrL_ok h⟩
theorem atL_lt (t : Int) : ∀ (l : List Tf) (a k : Nat), a < k + l.length → 0 < l.length ∨ a < k → atL t a k l < k + l.length
  | [], a, k, h, _ => h
  | x :: l, a, k, h, h2 => by
    unfold atL
    rw [List.length_cons] at h ⊢
    have := atL_lt t l (if x.from_ ≤ t then k else a) (k + 1) (by split <;> omega) (by
      by_cases hl : 0 < l.length
      · exact .inl hl
      · right
        split
        · omega
        · omega)
    omega
theorem atP_lt {l : List Tf} (h : 0 < l.length) (t : Int) : atP l t < l.length := by
  have := atL_lt t l 0 0 (by omega) (.inl h)
  unfold atP
  omega

end Go.Proofs.Far

/-
  Plain functions: passes and the rides that they pay; what is paid of a day's amounts (no program in sight).
-/
namespace Go.Proofs.Far

structure Pas where
  id : Int
  rider : Int
  from_ : Int
  to_ : Int
  perDay : Int
  secs : Int
deriving DecidableEq, Inhabited
def pasBad1 (p : Pas) : Bool := ((!inI p.id 1 1000000 || !inI p.rider 0 127) || !inI p.perDay 1 256) || !inI p.secs 0 86400
def pasBad2 (p : Pas) : Bool := (decide (p.from_ < 0) || decide (p.to_ ≤ p.from_)) || decide (49710 < p.to_)
def pasBad (p : Pas) : Bool := pasBad1 p || pasBad2 p
/-- is a number in the list, but for the first time -/
def twiceI : List Int → List Int → Bool
  | _, [] => false
  | seen, x :: l => seen.any (fun y => y == x) || twiceI (seen ++ [x]) l
def pasErr (l : List Pas) : Int := if 64 < l.length then 8 else if l.any pasBad = true then 1 else if twiceI [] (l.map (·.id)) = true then 6 else 0

/-! what pays a ride: the rides in their order, each with its rider and its day -/
structure Rq where
  rider : Int
  day : Int
deriving DecidableEq, Inhabited
def validP (p : Pas) (q : Rq) : Bool := decide (p.rider = q.rider) && (decide (p.from_ ≤ q.day) && decide (q.day < p.to_))
/-- used: the passes that have paid, with the day -/
def paidN (used : List (Int × Int)) (k d : Int) : Nat := used.countP fun u => u.1 == k && u.2 == d
def pickP (l : List Pas) (used : List (Int × Int)) (q : Rq) : Int :=
  match (List.range l.length).find? fun k => validP (l.getD k default) q && decide ((paidN used k q.day : Int) < (l.getD k default).perDay) with
  | none => -1
  | some k => k
def useStep (l : List Pas) (s : List Int × List (Int × Int)) (q : Rq) : List Int × List (Int × Int) :=
  (s.1 ++ [pickP l s.2 q], if 0 ≤ pickP l s.2 q then s.2 ++ [(pickP l s.2 q, q.day)] else s.2)
def useS (l : List Pas) (qs : List Rq) : List Int × List (Int × Int) := qs.foldl (useStep l) ([], [])
theorem pick_range (l : List Pas) (used : List (Int × Int)) (q : Rq) : -1 ≤ pickP l used q ∧ pickP l used q < l.length := by
  unfold pickP
  cases h : (List.range l.length).find? fun k => validP (l.getD k default) q && decide ((paidN used k q.day : Int) < (l.getD k default).perDay) with
  | none => simp only; omega
  | some k =>
    have := List.mem_range.1 (List.mem_of_find?_eq_some h)
    simp only; omega
theorem useS_fst : ∀ (l : List Pas) (qs : List Rq) (s : List Int × List (Int × Int)), (qs.foldl (useStep l) s).1.length = s.1.length + qs.length
  | _, [], s => by simp
  | l, q :: qs, s => by
    rw [List.foldl_cons, useS_fst l qs]
    unfold useStep
    simp only [List.length_append, List.length_cons, List.length_nil]
    omega

/-! what is paid of the amounts of a day -/
structure Dy where
  rider : Int
  day : Int
  amount : Int
deriving DecidableEq, Inhabited
def dyBad (x : Dy) : Bool := (!inI x.rider 0 127 || !inI x.day 0 49709) || !inI x.amount 0 1000000000000
def sumD (l : List (Dy × Int)) (r d : Int) : Int := ((l.filter fun x => x.1.rider == r && x.1.day == d).map (·.2)).sum
def payD (limit : Int) (l : List (Dy × Int)) (x : Dy) : Int := if 0 < limit then min x.amount (limit - sumD l x.rider x.day) else x.amount
def dayS (limit : Int) (xs : List Dy) : List (Dy × Int) := xs.foldl (fun l x => l ++ [(x, payD limit l x)]) []
def dyErr (limit : Int) (xs : List Dy) : Int := if inI limit 0 1000000000000 = false then 1 else if 256 < xs.length then 8 else if xs.any dyBad = true then 1 else 0
theorem day_fold_len (limit : Int) : ∀ (xs : List Dy) (l : List (Dy × Int)), (xs.foldl (fun l x => l ++ [(x, payD limit l x)]) l).length = l.length + xs.length
  | [], l => by simp
  | x :: xs, l => by
    rw [List.foldl_cons, day_fold_len limit xs, List.length_append]
    simp only [List.length_cons, List.length_nil]
    omega

end Go.Proofs.Far

/-
  Plain functions: what the penalties compute (no program in sight).
-/
namespace Go.Proofs.Pen

structure V where
  ride : Int
  rider : Int
  moment : Int
  kind : Int

def V.zero : V := ⟨0, 0, 0, 0⟩

def fineBad (x : Int) : Bool := decide (x < 0) || decide (1000000 < x)
def pErr (fines : List Int) (days : Int) : Int :=
  if 512 < fines.length then 8 else if fines.any fineBad then 1 else if days < 0 ∨ 49709 < days then 1 else 0

def vBad (v : V) : Int :=
  if v.ride < 1 ∨ 1000000 < v.ride ∨ v.rider < 0 ∨ 128 ≤ v.rider ∨ v.moment < 0 ∨ 4294943999 < v.moment then 1 else if v.kind < 1 ∨ 3 < v.kind then 14 else 0
def hasRide (l : List V) (r : Int) : Bool := l.any (fun x => x.ride == r)
def vOne (seen : List V) (v : V) : Int := if vBad v ≠ 0 then vBad v else if hasRide seen v.ride then 6 else 0
def vErrL : List V → List V → Int
  | _, [] => 0
  | seen, v :: rest => if vOne seen v ≠ 0 then vOne seen v else vErrL (seen ++ [v]) rest
def vErr (l : List V) : Int := if 256 < l.length then 8 else vErrL [] l

def before (a b : V) : Bool := decide (a.moment < b.moment) || (decide (a.moment = b.moment) && decide (a.ride < b.ride))
def inDays (days : Int) (x v : V) : Bool := decide (v.moment / 86400 - days ≤ x.moment / 86400)
def hit (days : Int) (v x : V) : Bool := (x.rider == v.rider && x.kind == 2) && (before x v && inDays days x v)
def cnt (days : Int) (l : List V) (v : V) : Nat := (l.filter (hit days v)).length
def num (days : Int) (l : List V) (v : V) : Int := if v.kind = 2 then 1 + (cnt days l v : Int) else 0
def fine (fines : List Int) (days : Int) (l : List V) (v : V) : Int :=
  if num days l v = 0 ∨ fines.length = 0 then 0 else fines.getD (min (num days l v).toNat fines.length - 1) 0
def viol (rider : Int) (l : List V) : List V := l.filter (fun x => x.rider == rider && x.kind == 2)
def sumF (f : V → Int) (l : List V) : Int := (l.map f).sum
def total (fines : List Int) (days : Int) (l : List V) (rider : Int) : Int := sumF (fine fines days l) (viol rider l)

def cErr (fines : List Int) (days : Int) (l : List V) : Int := if pErr fines days ≠ 0 then pErr fines days else vErr l

/-- what Number answers -/
def numR (fines : List Int) (days : Int) (l : List V) (i : Int) : Int × Int :=
  if cErr fines days l ≠ 0 then (0, cErr fines days l) else if i < 0 ∨ (l.length : Int) ≤ i then (0, 7) else (num days l (l.getD i.toNat V.zero), 0)
def fineR (fines : List Int) (days : Int) (l : List V) (i : Int) : Int × Int :=
  if cErr fines days l ≠ 0 then (0, cErr fines days l) else if i < 0 ∨ (l.length : Int) ≤ i then (0, 7) else (fine fines days l (l.getD i.toNat V.zero), 0)
def totalR (fines : List Int) (days : Int) (l : List V) (rider : Int) : Int × Int :=
  if cErr fines days l ≠ 0 then (0, cErr fines days l) else if 1000000000000 < total fines days l rider then (0, 2) else (total fines days l rider, 0)

theorem take_snoc {α : Type} (l : List α) (k : Nat) (v : α) (h : l[k]? = some v) : l.take (k + 1) = l.take k ++ [v] := by
  rw [List.take_add_one, h]; rfl

theorem drop_cons {α : Type} (l : List α) (k : Nat) (v : α) (h : l[k]? = some v) : l.drop k = v :: l.drop (k + 1) := by
  obtain ⟨hk, rfl⟩ := List.getElem?_eq_some_iff.1 h
  exact List.drop_eq_getElem_cons hk

theorem vErrL_split (seen l : List V) (k : Nat) (v : V) (h : l[k]? = some v) : vErrL seen (l.drop k) = if vOne seen v ≠ 0 then vOne seen v else vErrL (seen ++ [v]) (l.drop (k + 1)) := by
  rw [drop_cons l k v h]; rfl

end Go.Proofs.Pen

/-
  The walks: prices and verdicts checked; which verdict comes first.
-/
namespace Go.Proofs.Pen
open Go Go.RowKit Go.Proofs.E

def V.cells (v : V) : List Value := [.int .i64 v.ride, .int .i64 v.rider, .int .i64 v.moment, .int .i64 v.kind]
abbrev VsAt (w : World) (A : Option Addr) (n : Nat) (vs : List V) : Prop := SlAt w 4 V.cells A n vs
abbrev IntsAt (w : World) (A : Option Addr) (n : Nat) (xs : List Int) : Prop := SlAt w 1 encInt A n xs

theorem any_take_snoc (xs : List Int) (k : Nat) (x : Int) (h : xs[k]? = some x) (h0 : (xs.take k).any fineBad = false) (hb : fineBad x = false) : (xs.take (k + 1)).any fineBad = false := by
  rw [take_snoc _ _ _ h, List.any_append, h0]; simp [hb]
theorem pErr_bad (xs : List Int) (d : Int) (k : Nat) (x : Int) (hl : xs.length ≤ 512) (h : xs[k]? = some x) (hb : fineBad x = true) : pErr xs d = 1 := by
  unfold pErr
  rw [if_neg (by omega), if_pos]
  exact List.any_eq_true.2 ⟨x, List.mem_of_getElem? h, hb⟩
theorem pErr_full (xs : List Int) (d : Int) (hl : 512 < xs.length) : pErr xs d = 8 := by unfold pErr; rw [if_pos hl]
theorem pErr_days (xs : List Int) (d : Int) (hl : xs.length ≤ 512) (h0 : xs.any fineBad = false) (hd : d < 0 ∨ 49709 < d) : pErr xs d = 1 := by
  unfold pErr; rw [if_neg (by omega), h0]; simp [hd]
theorem pErr_ok (xs : List Int) (d : Int) (hl : xs.length ≤ 512) (h0 : xs.any fineBad = false) (hd : ¬ (d < 0 ∨ 49709 < d)) : pErr xs d = 0 := by
  unfold pErr; rw [if_neg (by omega), h0]; simp; omega

theorem rcheck_w (a0 a1 a2 a3 a4 : Value) (A : Option Addr) (n c : Nat) (xs : List Int) (d : Int) (w : World) (hx : IntsAt w A n xs) :
    Calls Tryz.prog 38 #[.agg #[a0, a1, a2, a3, a4, .slice A n c, .int .i64 d]] w fun e w' => e = .returned (.int .i64 (pErr xs d)) ∧ Bel w w' := by
  have hn := hx.2.1
  have hl := hx.1
  refine H_enter Tryz.func38 rfl Tryz.ntmps38 rfl (H_seq (R0 (X_box (v := .agg _) rfl rfl fun b1 => (xv (asI rfl) (XN (thenJ_normal (H_seq (H_seq (R0 ?_)))))))))
  refine xv (e_fld Tryz.underlying28 rfl Tryz.sizeOf22 rfl (q0 rfl)) (xv (eL Tryz.isAgg22 (q0 rfl)) ?_)
  refine xv (e_len Tryz.underlying22 (q0 rfl)) (xv (e_gt (q0 rfl) (q0 rfl)) (XN (thenJ_normal (H_cond rfl (fun hb => ?_) (fun hb => ?_)))))
  · refine H_seq (R0 (xv (asI rfl) (XN (thenJ_normal (H_ret (thenJ_ret ?_))))))
    exact ret1 (v := .int _ _) rfl rfl rfl fun w' hw => ⟨ret_int (pErr_full _ _ (by simp at hb; omega)).symm, hw.1⟩
  · refine H_skip (thenJ_normal (H_seq (H_seq (R0 (xv (asI rfl) (XN (thenJ_normal (H_block ?_))))))))
    simp at hb
    refine H_loop [2, 3, 8, 9, 10, 11, 12, 13, 14, 15, 16, 17, 18, 19, 20, 21, 22, 23, 24, 25, 26, 27, 28] (fun k : Nat => [(3, .int .i64 k)]) (fun _ => _) (fun k => k ≤ n ∧ (xs.take k).any fineBad = false) (fun k => n - k) 0 ⟨rfl, trivial⟩ (fun _ h => h) rfl ⟨Nat.zero_le _, rfl⟩ ?_
    rintro k g ⟨hk, hall⟩
    refine H_seq (H_seq (R0 (xv (mvI rfl) (xv (e_fld Tryz.underlying28 rfl Tryz.sizeOf22 rfl (q0 rfl)) (xv (eL Tryz.isAgg22 (q0 rfl)) ?_)))))
    refine xv (e_len Tryz.underlying22 (q0 rfl)) (xv (e_lt (q0 rfl) (q0 rfl)) (XN (thenJ_normal (H_cond rfl (fun hlt => ?_) (fun hlt => ?_)))))
    · simp at hlt
      obtain ⟨b, off, x, rfl, hbl, hxk, hr⟩ := hx.at_ hlt
      refine H_skip (thenJ_normal (H_seq (H_block (H_seq (R0 (xv (e_fld Tryz.underlying28 rfl Tryz.sizeOf22 rfl (q0 rfl)) (xv (eL Tryz.isAgg22 (q0 rfl)) ?_)))))))
      refine xv (mvI rfl) (xv (e_idx _ Tryz.underlying22 Tryz.sizeOf3 (q0 rfl) (q0 rfl) (fun _ => ⟨rfl, by omega⟩)) (xv (eL Tryz.isAgg3 (q0 rfl)) ?_))
      refine xv (e_lt (q0 rfl) (q0 rfl)) (xv (mvB rfl) (xf (e_fld Tryz.underlying28 rfl Tryz.sizeOf22 rfl (q0 rfl)) rfl rfl (xf (eL Tryz.isAgg22 (q1 rfl)) rfl rfl ?_)))
      refine xf (mvI rfl) rfl rfl (xf (e_idx _ Tryz.underlying22 Tryz.sizeOf3 (q1 rfl) (q1 rfl) (fun _ => ⟨rfl, by omega⟩)) rfl rfl (xf (eL Tryz.isAgg3 (q1 rfl)) rfl rfl ?_))
      refine xf (e_gt (q1 rfl) (q0 rfl)) rfl rfl (xv (e_or (q0 rfl) rfl (fun h => by first | rfl | (rw [h]; rfl))) ?_)
      refine XN (thenJ_normal (H_cond rfl (fun hbad => ?_) (fun hbad => ?_)))
      · refine H_seq (R0 (xv (asI rfl) (XN (thenJ_normal (H_ret (blockJ_ret (thenJ_ret (loopJ_ret (blockJ_ret ?_)))))))))
        refine thenJ_ret ?_
        exact ret1 (v := .int _ _) rfl rfl rfl fun w' hw => ⟨ret_int (pErr_bad _ _ k x (by omega) hxk hbad).symm, hw.1⟩
      · refine H_skip (blockJ_normal (thenJ_normal (R0 (xv (mvI rfl) (xv (e_add (q0 rfl) (q0 rfl) (fun _ => ⟨rfl, by omega, by omega⟩)) (xv (asI rfl) (XN ?_)))))))
        exact loopJ_normal (k + 1) agr ⟨rfl, trivial⟩ (fun _ h => h) rfl ⟨by omega, any_take_snoc _ _ _ hxk hall hbad⟩ (by show n - (k + 1) < n - k; omega)
    · simp at hlt
      rw [List.take_of_length_le (by omega)] at hall
      refine H_exit (thenJ_exit (loopJ_exit (blockJ_hit (thenJ_normal (H_seq (H_seq (R0 (xv (e_fld Tryz.underlying28 rfl Tryz.sizeOf3 rfl (q0 rfl)) (xv (eL Tryz.isAgg3 (q0 rfl)) ?_)))))))))
      refine xv (e_lt (q0 rfl) (q0 rfl)) (xv (mvB rfl) (xf (e_fld Tryz.underlying28 rfl Tryz.sizeOf3 rfl (q0 rfl)) rfl rfl (xf (eL Tryz.isAgg3 (q1 rfl)) rfl rfl ?_)))
      refine xf (e_gt (q1 rfl) (q0 rfl)) rfl rfl (xv (e_or (q0 rfl) rfl (fun h => by first | rfl | (rw [h]; rfl))) ?_)
      refine XN (thenJ_normal (H_cond rfl (fun hd => ?_) (fun hd => ?_)))
      · refine H_seq (R0 (xv (asI rfl) (XN (thenJ_normal (H_ret (thenJ_ret ?_))))))
        exact ret1 (v := .int _ _) rfl rfl rfl fun w' hw => ⟨ret_int (pErr_days _ _ (by omega) hall (by simpa using hd)).symm, hw.1⟩
      · refine H_skip (thenJ_normal (H_seq (R0 (xv (asI rfl) (XN (thenJ_normal (H_ret ?_)))))))
        exact ret1 (v := .int _ _) rfl rfl rfl fun w' hw => ⟨ret_int (pErr_ok _ _ (by omega) hall (by simp at hd; omega)).symm, hw.1⟩

theorem check_w (a0 a1 a2 a3 a4 : Value) (A : Option Addr) (n c : Nat) (xs : List Int) (d : Int) (w : World) (hx : IntsAt w A n xs) :
    Calls Tryz.prog 33 #[.agg #[a0, a1, a2, a3, a4, .slice A n c, .int .i64 d]] w fun e w' => e = .returned (.int .i64 (pErr xs d)) ∧ Bel w w' := by
  have hn := hx.2.1
  have hl := hx.1
  refine H_enter Tryz.func33 rfl Tryz.ntmps33 rfl (H_seq (R0 (X_box (v := .agg _) rfl rfl fun b1 => (xv (asI rfl) (XN (thenJ_normal (H_seq (H_seq (R0 ?_)))))))))
  refine xv (e_fld Tryz.underlying28 rfl Tryz.sizeOf22 rfl (q0 rfl)) (xv (eL Tryz.isAgg22 (q0 rfl)) ?_)
  refine xv (e_len Tryz.underlying22 (q0 rfl)) (xv (e_gt (q0 rfl) (q0 rfl)) (XN (thenJ_normal (H_cond rfl (fun hb => ?_) (fun hb => ?_)))))
  · refine H_seq (R0 (xv (asI rfl) (XN (thenJ_normal (H_ret (thenJ_ret ?_))))))
    exact ret1 (v := .int _ _) rfl rfl rfl fun w' hw => ⟨ret_int (pErr_full _ _ (by simp at hb; omega)).symm, hw.1⟩
  · refine H_skip (thenJ_normal (H_seq (H_seq (R0 (xv (e_fld Tryz.underlying28 rfl Tryz.sizeOf22 rfl (q0 rfl)) (xv (eL Tryz.isAgg22 (q0 rfl)) ?_))))))
    refine xv (e_len Tryz.underlying22 (q0 rfl)) (xv (mvI rfl) (XN (thenJ_normal (H_block ?_))))
    simp at hb
    refine H_loop [2, 4, 12, 13, 14, 15, 16, 17, 18, 19, 20, 21, 22] (fun k : Nat => [(12, .int .i64 k)]) (fun _ => _) (fun k => k ≤ n ∧ (xs.take k).any fineBad = false) (fun k => n - k) 0 ⟨rfl, trivial⟩ (fun _ h => h) rfl ⟨Nat.zero_le _, rfl⟩ ?_
    rintro k g ⟨hk, hall⟩
    refine H_seq (R0 (xv (e_lt (q0 rfl) (q0 rfl)) (XN (thenJ_normal (H_seq (H_cond rfl (fun hlt => ?_) (fun hlt => ?_)))))))
    · simp at hlt
      obtain ⟨b, off, x, rfl, hbl, hxk, hr⟩ := hx.at_ hlt
      refine H_skip (thenJ_normal (H_seq (H_block (H_seq (R0 (xv (e_idx _ Tryz.underlying22 Tryz.sizeOf3 (q0 rfl) (q0 rfl) (fun _ => ⟨rfl, by omega⟩)) (xv (eL Tryz.isAgg3 (q0 rfl)) ?_)))))))
      refine xv (asI rfl) (XN (thenJ_normal (H_seq (R0 (xv (mvI rfl) (xv (e_lt (q0 rfl) (q0 rfl)) (xv (mvB rfl) (xf (mvI rfl) rfl rfl (xf (e_gt (q1 rfl) (q0 rfl)) rfl rfl ?_)))))))))
      refine xv (e_or (q0 rfl) rfl (fun h => by first | rfl | (rw [h]; rfl))) ?_
      refine XN (thenJ_normal (H_cond rfl (fun hbad => ?_) (fun hbad => ?_)))
      · refine H_seq (R0 (xv (asI rfl) (XN (thenJ_normal (H_ret (blockJ_ret (thenJ_ret (loopJ_ret (blockJ_ret ?_)))))))))
        refine thenJ_ret ?_
        exact ret1 (v := .int _ _) rfl rfl rfl fun w' hw => ⟨ret_int (pErr_bad _ _ k x (by omega) hxk hbad).symm, hw.1⟩
      · refine H_skip (blockJ_normal (thenJ_normal (R0 (xv (e_add (q0 rfl) (q0 rfl) (fun _ => ⟨rfl, by omega, by omega⟩)) (xv (mvI rfl) (XN ?_))))))
        exact loopJ_normal (k + 1) agr ⟨rfl, trivial⟩ (fun _ h => h) rfl ⟨by omega, any_take_snoc _ _ _ hxk hall hbad⟩ (by show n - (k + 1) < n - k; omega)
    · simp at hlt
      rw [List.take_of_length_le (by omega)] at hall
      refine H_exit (thenJ_exit (loopJ_exit (blockJ_hit (thenJ_normal (H_seq (H_seq (R0 (xv (e_fld Tryz.underlying28 rfl Tryz.sizeOf3 rfl (q0 rfl)) (xv (eL Tryz.isAgg3 (q0 rfl)) ?_)))))))))
      refine xv (e_lt (q0 rfl) (q0 rfl)) (xv (mvB rfl) (xf (e_fld Tryz.underlying28 rfl Tryz.sizeOf3 rfl (q0 rfl)) rfl rfl (xf (eL Tryz.isAgg3 (q1 rfl)) rfl rfl ?_)))
      refine xf (e_gt (q1 rfl) (q0 rfl)) rfl rfl (xv (e_or (q0 rfl) rfl (fun h => by first | rfl | (rw [h]; rfl))) ?_)
      refine XN (thenJ_normal (H_cond rfl (fun hd => ?_) (fun hd => ?_)))
      · refine H_seq (R0 (xv (asI rfl) (XN (thenJ_normal (H_ret (thenJ_ret ?_))))))
        exact ret1 (v := .int _ _) rfl rfl rfl fun w' hw => ⟨ret_int (pErr_days _ _ (by omega) hall (by simpa using hd)).symm, hw.1⟩
      · refine H_skip (thenJ_normal (H_seq (R0 (xv (asI rfl) (XN (thenJ_normal (H_ret ?_)))))))
        exact ret1 (v := .int _ _) rfl rfl rfl fun w' hw => ⟨ret_int (pErr_ok _ _ (by omega) hall (by simp at hd; omega)).symm, hw.1⟩


theorem rbefore_w (a b : V) (w : World) : Calls Tryz.prog 113 #[.agg a.cells.toArray, .agg b.cells.toArray] w fun e w' => e = .returned (.bool (before a b)) ∧ Bel w w' := by
  refine H_enter Tryz.func113 rfl Tryz.ntmps113 rfl (H_seq (R0 (X_box (v := .agg _) rfl rfl fun b2 => (X_box (v := .agg _) rfl rfl fun b3 => (xv (asB rfl) (XN (thenJ_normal (H_seq (R0 ?_)))))))))
  refine xv (e_fld Tryz.underlying83 rfl Tryz.sizeOf3 rfl (q0 rfl)) (xv (eL Tryz.isAgg3 (q0 rfl)) ?_)
  refine xv (e_fld Tryz.underlying83 rfl Tryz.sizeOf3 rfl (q0 rfl)) (xv (eL Tryz.isAgg3 (q0 rfl)) ?_)
  refine xv (e_lt (q0 rfl) (q0 rfl)) (xv (mvB rfl) (xf (e_fld Tryz.underlying83 rfl Tryz.sizeOf3 rfl (q0 rfl)) rfl rfl (xf (eL Tryz.isAgg3 (q1 rfl)) rfl rfl ?_)))
  refine xf (e_fld Tryz.underlying83 rfl Tryz.sizeOf3 rfl (q0 rfl)) rfl rfl (xf (eL Tryz.isAgg3 (q1 rfl)) rfl rfl ?_)
  refine xf (e_eq (q1 rfl) (q1 rfl)) rfl rfl (xf (e_mv (v := .bool _) (q1 rfl)) rfl rfl (xVT2 (e_fld Tryz.underlying83 rfl Tryz.sizeOf3 rfl (q0 rfl)) rfl rfl rfl rfl (xVT2 (eL Tryz.isAgg3 (q1 rfl)) rfl rfl rfl rfl ?_)))
  refine xVT2 (e_fld Tryz.underlying83 rfl Tryz.sizeOf3 rfl (q0 rfl)) rfl rfl rfl rfl (xVT2 (eL Tryz.isAgg3 (q1 rfl)) rfl rfl rfl rfl ?_)
  refine xVT2 (e_lt (q1 rfl) (q1 rfl)) rfl rfl rfl rfl (xf (e_and (q1 rfl) rfl (fun h => by first | rfl | (rw [h]; rfl))) rfl rfl ?_)
  refine xv (e_or (q0 rfl) rfl (fun h => by first | rfl | (rw [h]; rfl))) ?_
  refine xv (asB rfl) (XN (thenJ_normal (H_ret ?_)))
  exact ret1 (v := .bool _) rfl rfl rfl fun w' hw => ⟨rfl, hw.1⟩
theorem before_w (a b : V) (w : World) : Calls Tryz.prog 146 #[.agg a.cells.toArray, .agg b.cells.toArray] w fun e w' => e = .returned (.bool (before a b)) ∧ Bel w w' := by
  refine H_enter Tryz.func146 rfl Tryz.ntmps146 rfl (H_seq (R0 (X_box (v := .agg _) rfl rfl fun b2 => (X_box (v := .agg _) rfl rfl fun b3 => (xv (asB rfl) (XN (thenJ_normal (H_seq (R0 ?_)))))))))
  refine xv (e_fld Tryz.underlying83 rfl Tryz.sizeOf3 rfl (q0 rfl)) (xv (eL Tryz.isAgg3 (q0 rfl)) ?_)
  refine xv (e_fld Tryz.underlying83 rfl Tryz.sizeOf3 rfl (q0 rfl)) (xv (eL Tryz.isAgg3 (q0 rfl)) ?_)
  refine xv (e_lt (q0 rfl) (q0 rfl)) (xv (mvB rfl) (xf (e_fld Tryz.underlying83 rfl Tryz.sizeOf3 rfl (q0 rfl)) rfl rfl (xf (eL Tryz.isAgg3 (q1 rfl)) rfl rfl ?_)))
  refine xf (e_fld Tryz.underlying83 rfl Tryz.sizeOf3 rfl (q0 rfl)) rfl rfl (xf (eL Tryz.isAgg3 (q1 rfl)) rfl rfl ?_)
  refine xf (e_eq (q1 rfl) (q1 rfl)) rfl rfl (xf (e_mv (v := .bool _) (q1 rfl)) rfl rfl (xVT2 (e_fld Tryz.underlying83 rfl Tryz.sizeOf3 rfl (q0 rfl)) rfl rfl rfl rfl (xVT2 (eL Tryz.isAgg3 (q1 rfl)) rfl rfl rfl rfl ?_)))
  refine xVT2 (e_fld Tryz.underlying83 rfl Tryz.sizeOf3 rfl (q0 rfl)) rfl rfl rfl rfl (xVT2 (eL Tryz.isAgg3 (q1 rfl)) rfl rfl rfl rfl ?_)
  refine xVT2 (e_lt (q1 rfl) (q1 rfl)) rfl rfl rfl rfl (xf (e_and (q1 rfl) rfl (fun h => by first | rfl | (rw [h]; rfl))) rfl rfl ?_)
  refine xv (e_or (q0 rfl) rfl (fun h => by first | rfl | (rw [h]; rfl))) ?_
  refine xv (asB rfl) (XN (thenJ_normal (H_ret ?_)))
  exact ret1 (v := .bool _) rfl rfl rfl fun w' hw => ⟨rfl, hw.1⟩

theorem vOne_range {seen : List V} {v : V} (h : v.ride < 1 ∨ 1000000 < v.ride ∨ v.rider < 0 ∨ 128 ≤ v.rider ∨ v.moment < 0 ∨ 4294943999 < v.moment) : vOne seen v = 1 := by
  unfold vOne vBad; rw [if_pos h]; rfl
theorem vBad_zero {v : V} (h1 : ¬ (v.ride < 1 ∨ 1000000 < v.ride ∨ v.rider < 0 ∨ 128 ≤ v.rider ∨ v.moment < 0 ∨ 4294943999 < v.moment)) (h2 : ¬ (v.kind < 1 ∨ 3 < v.kind)) : vBad v = 0 := by
  unfold vBad; rw [if_neg h1, if_neg h2]
theorem vOne_kind {seen : List V} {v : V} (h1 : ¬ (v.ride < 1 ∨ 1000000 < v.ride ∨ v.rider < 0 ∨ 128 ≤ v.rider ∨ v.moment < 0 ∨ 4294943999 < v.moment)) (h2 : v.kind < 1 ∨ 3 < v.kind) : vOne seen v = 14 := by
  have h : vBad v = 14 := by unfold vBad; rw [if_neg h1, if_pos h2]
  unfold vOne; rw [h]; rfl
theorem vOne_twice {seen : List V} {v : V} (h1 : ¬ (v.ride < 1 ∨ 1000000 < v.ride ∨ v.rider < 0 ∨ 128 ≤ v.rider ∨ v.moment < 0 ∨ 4294943999 < v.moment)) (h2 : ¬ (v.kind < 1 ∨ 3 < v.kind)) (h3 : hasRide seen v.ride = true) : vOne seen v = 6 := by
  unfold vOne; rw [vBad_zero h1 h2, h3]; rfl
theorem vOne_ok {seen : List V} {v : V} (h1 : ¬ (v.ride < 1 ∨ 1000000 < v.ride ∨ v.rider < 0 ∨ 128 ≤ v.rider ∨ v.moment < 0 ∨ 4294943999 < v.moment)) (h2 : ¬ (v.kind < 1 ∨ 3 < v.kind)) (h3 : hasRide seen v.ride = false) : vOne seen v = 0 := by
  unfold vOne; rw [vBad_zero h1 h2, h3]; rfl
theorem verr_full {vs : List V} (h : 256 < vs.length) : vErr vs = 8 := by unfold vErr; rw [if_pos h]
theorem verr_at {vs : List V} {k : Nat} {v : V} {c : Int} (hl : vs.length ≤ 256) (hp : vErrL [] vs = vErrL (vs.take k) (vs.drop k)) (hv : vs[k]? = some v) (h : vOne (vs.take k) v = c) (hc : c ≠ 0) : vErr vs = c := by
  unfold vErr; rw [if_neg (by omega), hp, vErrL_split _ _ _ _ hv, h, if_pos hc]
theorem verr_next {vs : List V} {k : Nat} {v : V} (hp : vErrL [] vs = vErrL (vs.take k) (vs.drop k)) (hv : vs[k]? = some v) (h : vOne (vs.take k) v = 0) : vErrL [] vs = vErrL (vs.take (k + 1)) (vs.drop (k + 1)) := by
  rw [hp, vErrL_split _ _ _ _ hv, h, if_neg (by simp), take_snoc _ _ _ hv]
theorem verr_end {vs : List V} {k : Nat} (hl : vs.length ≤ 256) (hp : vErrL [] vs = vErrL (vs.take k) (vs.drop k)) (hk : vs.length ≤ k) : vErr vs = 0 := by
  unfold vErr; rw [if_neg (by omega), hp, List.drop_eq_nil_of_le hk]; rfl

def keysOf (l : List V) : List (Int × Value) := l.map fun v => (v.ride, .bool true)
theorem look_keys (l : List V) (r : Int) : (mlook (keysOf l) r).getD (.bool false) = .bool (hasRide l r) := by
  induction l with
  | nil => rfl
  | cons v l ih =>
    by_cases h : v.ride = r
    · simp [mlook, keysOf, hasRide, h]
    · have hb : (v.ride == r) = false := beq_eq_false_iff_ne.2 h
      simp only [mlook, keysOf, hasRide, List.map_cons, List.find?_cons, List.any_cons, hb, Bool.false_or] at ih ⊢
      exact ih
theorem mput_keys (l : List V) (v : V) (h : hasRide l v.ride = false) : mput (keysOf l) v.ride (.bool true) = keysOf (l ++ [v]) := by
  induction l with
  | nil => rfl
  | cons x l ih =>
    simp only [hasRide, List.any_cons, Bool.or_eq_false_iff] at h
    simp only [keysOf, List.map_cons, List.cons_append, mput, h.1, Bool.false_eq_true, if_false]
    rw [← keysOf, ih h.2]; rfl
theorem hasRide_snoc {l : List V} {r : Int} {j : Nat} {x : V} (h : hasRide (l.take j) r = false) (hx : l[j]? = some x) (hne : ¬ x.ride = r) : hasRide (l.take (j + 1)) r = false := by
  rw [take_snoc _ _ _ hx]; unfold hasRide at h ⊢; rw [List.any_append, h]; simp [hne]
theorem hasRide_at {l : List V} {r : Int} {j k : Nat} {x : V} (hj : j < k) (hx : l[j]? = some x) (he : x.ride = r) : hasRide (l.take k) r = true := by
  unfold hasRide
  exact List.any_eq_true.2 ⟨x, List.mem_of_getElem? (i := j) (by rw [List.getElem?_take_of_lt hj, hx]), by simp [he]⟩

theorem verd_w (A : Option Addr) (n c : Nat) (vs : List V) (w : World) (hx : VsAt w A n vs) :
    Calls Tryz.prog 42 #[.slice A n c] w fun e w' => e = .returned (.int .i64 (vErr vs)) ∧ Bel w w' := by
  have hn := hx.2.1
  have hl := hx.1
  refine H_enter Tryz.func42 rfl Tryz.ntmps42 rfl (H_seq (R0 (xv (asI rfl) (XN (thenJ_normal (H_seq (H_seq (R0 (xv (mvS rfl) ?_)))))))))
  refine xv (e_len Tryz.underlying37 (q0 rfl)) (xv (e_gt (q0 rfl) (q0 rfl)) (XN (thenJ_normal (H_cond rfl (fun hb => ?_) (fun hb => ?_)))))
  · refine H_seq (R0 (xv (asI rfl) (XN (thenJ_normal (H_ret (thenJ_ret ?_))))))
    exact ret1 (v := .int _ _) rfl rfl rfl fun w' hw => ⟨ret_int (verr_full (by simp at hb; omega)).symm, hw.1⟩
  · simp at hb
    refine H_skip (thenJ_normal (H_seq (R0 (X_makeMap rfl fun bm => (xv (e_as (v := .map _) (q0 rfl)) (XN (thenJ_normal (H_seq (H_seq ?_)))))))))
    refine R0 (xv (mvS rfl) (xv (e_len Tryz.underlying37 (q0 rfl)) (xv (mvI rfl) (XN (thenJ_normal (H_block (H_loop [2, 5, 12, 13, 14, 15, 16, 17, 18, 19, 20, 21, 22, 23, 24, 25, 26, 27, 28, 29, 30, 31, 32, 33, 34, 35, 36, 37, 38, 39, 40, 41, 42, 43, 44, 45, 46, 47, 48, 49, 50, 51, 52, 53, 54, 55, 56, 57, 58, 59, 60, 61, 62] (fun k : Nat => [(12, .int .i64 k)]) (fun k => [imap bm (keysOf (vs.take k))]) (fun k => k ≤ n ∧ vErrL [] vs = vErrL (vs.take k) (vs.drop k)) (fun k => n - k) 0 ⟨rfl, trivial⟩ (fun _ h => h) rfl ⟨Nat.zero_le _, rfl⟩ ?_)))))))
    rintro k g ⟨hk, hp⟩
    refine H_seq (R0 (xv (e_lt (q0 rfl) (q0 rfl)) (XN (thenJ_normal (H_seq (H_cond rfl (fun hlt => ?_) (fun hlt => ?_)))))))
    · simp at hlt
      obtain ⟨b, off, v, rfl, hbl, hv, hr⟩ := hx.at_ hlt
      refine H_skip (thenJ_normal (H_seq (H_block (H_seq (R0 (xv (e_idx _ Tryz.underlying37 Tryz.sizeOf83 (q0 rfl) (q0 rfl) (fun _ => ⟨rfl, by omega⟩)) (xv (eS Tryz.isAgg83 Tryz.sizeOf83 (q0 rfl)) ?_)))))))
      refine X_alloc Tryz.zeroValue83 rfl fun b5 => (X_st (v := .agg _) rfl rfl Tryz.sizeOf83 ?_)
      refine XN (thenJ_normal (H_seq (H_block (H_seq (R0 (xv (e_fld Tryz.underlying83 rfl Tryz.sizeOf3 rfl (q0 rfl)) (xv (eL Tryz.isAgg3 (q0 rfl)) ?_)))))))
      refine xv (e_lt (q0 rfl) (q0 rfl)) (xv (mvB rfl) (xf (e_fld Tryz.underlying83 rfl Tryz.sizeOf3 rfl (q0 rfl)) rfl rfl (xf (eL Tryz.isAgg3 (q1 rfl)) rfl rfl ?_)))
      refine xf (e_gt (q1 rfl) (q0 rfl)) rfl rfl (xv (e_or (q0 rfl) rfl (fun h => by first | rfl | (rw [h]; rfl))) ?_)
      refine xv (mvB rfl) (xf (e_fld Tryz.underlying83 rfl Tryz.sizeOf3 rfl (q0 rfl)) rfl rfl (xf (eL Tryz.isAgg3 (q1 rfl)) rfl rfl ?_))
      refine xf (e_lt (q1 rfl) (q0 rfl)) rfl rfl (xv (e_or (q0 rfl) rfl (fun h => by first | rfl | (rw [h]; rfl))) ?_)
      refine xv (mvB rfl) (xf (e_fld Tryz.underlying83 rfl Tryz.sizeOf3 rfl (q0 rfl)) rfl rfl (xf (eL Tryz.isAgg3 (q1 rfl)) rfl rfl ?_))
      refine xf (e_ge (q1 rfl) (q0 rfl)) rfl rfl (xv (e_or (q0 rfl) rfl (fun h => by first | rfl | (rw [h]; rfl))) ?_)
      refine xv (mvB rfl) (xf (e_fld Tryz.underlying83 rfl Tryz.sizeOf3 rfl (q0 rfl)) rfl rfl (xf (eL Tryz.isAgg3 (q1 rfl)) rfl rfl ?_))
      refine xf (e_lt (q1 rfl) (q0 rfl)) rfl rfl (xv (e_or (q0 rfl) rfl (fun h => by first | rfl | (rw [h]; rfl))) ?_)
      refine xv (mvB rfl) (xf (e_fld Tryz.underlying83 rfl Tryz.sizeOf3 rfl (q0 rfl)) rfl rfl (xf (eL Tryz.isAgg3 (q1 rfl)) rfl rfl ?_))
      refine xf (e_gt (q1 rfl) (q0 rfl)) rfl rfl (xv (e_or (q0 rfl) rfl (fun h => by first | rfl | (rw [h]; rfl))) ?_)
      refine xv (asB rfl) (XN (thenJ_normal (H_cond rfl (fun h1 => ?_) (fun h1 => ?_))))
      · refine H_seq (R0 (xv (asI rfl) (XN (thenJ_normal (H_ret (blockJ_ret (thenJ_ret (blockJ_ret (thenJ_ret ?_)))))))))
        refine loopJ_ret (blockJ_ret (thenJ_ret ?_))
        exact ret1 (v := .int _ _) rfl rfl rfl fun w' hw => ⟨ret_int (verr_at (by omega) hp hv (vOne_range (by simp at h1; omega)) (by decide)).symm, hw.1⟩
      · have h1' : ¬ (v.ride < 1 ∨ 1000000 < v.ride ∨ v.rider < 0 ∨ 128 ≤ v.rider ∨ v.moment < 0 ∨ 4294943999 < v.moment) := by simp at h1; omega
        refine H_seq (R0 (xv (e_fld Tryz.underlying83 rfl Tryz.sizeOf3 rfl (q0 rfl)) (xv (eL Tryz.isAgg3 (q0 rfl)) ?_)))
        refine xv (e_lt (q0 rfl) (q0 rfl)) (xv (mvB rfl) (xf (e_fld Tryz.underlying83 rfl Tryz.sizeOf3 rfl (q0 rfl)) rfl rfl (xf (eL Tryz.isAgg3 (q1 rfl)) rfl rfl ?_)))
        refine xf (e_gt (q1 rfl) (q0 rfl)) rfl rfl (xv (e_or (q0 rfl) rfl (fun h => by first | rfl | (rw [h]; rfl))) ?_)
        refine xv (asB rfl) (XN (thenJ_normal (H_cond rfl (fun h2 => ?_) (fun h2 => ?_))))
        · refine H_seq (R0 (xv (asI rfl) (XN (thenJ_normal (H_ret (blockJ_ret (thenJ_ret (blockJ_ret (thenJ_ret ?_)))))))))
          refine loopJ_ret (blockJ_ret (thenJ_ret ?_))
          exact ret1 (v := .int _ _) rfl rfl rfl fun w' hw => ⟨ret_int (verr_at (by omega) hp hv (vOne_kind h1' (by simp at h2; omega)) (by decide)).symm, hw.1⟩
        · have h2' : ¬ (v.kind < 1 ∨ 3 < v.kind) := by simp at h2; omega
          refine H_seq (R0 (xv (e_mv (v := .map _) (q0 rfl)) (xv (e_fld Tryz.underlying83 rfl Tryz.sizeOf3 rfl (q0 rfl)) (xv (eL Tryz.isAgg3 (q0 rfl)) ?_))))
          refine xv (e_look 1 Tryz.underlying129 Tryz.underlying3 Tryz.zeroValue4 (q0 rfl) (q0 rfl) rfl (fun _ => look_keys _ _)) (xv (asB rfl) (XN (thenJ_normal (H_cond rfl (fun h3 => ?_) (fun h3 => ?_)))))
          · refine H_seq (R0 (xv (asI rfl) (XN (thenJ_normal (H_ret (blockJ_ret (thenJ_ret (blockJ_ret (thenJ_ret ?_)))))))))
            refine loopJ_ret (blockJ_ret (thenJ_ret ?_))
            exact ret1 (v := .int _ _) rfl rfl rfl fun w' hw => ⟨ret_int (verr_at (by omega) hp hv (vOne_twice h1' h2' h3) (by decide)).symm, hw.1⟩
          · refine H_skip (blockJ_normal (thenJ_normal (R0 (xv (e_mv (v := .map _) (q0 rfl)) (xv (e_fld Tryz.underlying83 rfl Tryz.sizeOf3 rfl (q0 rfl)) (xv (eL Tryz.isAgg3 (q0 rfl)) ?_))))))
            refine X_mapset 1 Tryz.underlying129 Tryz.underlying3 rfl rfl rfl rfl (XN (blockJ_normal (thenJ_normal (R0 (xv (e_add (q0 rfl) (q0 rfl) (fun _ => ⟨rfl, by omega, by omega⟩)) (xv (mvI rfl) (XN (loopJ_normal (k + 1) agr ⟨rfl, trivial⟩ (fun w hw => ?_) rfl ⟨by omega, verr_next hp hv (vOne_ok h1' h2' h3)⟩ (by show n - (k + 1) < n - k; omega)))))))))
            have := hw.tail
            rw [take_snoc _ _ _ hv, ← mput_keys _ _ h3]
            exact this
    · simp at hlt
      refine H_exit (thenJ_exit (loopJ_exit (blockJ_hit (thenJ_normal (H_seq (R0 (xv (asI rfl) (XN (thenJ_normal ?_)))))))))
      refine H_ret ?_
      exact ret1 (v := .int _ _) rfl rfl rfl fun w' hw => ⟨ret_int (verr_end (by omega) hp (by omega)).symm, hw.1⟩

theorem rverd_w (A : Option Addr) (n c : Nat) (vs : List V) (w : World) (hx : VsAt w A n vs) :
    Calls Tryz.prog 101 #[.slice A n c] w fun e w' => e = .returned (.int .i64 (vErr vs)) ∧ Bel w w' := by
  have hn := hx.2.1
  have hl := hx.1
  refine H_enter Tryz.func101 rfl Tryz.ntmps101 rfl (H_seq (R0 (xv (asI rfl) (XN (thenJ_normal (H_seq (H_seq (R0 (xv (mvS rfl) ?_)))))))))
  refine xv (e_len Tryz.underlying37 (q0 rfl)) (xv (e_gt (q0 rfl) (q0 rfl)) (XN (thenJ_normal (H_cond rfl (fun hb => ?_) (fun hb => ?_)))))
  · refine H_seq (R0 (xv (asI rfl) (XN (thenJ_normal (H_ret (thenJ_ret ?_))))))
    exact ret1 (v := .int _ _) rfl rfl rfl fun w' hw => ⟨ret_int (verr_full (by simp at hb; omega)).symm, hw.1⟩
  · simp at hb
    refine H_skip (thenJ_normal (H_seq (H_seq (R0 (xv (asI rfl) (XN (thenJ_normal (H_block (H_loop [2, 3, 4, 5, 9, 10, 11, 12, 13, 14, 15, 16, 17, 18, 19, 20, 21, 22, 23, 24, 25, 26, 27, 28, 29, 30, 31, 32, 33, 34, 35, 36, 37, 38, 39, 40, 41, 42, 43, 44, 45, 46, 47, 48, 49, 50, 51, 52, 53, 54, 55, 56, 57, 58, 59, 60, 61, 62, 63, 64, 65, 66, 67] (fun k : Nat => [(3, .int .i64 k)]) (fun _ => []) (fun k => k ≤ n ∧ vErrL [] vs = vErrL (vs.take k) (vs.drop k)) (fun k => n - k) 0 ⟨rfl, trivial⟩ (fun _ h => h) rfl ⟨Nat.zero_le _, rfl⟩ ?_)))))))))
    rintro k g ⟨hk, hp⟩
    refine H_seq (H_seq (R0 (xv (mvI rfl) (xv (mvS rfl) (xv (e_len Tryz.underlying37 (q0 rfl)) (xv (e_lt (q0 rfl) (q0 rfl)) (XN (thenJ_normal (H_cond rfl (fun hlt => ?_) (fun hlt => ?_))))))))))
    · simp at hlt
      obtain ⟨b, off, v, rfl, hbl, hv, hr⟩ := hx.at_ hlt
      refine H_skip (thenJ_normal (H_seq (H_block (H_seq (R0 (xv (mvS rfl) (xv (mvI rfl) (xv (e_idx _ Tryz.underlying37 Tryz.sizeOf83 (q0 rfl) (q0 rfl) (fun _ => ⟨rfl, by omega⟩)) (xv (eS Tryz.isAgg83 Tryz.sizeOf83 (q0 rfl)) ?_)))))))))
      refine X_alloc Tryz.zeroValue83 rfl fun b4 => (X_st (v := .agg _) rfl rfl Tryz.sizeOf83 ?_)
      refine XN (thenJ_normal (H_seq (H_seq (R0 (xv (e_fld Tryz.underlying83 rfl Tryz.sizeOf3 rfl (q0 rfl)) (xv (eL Tryz.isAgg3 (q0 rfl)) ?_))))))
      refine xv (e_lt (q0 rfl) (q0 rfl)) (xv (mvB rfl) (xf (e_fld Tryz.underlying83 rfl Tryz.sizeOf3 rfl (q0 rfl)) rfl rfl (xf (eL Tryz.isAgg3 (q1 rfl)) rfl rfl ?_)))
      refine xf (e_gt (q1 rfl) (q0 rfl)) rfl rfl (xv (e_or (q0 rfl) rfl (fun h => by first | rfl | (rw [h]; rfl))) ?_)
      refine xv (mvB rfl) (xf (e_fld Tryz.underlying83 rfl Tryz.sizeOf3 rfl (q0 rfl)) rfl rfl (xf (eL Tryz.isAgg3 (q1 rfl)) rfl rfl ?_))
      refine xf (e_lt (q1 rfl) (q0 rfl)) rfl rfl (xv (e_or (q0 rfl) rfl (fun h => by first | rfl | (rw [h]; rfl))) ?_)
      refine xv (mvB rfl) (xf (e_fld Tryz.underlying83 rfl Tryz.sizeOf3 rfl (q0 rfl)) rfl rfl (xf (eL Tryz.isAgg3 (q1 rfl)) rfl rfl ?_))
      refine xf (e_ge (q1 rfl) (q0 rfl)) rfl rfl (xv (e_or (q0 rfl) rfl (fun h => by first | rfl | (rw [h]; rfl))) ?_)
      refine xv (mvB rfl) (xf (e_fld Tryz.underlying83 rfl Tryz.sizeOf3 rfl (q0 rfl)) rfl rfl (xf (eL Tryz.isAgg3 (q1 rfl)) rfl rfl ?_))
      refine xf (e_lt (q1 rfl) (q0 rfl)) rfl rfl (xv (e_or (q0 rfl) rfl (fun h => by first | rfl | (rw [h]; rfl))) ?_)
      refine xv (mvB rfl) (xf (e_fld Tryz.underlying83 rfl Tryz.sizeOf3 rfl (q0 rfl)) rfl rfl (xf (eL Tryz.isAgg3 (q1 rfl)) rfl rfl ?_))
      refine xf (e_gt (q1 rfl) (q0 rfl)) rfl rfl (xv (e_or (q0 rfl) rfl (fun h => by first | rfl | (rw [h]; rfl))) ?_)
      refine XN (thenJ_normal (H_cond rfl (fun h1 => ?_) (fun h1 => ?_)))
      · refine H_seq (R0 (xv (asI rfl) (XN (thenJ_normal (H_ret (thenJ_ret (blockJ_ret (thenJ_ret (loopJ_ret ?_)))))))))
        refine blockJ_ret (thenJ_ret ?_)
        exact ret1 (v := .int _ _) rfl rfl rfl fun w' hw => ⟨ret_int (verr_at (by omega) hp hv (vOne_range (by simp at h1; omega)) (by decide)).symm, hw.1⟩
      · have h1' : ¬ (v.ride < 1 ∨ 1000000 < v.ride ∨ v.rider < 0 ∨ 128 ≤ v.rider ∨ v.moment < 0 ∨ 4294943999 < v.moment) := by simp at h1; omega
        refine H_skip (thenJ_normal (H_seq (H_seq (R0 (xv (e_fld Tryz.underlying83 rfl Tryz.sizeOf3 rfl (q0 rfl)) (xv (eL Tryz.isAgg3 (q0 rfl)) ?_))))))
        refine xv (e_lt (q0 rfl) (q0 rfl)) (xv (mvB rfl) (xf (e_fld Tryz.underlying83 rfl Tryz.sizeOf3 rfl (q0 rfl)) rfl rfl (xf (eL Tryz.isAgg3 (q1 rfl)) rfl rfl ?_)))
        refine xf (e_gt (q1 rfl) (q0 rfl)) rfl rfl (xv (e_or (q0 rfl) rfl (fun h => by first | rfl | (rw [h]; rfl))) ?_)
        refine XN (thenJ_normal (H_cond rfl (fun h2 => ?_) (fun h2 => ?_)))
        · refine H_seq (R0 (xv (asI rfl) (XN (thenJ_normal (H_ret (thenJ_ret (blockJ_ret (thenJ_ret (loopJ_ret ?_)))))))))
          refine blockJ_ret (thenJ_ret ?_)
          exact ret1 (v := .int _ _) rfl rfl rfl fun w' hw => ⟨ret_int (verr_at (by omega) hp hv (vOne_kind h1' (by simp at h2; omega)) (by decide)).symm, hw.1⟩
        · have h2' : ¬ (v.kind < 1 ∨ 3 < v.kind) := by simp at h2; omega
          refine H_skip (thenJ_normal (H_seq (R0 (xv (asI rfl) (XN (thenJ_normal (H_block (H_loop [2, 5, 55, 56, 57, 58, 59, 60, 61, 62, 63, 64, 65, 66, 67] (fun j : Nat => [(5, .int .i64 j)]) (fun _ => _) (fun j => j ≤ k ∧ hasRide (vs.take j) v.ride = false) (fun j => k - j) 0 ⟨rfl, trivial⟩ (fun _ h => h) rfl ⟨Nat.zero_le _, rfl⟩ ?_))))))))
          rintro j g' ⟨hj, hh⟩
          refine H_seq (H_seq (R0 (xv (mvI rfl) (xv (mvI rfl) (xv (e_lt (q0 rfl) (q0 rfl)) (XN (thenJ_normal (H_cond rfl (fun hjk => ?_) (fun hjk => ?_)))))))))
          · simp at hjk
            obtain ⟨x, hxj, hrx⟩ := hx.row (show j < n by omega)
            refine H_skip (thenJ_normal (H_seq (H_block (H_seq (R1 rfl (by decide +kernel) (xv (mvS rfl) (xv (mvI rfl) (xv (e_idx _ Tryz.underlying37 Tryz.sizeOf83 (q0 rfl) (q0 rfl) (fun _ => ⟨rfl, by omega⟩)) (xv (e_fld Tryz.underlying83 rfl Tryz.sizeOf3 rfl (q0 rfl)) ?_)))))))))
            refine xv (eL Tryz.isAgg3 (q0 rfl)) ?_
            refine xv (e_fld Tryz.underlying83 rfl Tryz.sizeOf3 rfl (q0 rfl)) (xv (eL Tryz.isAgg3 (q0 rfl)) ?_)
            refine xv (e_eq (q0 rfl) (q0 rfl)) (XN (thenJ_normal (H_cond rfl (fun he => ?_) (fun he => ?_))))
            · refine H_seq (R0 (xv (asI rfl) (XN (thenJ_normal (H_ret (blockJ_ret (thenJ_ret (loopJ_ret (blockJ_ret ?_)))))))))
              refine blockJ_ret (thenJ_ret (loopJ_ret (blockJ_ret (thenJ_ret ?_))))
              exact ret1 (v := .int _ _) rfl rfl rfl fun w' hw => ⟨ret_int (verr_at (by omega) hp hv (vOne_twice h1' h2' (hasRide_at hjk hxj (by simpa using he))) (by decide)).symm, hw.1⟩
            · refine H_skip (blockJ_normal (thenJ_normal (R0 (xv (mvI rfl) (xv (e_add (q0 rfl) (q0 rfl) (fun _ => ⟨rfl, by omega, by omega⟩)) (xv (asI rfl) (XN ?_)))))))
              exact loopJ_normal (j + 1) agr ⟨rfl, trivial⟩ (fun _ h => h) rfl ⟨by omega, hasRide_snoc hh hxj (by simpa using he)⟩ (by show k - (j + 1) < k - j; omega)
          · obtain rfl : j = k := by simp at hjk; omega
            refine H_exit (thenJ_exit (loopJ_exit (blockJ_hit (blockJ_normal (thenJ_normal (R0 (xv (mvI rfl) (xv (e_add (q0 rfl) (q0 rfl) (fun _ => ⟨rfl, by omega, by omega⟩)) (xv (asI rfl) ?_)))))))))
            refine XN ?_
            exact loopJ_normal (j + 1) agr ⟨rfl, trivial⟩ (fun _ h => h.tail) rfl ⟨by omega, verr_next hp hv (vOne_ok h1' h2' hh)⟩ (by show n - (j + 1) < n - j; omega)
    · simp at hlt
      refine H_exit (thenJ_exit (loopJ_exit (blockJ_hit (thenJ_normal (H_seq (R0 (xv (asI rfl) (XN (thenJ_normal ?_)))))))))
      refine H_ret ?_
      exact ret1 (v := .int _ _) rfl rfl rfl fun w' hw => ⟨ret_int (verr_end (by omega) hp (by omega)).symm, hw.1⟩

end Go.Proofs.Pen

/-
  The walks: the violations of a rider, and the number of a verdict among them.
-/
namespace Go.Proofs.Pen
open Go Go.RowKit Go.Proofs.E

theorem viol_make (A : Option Addr) (n c : Nat) (rider : Int) (w : World) :
    Calls Tryz.prog 145 #[.slice A n c, .int .i64 rider] w fun e w' => ∃ x : Nat × Nat, e = .returned (.func (.func 180) #[] #[.pointer (some ⟨x.1, 0, none⟩), .pointer (some ⟨x.2, 0, none⟩)]) ∧
      Mem w [box x.2 3 [.int .i64 rider], box x.1 37 [.slice A n c]] w' := by
  refine H_enter Tryz.func145 rfl Tryz.ntmps145 rfl (H_seq (R0 (X_box (v := .slice _ _ _) rfl rfl fun b2 => (X_box (v := .int _ _) rfl rfl fun b3 => (xv (e_as (q0 rfl)) (XN (thenJ_normal (H_seq (R0 ?_)))))))))
  refine xV e_fn rfl rfl (xv (e_as (q0 rfl)) (XN (thenJ_normal (H_ret ?_))))
  exact ret1 rfl rfl rfl fun w' hw => ⟨(b2, b3), rfl, hw⟩

/-- what the iterator reads -/
def Reads (bl br : Nat) (A : Option Addr) (n c : Nat) (rider : Int) (vs : List V) (W : World) : Prop :=
  W.cell? ⟨bl, 0, none⟩ = some (.slice A n c) ∧ W.cell? ⟨br, 0, none⟩ = some (.int .i64 rider) ∧ bl < W.heap.size ∧ br < W.heap.size ∧ VsAt W A n vs
theorem Reads.below {bl br : Nat} {A : Option Addr} {n c : Nat} {rider : Int} {vs : List V} {W W' : World} (h : Reads bl br A n c rider vs W) (hb : Bel W W') : Reads bl br A n c rider vs W' :=
  ⟨(hb.cell (p := ⟨bl, 0, none⟩) h.2.2.1).trans h.1, (hb.cell (p := ⟨br, 0, none⟩) h.2.2.2.1).trans h.2.1, Nat.lt_of_lt_of_le h.2.2.1 hb.size, Nat.lt_of_lt_of_le h.2.2.2.1 hb.size, h.2.2.2.2.below hb⟩

theorem viol_snoc {rider : Int} {l : List V} {k : Nat} {v : V} (hv : l[k]? = some v) (h : (decide (v.rider = rider) && decide (v.kind = 2)) = true) : viol rider (l.take (k + 1)) = viol rider (l.take k) ++ [v] := by
  rw [take_snoc _ _ _ hv]; simp only [viol, List.filter_append]
  simp at h; simp [h]
theorem viol_skip {rider : Int} {l : List V} {k : Nat} {v : V} (hv : l[k]? = some v) (h : (decide (v.rider = rider) && decide (v.kind = 2)) = false) : viol rider (l.take (k + 1)) = viol rider (l.take k) := by
  rw [take_snoc _ _ _ hv]; simp only [viol, List.filter_append]
  simp at h; simp; exact h
theorem viol_pre {rider : Int} {l : List V} {k : Nat} : viol rider (l.take k) <+: viol rider l := by
  unfold viol; exact (List.take_prefix k l).filter _

theorem viol_iter (bl br : Nat) (A : Option Addr) (n c : Nat) (rider : Int) (vs : List V) :
    IterOK Tryz.prog 180 #[.pointer (some ⟨bl, 0, none⟩), .pointer (some ⟨br, 0, none⟩)] (fun v : V => #[.agg v.cells.toArray]) (viol rider vs) (Reads bl br A n c rider vs) := by
  intro l J Jx W hR hJ sJ sJx hY
  refine H_enter Tryz.func180 rfl Tryz.ntmps180 rfl ?_
  obtain ⟨hcl, hcr, hbl, hbr, hv⟩ := id hR
  have hn := hv.2.1
  have hl := hv.1
  refine H_seq (R0 (xv (eL Tryz.isAgg37 (q0 rfl)) ?_))
  refine xv (e_len Tryz.underlying37 (q0 rfl)) (xv (mvI rfl) (XN (thenJ_normal (H_block ?_))))
  clear hcl hcr hbl hbr hv
  refine H_loopW [5, 8, 9, 10, 11, 12, 13, 14, 15, 16, 17, 18, 19, 20, 21, 22, 23, 24, 25, 26, 27] (fun s : World × Nat => [(8, .int .i64 s.2)]) (fun s => s.1) (fun _ => []) (fun s => s.2 ≤ n ∧ Reads bl br A n c rider vs s.1 ∧ J (viol rider (vs.take s.2)) s.1) (fun s => n - s.2) (W, 0) ⟨rfl, trivial⟩ (fun _ h => h) rfl ⟨Nat.zero_le _, hR, hJ⟩ ?_
  rintro ⟨W1, k⟩ g ⟨hk, hR1, hJ1⟩
  dsimp only at hk hR1 hJ1 ⊢
  refine H_seq (R0 (xv (e_lt (q0 rfl) (q0 rfl)) (XN (thenJ_normal (H_seq (H_cond rfl (fun hlt => ?_) (fun hlt => ?_)))))))
  · simp at hlt
    obtain ⟨hcl, hcr, hbl, hbr, hv⟩ := id hR1
    obtain ⟨b, off, v, rfl, hvb, hvk, hrow⟩ := hv.at_ hlt
    refine H_skip (thenJ_normal (H_seq (H_block (H_seq (R0 (xv (e_idx _ Tryz.underlying37 Tryz.sizeOf83 (q0 rfl) (q0 rfl) (fun _ => ⟨rfl, by omega⟩)) (xv (eS Tryz.isAgg83 Tryz.sizeOf83 (q0 rfl)) ?_)))))))
    refine X_alloc Tryz.zeroValue83 rfl fun b5 => (X_st (v := .agg _) rfl rfl Tryz.sizeOf83 ?_)
    refine XN (thenJ_normal (H_seq (R0 (xv (e_fld Tryz.underlying83 rfl Tryz.sizeOf3 rfl (q0 rfl)) (xv (eL Tryz.isAgg3 (q0 rfl)) ?_)))))
    refine xv (eL Tryz.isAgg3 (q0 rfl)) ?_
    refine xv (e_eq (q0 rfl) (q0 rfl)) (xv (mvB rfl) (xt (e_fld Tryz.underlying83 rfl Tryz.sizeOf3 rfl (q0 rfl)) rfl rfl (xt (eL Tryz.isAgg3 (q1 rfl)) rfl rfl ?_)))
    refine xt (e_eq (q1 rfl) (q0 rfl)) rfl rfl (xv (e_and (q0 rfl) rfl (fun h => by first | rfl | (rw [h]; rfl))) ?_)
    refine xv (mvB rfl) (xt (e_mv (q0 rfl)) rfl rfl (xt (eS Tryz.isAgg83 Tryz.sizeOf83 (q0 rfl)) rfl rfl ?_))
    refine X_yield (A := fun W' => J (viol rider (vs.take (k + 1))) W' ∧ Reads bl br (some ⟨b, off, none⟩) n c rider vs W') (B := Jx) (Gd_true rfl rfl) (q1 rfl) (ha1 (q1 rfl)) rfl rfl (fun h w hw => ?_) (fun h => ?_) (fun h W2 hW2 => ?_) (fun h W2 hW2 => ?_)
    · have := hY (viol rider (vs.take k)) v w (by rw [← viol_snoc hvk h]; exact viol_pre) (hR1.below hw.1) (sJ _ _ _ hJ1 hw.1)
      rw [viol_snoc hvk h]
      exact this
    · refine xt (e_not (q1 rfl)) rfl rfl (xv (e_and (q0 rfl) rfl (fun h => by first | rfl | (rw [h]; rfl))) ?_)
      refine XN (thenJ_normal (H_cond rfl (fun hc => ?_) (fun hc => ?_)))
      · rw [h] at hc; simp at hc
      · refine H_skip (blockJ_normal (thenJ_normal (R0 (xv (e_add (q0 rfl) (q0 rfl) (fun _ => ⟨rfl, by omega, by omega⟩)) (xv (mvI rfl) (XN ?_))))))
        exact loopJ_normal (W1, k + 1) agr ⟨rfl, trivial⟩ (fun _ h => h.tail) rfl ⟨by dsimp only; omega, hR1, by rw [viol_skip hvk h]; exact hJ1⟩ (by show n - (k + 1) < n - k; omega)
    · refine xt (e_not (q1 rfl)) rfl rfl (xv (e_and (q0 rfl) rfl (fun h => by first | rfl | (rw [h]; rfl))) ?_)
      refine XN (thenJ_normal (H_cond rfl (fun hc => ?_) (fun hc => ?_)))
      · simp at hc
      · refine H_skip (blockJ_normal (thenJ_normal (R0 (xv (e_add (q0 rfl) (q0 rfl) (fun _ => ⟨rfl, by omega, by omega⟩)) (xv (mvI rfl) (XN ?_))))))
        exact loopJ_normal (W2, k + 1) agr ⟨rfl, trivial⟩ (fun _ h => h) rfl ⟨by dsimp only; omega, hW2.2, hW2.1⟩ (by show n - (k + 1) < n - k; omega)
    · refine xt (e_not (q1 rfl)) rfl rfl (xv (e_and (q0 rfl) rfl (fun h => by first | rfl | (rw [h]; rfl))) ?_)
      refine XN (thenJ_normal (H_cond rfl (fun hc => ?_) (fun hc => ?_)))
      · refine H_ret (blockJ_ret (thenJ_ret (loopJ_ret (blockJ_ret ?_))))
        exact ret0 rfl rfl fun w' hw => ⟨rfl, .inr (sJx _ _ hW2 hw.1)⟩
      · rw [h] at hc; simp at hc
  · simp at hlt
    refine H_exit (thenJ_exit (loopJ_exit (blockJ_hit (end0 rfl rfl fun w' hw => ⟨rfl, .inl (sJ _ _ _ ?_ hw.1)⟩))))
    rw [List.take_of_length_le (by omega)] at hJ1
    exact hJ1

end Go.Proofs.Pen

/-
  The walks: the number of a verdict, its penalty, a rider's total.
-/
namespace Go.Proofs.Pen
open Go Go.RowKit Go.Proofs.E

def late (days : Int) (v x : V) : Bool := before x v && inDays days x v
theorem cnt_eq (days : Int) (l : List V) (v : V) : cnt days l v = ((viol v.rider l).filter (late days v)).length := by
  unfold cnt viol
  rw [List.filter_filter]
  congr 1
  apply List.filter_congr
  intro x _
  simp only [hit, late]
  rw [Bool.and_comm]
def nth (days : Int) (v : V) (pre : List V) : Int := 1 + ((pre.filter (late days v)).length : Int)
theorem nth_yes {days : Int} {v x : V} {pre : List V} (h : late days v x = true) : nth days v (pre ++ [x]) = nth days v pre + 1 := by
  unfold nth; rw [List.filter_append]; simp [h]; omega
theorem nth_no {days : Int} {v x : V} {pre : List V} (h : late days v x = false) : nth days v (pre ++ [x]) = nth days v pre := by
  unfold nth; rw [List.filter_append]; simp [h]
theorem nth_le {days : Int} {v : V} {pre : List V} : 1 ≤ nth days v pre ∧ nth days v pre ≤ 1 + pre.length := by
  unfold nth; have := List.length_filter_le (late days v) pre; omega
theorem num_bad {days : Int} {l : List V} {v : V} (h : v.kind = 2) : num days l v = nth days v (viol v.rider l) := by
  unfold num nth; rw [if_pos h, cnt_eq]
theorem viol_mem {rider : Int} {l : List V} {x : V} (h : x ∈ viol rider l) : x ∈ l := (List.mem_filter.1 h).1
theorem viol_len {rider : Int} {l : List V} : (viol rider l).length ≤ l.length := List.length_filter_le _ _

/-- moments that are in range -/
def Timely (l : List V) : Prop := ∀ x ∈ l, 0 ≤ x.moment ∧ x.moment ≤ 4294943999

theorem number_w (a0 a1 a2 a3 a4 : Value) (fA : Option Addr) (fn fc : Nat) (days : Int) (A : Option Addr) (n c : Nat) (vs : List V) (v : V) (w : World) (hx : VsAt w A n vs) (h256 : vs.length ≤ 256) (ht : Timely vs) (hv : 0 ≤ v.moment ∧ v.moment ≤ 4294943999) (hd : 0 ≤ days ∧ days ≤ 49709) :
    Calls Tryz.prog 97 #[.agg #[a0, a1, a2, a3, a4, .slice fA fn fc, .int .i64 days], .slice A n c, .agg v.cells.toArray] w fun e w' => e = .returned (.int .i64 (num days vs v)) ∧ Bel w w' := by
  have hl := hx.1
  refine H_enter Tryz.func97 rfl Tryz.ntmps97 rfl (H_seq (R0 (X_box (v := .agg _) rfl rfl fun b3 => (X_box (v := .agg _) rfl rfl fun b5 => (xv (asI rfl) (XN (thenJ_normal (H_seq (H_seq ?_)))))))))
  refine R0 (xv (e_fld Tryz.underlying83 rfl Tryz.sizeOf3 rfl (q0 rfl)) (xv (eL Tryz.isAgg3 (q0 rfl)) ?_))
  refine xv (e_ne (q0 rfl) (q0 rfl)) (XN (thenJ_normal (H_cond rfl (fun hk => ?_) (fun hk => ?_))))
  · refine H_seq (R0 (xv (asI rfl) (XN (thenJ_normal (H_ret (thenJ_ret ?_))))))
    exact ret1 (v := .int _ _) rfl rfl rfl fun w' hw => ⟨ret_int (by simp at hk; unfold num; rw [if_neg hk]), hw.1⟩
  · have hk2 : v.kind = 2 := by simpa using hk
    refine H_skip (thenJ_normal (H_seq (R0 (X_alloc Tryz.zeroValue3 rfl fun b7 => (X_st (v := .int _ _) rfl rfl Tryz.sizeOf3 ?_)))))
    refine XN (thenJ_normal (H_seq (H_seq (R0 (xv (mvS rfl) (xv (e_fld Tryz.underlying83 rfl Tryz.sizeOf3 rfl (q0 rfl)) (xv (eL Tryz.isAgg3 (q0 rfl)) ?_)))))))
    refine xCX (en Tryz.call145 (ha2 (q0 rfl) (q0 rfl))) (fun w _ => viol_make A n c v.rider w) rfl (fun _ => rfl) fun x => (XN (thenJ_normal (H_block (H_range (viol v.rider vs) (Reads x.1 x.2 A n c v.rider vs) (fun pre => [box x.2 3 [.int .i64 v.rider], box x.1 37 [.slice A n c], box b7 3 [.int .i64 (nth days v pre)], box b5 83 v.cells, box b3 28 [a0, a1, a2, a3, a4, .slice fA fn fc, .int .i64 days]]) (fun _ _ => False) rfl rfl Tryz.call180 (viol_iter x.1 x.2 A n c v.rider vs) (fun _ => rfl) rfl (fun _ h => h) (fun _ => rfl) (fun _ _ h => h.elim) (fun pre w hw => ⟨box_cell hw (k := 1) rfl rfl, box_cell hw (k := 0) rfl rfl, (hw.itemLt (k := 1) rfl rfl).2, (hw.itemLt (k := 0) rfl rfl).2, hx.mem hw⟩) ?_ ?_ (fun _ _ _ h => h.elim) rfl))))
    · rintro l D r pre y hpre -
      have hy : y ∈ viol v.rider vs := hpre.subset (by simp)
      have hym := ht y (viol_mem hy)
      have hnl := nth_le (days := days) (v := v) (pre := pre)
      have hpl : pre.length ≤ 256 := by have h1 := hpre.length_le; have h2 := viol_len (rider := v.rider) (l := vs); simp at h1; omega
      refine R0 (X_alloc Tryz.zeroValue83 rfl fun b8 => (X_st (v := .agg _) rfl rfl Tryz.sizeOf83 ?_))
      refine XN (asgJ_normal _ rfl rfl (fun w hw => hw.pick [1, 2, 0, 3, 4, 5, 6, 7] (by decide)) fun r' => (H_block (H_seq (R0 (xv (eS Tryz.isAgg83 Tryz.sizeOf83 (q0 rfl)) ?_)))))
      refine xv (eS Tryz.isAgg83 Tryz.sizeOf83 (q0 rfl)) ?_
      refine xC (en Tryz.call146 (ha2 (q0 rfl) (q0 rfl))) (fun _ w _ => before_w y v w) rfl rfl (xv (mvB rfl) (xt (e_fld Tryz.underlying83 rfl Tryz.sizeOf3 rfl (q0 rfl)) rfl rfl (xt (eL Tryz.isAgg3 (q1 rfl)) rfl rfl ?_)))
      refine xt (e_quo (q1 rfl) (q0 rfl) (fun _ => by omega)) rfl rfl (xt (e_fld Tryz.underlying83 rfl Tryz.sizeOf3 rfl (q0 rfl)) rfl rfl (xt (eL Tryz.isAgg3 (q1 rfl)) rfl rfl ?_))
      refine xt (e_quo (q1 rfl) (q0 rfl) (fun _ => by omega)) rfl rfl (xt (e_fld Tryz.underlying28 rfl Tryz.sizeOf3 rfl (q0 rfl)) rfl rfl (xt (eL Tryz.isAgg3 (q1 rfl)) rfl rfl ?_))
      refine xt (e_sub (q1 rfl) (q1 rfl) (fun _ => ⟨rfl, by omega, by omega⟩)) rfl rfl (xt (e_ge (q1 rfl) (q1 rfl)) rfl rfl (xv (e_and (q0 rfl) rfl (fun h => by first | rfl | (rw [h]; rfl))) ?_))
      refine XN (thenJ_normal (H_cond rfl (fun hc => ?_) (fun hc => ?_)))
      · refine R0 (xv (eL Tryz.isAgg3 (q0 rfl)) ?_)
        refine xv (e_add (q0 rfl) (q0 rfl) (fun _ => ⟨rfl, by omega, by omega⟩)) (X_st (v := .int _ _) rfl rfl Tryz.sizeOf3 ?_)
        refine XN (blockJ_normal ?_)
        exact roundJ_normal fun w hw => by rw [nth_yes hc]; exact hw.pick [0, 1, 3, 4, 5, 6, 7] (by decide)
      · refine H_skip (blockJ_normal ?_)
        exact roundJ_normal fun w hw => by rw [nth_no hc]; exact hw.pick [0, 1, 3, 4, 5, 6, 7] (by decide)
    · intro D
      refine blockJ_normal (thenJ_normal (H_seq (R0 (xv (eL Tryz.isAgg3 (q0 rfl)) ?_))))
      refine xv (asI rfl) (XN (thenJ_normal (H_ret ?_)))
      exact ret_of_m rfl (res1 (v := .int _ _) rfl rfl) fun w' hw => ⟨ret_int (num_bad hk2).symm, hw.1⟩

theorem num_nonneg {days : Int} {l : List V} {v : V} : 0 ≤ num days l v ∧ num days l v ≤ 1 + l.length := by
  unfold num cnt
  have := List.length_filter_le (hit days v) l
  split <;> omega
theorem fine_zero {fines : List Int} {days : Int} {l : List V} {v : V} (h : (if (fines.length : Int) < num days l v then (fines.length : Int) else num days l v) = 0) : fine fines days l v = 0 := by
  have := num_nonneg (days := days) (l := l) (v := v)
  unfold fine
  rw [if_pos]
  split at h <;> omega
theorem fine_some {fines : List Int} {days : Int} {l : List V} {v : V} {x : Int} (h : ¬ (if (fines.length : Int) < num days l v then (fines.length : Int) else num days l v) = 0)
    (hx : fines[((if (fines.length : Int) < num days l v then (fines.length : Int) else num days l v) - 1).toNat]? = some x) : fine fines days l v = x := by
  have hn := num_nonneg (days := days) (l := l) (v := v)
  unfold fine
  rw [if_neg (by split at h <;> omega), List.getD_eq_getElem?_getD]
  have : min (num days l v).toNat fines.length - 1 = ((if (fines.length : Int) < num days l v then (fines.length : Int) else num days l v) - 1).toNat := by split <;> omega
  rw [this, hx]; rfl

theorem fine_w (a0 a1 a2 a3 a4 : Value) (fA : Option Addr) (fn fc : Nat) (fines : List Int) (days : Int) (A : Option Addr) (n c : Nat) (vs : List V) (v : V) (w : World) (hf : IntsAt w fA fn fines) (hx : VsAt w A n vs) (h256 : vs.length ≤ 256) (ht : Timely vs) (hv : 0 ≤ v.moment ∧ v.moment ≤ 4294943999) (hd : 0 ≤ days ∧ days ≤ 49709) :
    Calls Tryz.prog 98 #[.agg #[a0, a1, a2, a3, a4, .slice fA fn fc, .int .i64 days], .slice A n c, .agg v.cells.toArray] w fun e w' => e = .returned (.int .i64 (fine fines days vs v)) ∧ Bel w w' := by
  have hl := hf.1
  have hn := num_nonneg (days := days) (l := vs) (v := v)
  subst hl
  refine H_enter Tryz.func98 rfl Tryz.ntmps98 rfl (H_seq (R0 (X_box (v := .agg _) rfl rfl fun b3 => (X_box (v := .agg _) rfl rfl fun b5 => (xv (asI rfl) (XN (thenJ_normal (H_seq (R1 rfl (by decide +kernel) ?_)))))))))
  refine xv (eS Tryz.isAgg28 Tryz.sizeOf28 (q0 rfl)) ?_
  refine xv (mvS rfl) (xv (eS Tryz.isAgg83 Tryz.sizeOf83 (q0 rfl)) ?_)
  refine xC (en Tryz.call97 (ha3 (q0 rfl) (q0 rfl) (q0 rfl))) (fun _ w hm => number_w a0 a1 a2 a3 a4 fA fines.length fc days A n c vs v w (hx.mem hm) h256 ht hv hd) rfl rfl (xv (e_fld Tryz.underlying28 rfl Tryz.sizeOf22 rfl (q0 rfl)) (xv (eL Tryz.isAgg22 (q0 rfl)) ?_))
  refine xv (e_len Tryz.underlying22 (q0 rfl)) (xv (e_min (q0 rfl) (q0 rfl)) (xv (asI rfl) (XN (thenJ_normal (H_seq (H_seq (R0 (xv (mvI rfl) (xv (e_eq (q0 rfl) (q0 rfl)) ?_)))))))))
  refine XN (thenJ_normal (H_cond rfl (fun hz => ?_) (fun hz => ?_)))
  · refine H_seq (R0 (xv (asI rfl) (XN (thenJ_normal (H_ret (thenJ_ret ?_))))))
    exact ret1 (v := .int _ _) rfl rfl rfl fun w' hw => ⟨ret_int (fine_zero (by simpa using hz)).symm, hw.1⟩
  · have hz' := of_decide_eq_false hz
    obtain ⟨b, off, x, rfl, hbl, hxk, hr⟩ := hf.at_ (i := ((if (fines.length : Int) < num days vs v then (fines.length : Int) else num days vs v) - 1).toNat) (by split at hz' <;> split <;> omega)
    refine H_skip (thenJ_normal (H_seq (R0 (xv (e_fld Tryz.underlying28 rfl Tryz.sizeOf22 rfl (q0 rfl)) (xv (eL Tryz.isAgg22 (q0 rfl)) ?_)))))
    refine xv (mvI rfl) (xv (e_sub (q0 rfl) (q0 rfl) (fun _ => ⟨rfl, by split <;> omega, by split <;> omega⟩)) (xv (e_idx _ Tryz.underlying22 Tryz.sizeOf3 (q0 rfl) (q0 rfl) (fun _ => ⟨(Int.toNat_of_nonneg (by split at hz' <;> split <;> omega)).symm, by split at hz' <;> split <;> omega⟩)) (xv (eL Tryz.isAgg3 (q0 rfl)) ?_)))
    refine xv (asI rfl) (XN (thenJ_normal (H_ret ?_)))
    exact ret1 (v := .int _ _) rfl rfl rfl fun w' hw => ⟨ret_int (fine_some hz' hxk).symm, hw.1⟩

theorem check2_w (a0 a1 a2 a3 a4 : Value) (fA : Option Addr) (fn fc : Nat) (fines : List Int) (days : Int) (A : Option Addr) (n c : Nat) (vs : List V) (w : World) (hf : IntsAt w fA fn fines) (hx : VsAt w A n vs) :
    Calls Tryz.prog 96 #[.agg #[a0, a1, a2, a3, a4, .slice fA fn fc, .int .i64 days], .slice A n c] w fun e w' => e = .returned (.int .i64 (cErr fines days vs)) ∧ Bel w w' := by
  refine H_enter Tryz.func96 rfl Tryz.ntmps96 rfl (H_seq (R0 (X_box (v := .agg _) rfl rfl fun b2 => (xv (asI rfl) (XN (thenJ_normal (H_seq (H_seq (R0 ?_)))))))))
  refine xv (eS Tryz.isAgg28 Tryz.sizeOf28 (q0 rfl)) ?_
  refine xC (en Tryz.call33 (ha1 (q0 rfl))) (fun _ w hm => check_w a0 a1 a2 a3 a4 fA fn fc fines days w (hf.mem hm)) rfl rfl (xv (asI rfl) (XN (thenJ_normal (H_seq (R0 (xv (mvI rfl) (xv (e_ne (q0 rfl) (q0 rfl)) (XN (thenJ_normal ?_)))))))))
  refine H_cond rfl (fun hz => ?_) (fun hz => ?_)
  · refine H_seq (R0 (xv (mvI rfl) (xv (asI rfl) (XN (thenJ_normal (H_ret (thenJ_ret ?_)))))))
    exact ret1 (v := .int _ _) rfl rfl rfl fun w' hw => ⟨ret_int (by simp at hz; unfold cErr; rw [if_pos hz]), hw.1⟩
  · refine H_skip (thenJ_normal (H_seq (R0 (xv (mvS rfl) (xC (en Tryz.call42 (ha1 (q0 rfl))) (fun _ w hm => verd_w A n c vs w (hx.mem hm)) rfl rfl (xv (asI rfl) (XN (thenJ_normal (H_ret ?_)))))))))
    exact ret1 (v := .int _ _) rfl rfl rfl fun w' hw => ⟨ret_int (by simp at hz; unfold cErr; rw [if_neg (by simpa using hz)]), hw.1⟩

/-! what no error means -/
theorem vErrL_ok {seen l : List V} (h : vErrL seen l = 0) : ∀ x ∈ l, vBad x = 0 := by
  induction l generalizing seen with
  | nil => simp
  | cons v l ih =>
    unfold vErrL at h
    by_cases h1 : vOne seen v ≠ 0
    · rw [if_pos h1] at h; exact absurd h h1
    · rw [if_neg h1] at h
      intro x hx
      rcases List.mem_cons.1 hx with rfl | hx
      · simp only [ne_eq, Decidable.not_not] at h1
        unfold vOne at h1
        split at h1
        · exact h1
        · rename_i hb; simpa using hb
      · exact ih h x hx
theorem vErr_ok {l : List V} (h : vErr l = 0) : l.length ≤ 256 ∧ ∀ x ∈ l, vBad x = 0 := by
  unfold vErr at h
  split at h
  · cases h
  · exact ⟨by omega, vErrL_ok h⟩
theorem vBad_ok {v : V} (h : vBad v = 0) : 1 ≤ v.ride ∧ v.ride ≤ 1000000 ∧ 0 ≤ v.rider ∧ v.rider < 128 ∧ 0 ≤ v.moment ∧ v.moment ≤ 4294943999 ∧ 1 ≤ v.kind ∧ v.kind ≤ 3 := by
  unfold vBad at h
  split at h
  · cases h
  · split at h
    · cases h
    · omega
theorem timely_of {l : List V} (h : vErr l = 0) : Timely l := fun x hx => by
  have := vBad_ok ((vErr_ok h).2 x hx); omega
theorem pErr_ok2 {xs : List Int} {d : Int} (h : pErr xs d = 0) : xs.length ≤ 512 ∧ (∀ x ∈ xs, 0 ≤ x ∧ x ≤ 1000000) ∧ 0 ≤ d ∧ d ≤ 49709 := by
  unfold pErr at h
  split at h
  · cases h
  · split at h
    · cases h
    · split at h
      · cases h
      · rename_i h1 h2 h3
        refine ⟨by omega, fun x hx => ?_, by omega⟩
        simp only [List.any_eq_true, not_exists, not_and, Bool.not_eq_true] at h2
        have := h2 x hx
        simp [fineBad] at this; omega
theorem cErr_ok {fines : List Int} {d : Int} {l : List V} (h : cErr fines d l = 0) : pErr fines d = 0 ∧ vErr l = 0 := by
  unfold cErr at h
  split at h
  · rename_i h1; exact absurd h h1
  · rename_i h1; exact ⟨by simpa using h1, h⟩

theorem Number_w (a0 a1 a2 a3 a4 : Value) (fA : Option Addr) (fn fc : Nat) (fines : List Int) (days : Int) (A : Option Addr) (n c : Nat) (vs : List V) (i : Int) (w : World) (hf : IntsAt w fA fn fines) (hx : VsAt w A n vs) :
    Calls Tryz.prog 53 #[.agg #[a0, a1, a2, a3, a4, .slice fA fn fc, .int .i64 days], .slice A n c, .int .i64 i] w fun e w' => e = .returned (.tuple #[.int .i64 (numR fines days vs i).1, .int .i64 (numR fines days vs i).2]) ∧ Bel w w' := by
  have hl := hx.1
  refine H_enter Tryz.func53 rfl Tryz.ntmps53 rfl (H_seq (R0 (X_box (v := .agg _) rfl rfl fun b3 => (xv (asI rfl) (xv (asI rfl) (XN (thenJ_normal (H_seq (H_seq ?_)))))))))
  refine R0 (xv (eS Tryz.isAgg28 Tryz.sizeOf28 (q0 rfl)) ?_)
  refine xv (mvS rfl) (xC (en Tryz.call96 (ha2 (q0 rfl) (q0 rfl))) (fun _ w hm => check2_w a0 a1 a2 a3 a4 fA fn fc fines days A n c vs w (hf.mem hm) (hx.mem hm)) rfl rfl (xv (asI rfl) (XN (thenJ_normal (H_seq (R0 (xv (mvI rfl) (xv (e_ne (q0 rfl) (q0 rfl)) (XN ?_)))))))))
  refine thenJ_normal (H_cond rfl (fun hz => ?_) (fun hz => ?_))
  · refine H_seq (R0 (xv (mvI rfl) (xv (asI rfl) (xv (asI rfl) (XN (thenJ_normal (H_ret (thenJ_ret ?_))))))))
    exact ret2 (v := .int _ _) (x := .int _ _) rfl rfl rfl rfl fun w' hw => ⟨by simp at hz; unfold numR; rw [if_pos hz] <;> rfl, hw.1⟩
  · have hz' : cErr fines days vs = 0 := by simpa using hz
    obtain ⟨hp, hv⟩ := cErr_ok hz'
    refine H_skip (thenJ_normal (H_seq (H_seq (R0 (xv (mvI rfl) (xv (e_lt (q0 rfl) (q0 rfl)) (xv (mvB rfl) (xf (mvI rfl) rfl rfl (xf (mvS rfl) rfl rfl ?_)))))))))
    refine xf (e_len Tryz.underlying37 (q1 rfl)) rfl rfl (xf (e_ge (q1 rfl) (q1 rfl)) rfl rfl (xv (e_or (q0 rfl) rfl (fun h => by first | rfl | (rw [h]; rfl))) ?_))
    refine XN (thenJ_normal (H_cond rfl (fun hi => ?_) (fun hi => ?_)))
    · refine H_seq (R0 (xv (asI rfl) (xv (asI rfl) (XN (thenJ_normal (H_ret (thenJ_ret ?_)))))))
      exact ret2 (v := .int _ _) (x := .int _ _) rfl rfl rfl rfl fun w' hw => ⟨by unfold numR; rw [if_neg (by simpa using hz'), if_pos (by simp at hi; omega)] <;> rfl, hw.1⟩
    · simp at hi
      obtain ⟨k, rfl⟩ := Int.eq_ofNat_of_zero_le hi.1
      obtain ⟨b, off, v, rfl, hbl, hvk, hr⟩ := hx.at_ (i := k) (by omega)
      refine H_skip (thenJ_normal (H_seq (R1 rfl (by decide +kernel) (xv (eS Tryz.isAgg28 Tryz.sizeOf28 (q0 rfl)) ?_))))
      refine xv (mvS rfl) (xv (mvS rfl) (xv (mvI rfl) (xv (e_idx _ Tryz.underlying37 Tryz.sizeOf83 (q0 rfl) (q0 rfl) (fun _ => ⟨rfl, by omega⟩)) (xv (eS Tryz.isAgg83 Tryz.sizeOf83 (q0 rfl)) ?_))))
      refine xC (en Tryz.call97 (ha3 (q0 rfl) (q0 rfl) (q0 rfl))) (fun _ w hm => number_w a0 a1 a2 a3 a4 fA fn fc days _ n c vs v w (hx.mem hm) (vErr_ok hv).1 (timely_of hv) (timely_of hv v (List.mem_of_getElem? hvk)) (pErr_ok2 hp).2.2) rfl rfl (xv (asI rfl) (xv (asI rfl) (XN (thenJ_normal (H_ret ?_)))))
      exact ret2 (v := .int _ _) (x := .int _ _) rfl rfl rfl rfl fun w' hw => ⟨by unfold numR; rw [if_neg (by simpa using hz'), if_neg (by omega), List.getD_eq_getElem?_getD, Int.toNat_natCast, hvk] <;> rfl, hw.1⟩

theorem Fine_w (a0 a1 a2 a3 a4 : Value) (fA : Option Addr) (fn fc : Nat) (fines : List Int) (days : Int) (A : Option Addr) (n c : Nat) (vs : List V) (i : Int) (w : World) (hf : IntsAt w fA fn fines) (hx : VsAt w A n vs) :
    Calls Tryz.prog 54 #[.agg #[a0, a1, a2, a3, a4, .slice fA fn fc, .int .i64 days], .slice A n c, .int .i64 i] w fun e w' => e = .returned (.tuple #[.int .i64 (fineR fines days vs i).1, .int .i64 (fineR fines days vs i).2]) ∧ Bel w w' := by
  have hl := hx.1
  refine H_enter Tryz.func54 rfl Tryz.ntmps54 rfl (H_seq (R0 (X_box (v := .agg _) rfl rfl fun b3 => (xv (asI rfl) (xv (asI rfl) (XN (thenJ_normal (H_seq (H_seq ?_)))))))))
  refine R0 (xv (eS Tryz.isAgg28 Tryz.sizeOf28 (q0 rfl)) ?_)
  refine xv (mvS rfl) (xC (en Tryz.call96 (ha2 (q0 rfl) (q0 rfl))) (fun _ w hm => check2_w a0 a1 a2 a3 a4 fA fn fc fines days A n c vs w (hf.mem hm) (hx.mem hm)) rfl rfl (xv (asI rfl) (XN (thenJ_normal (H_seq (R0 (xv (mvI rfl) (xv (e_ne (q0 rfl) (q0 rfl)) (XN ?_)))))))))
  refine thenJ_normal (H_cond rfl (fun hz => ?_) (fun hz => ?_))
  · refine H_seq (R0 (xv (mvI rfl) (xv (asI rfl) (xv (asI rfl) (XN (thenJ_normal (H_ret (thenJ_ret ?_))))))))
    exact ret2 (v := .int _ _) (x := .int _ _) rfl rfl rfl rfl fun w' hw => ⟨by simp at hz; unfold fineR; rw [if_pos hz] <;> rfl, hw.1⟩
  · have hz' : cErr fines days vs = 0 := by simpa using hz
    obtain ⟨hp, hv⟩ := cErr_ok hz'
    refine H_skip (thenJ_normal (H_seq (H_seq (R0 (xv (mvI rfl) (xv (e_lt (q0 rfl) (q0 rfl)) (xv (mvB rfl) (xf (mvI rfl) rfl rfl (xf (mvS rfl) rfl rfl ?_)))))))))
    refine xf (e_len Tryz.underlying37 (q1 rfl)) rfl rfl (xf (e_ge (q1 rfl) (q1 rfl)) rfl rfl (xv (e_or (q0 rfl) rfl (fun h => by first | rfl | (rw [h]; rfl))) ?_))
    refine XN (thenJ_normal (H_cond rfl (fun hi => ?_) (fun hi => ?_)))
    · refine H_seq (R0 (xv (asI rfl) (xv (asI rfl) (XN (thenJ_normal (H_ret (thenJ_ret ?_)))))))
      exact ret2 (v := .int _ _) (x := .int _ _) rfl rfl rfl rfl fun w' hw => ⟨by unfold fineR; rw [if_neg (by simpa using hz'), if_pos (by simp at hi; omega)] <;> rfl, hw.1⟩
    · simp at hi
      obtain ⟨k, rfl⟩ := Int.eq_ofNat_of_zero_le hi.1
      obtain ⟨b, off, v, rfl, hbl, hvk, hr⟩ := hx.at_ (i := k) (by omega)
      refine H_skip (thenJ_normal (H_seq (R1 rfl (by decide +kernel) (xv (eS Tryz.isAgg28 Tryz.sizeOf28 (q0 rfl)) ?_))))
      refine xv (mvS rfl) (xv (mvS rfl) (xv (mvI rfl) (xv (e_idx _ Tryz.underlying37 Tryz.sizeOf83 (q0 rfl) (q0 rfl) (fun _ => ⟨rfl, by omega⟩)) (xv (eS Tryz.isAgg83 Tryz.sizeOf83 (q0 rfl)) ?_))))
      refine xC (en Tryz.call98 (ha3 (q0 rfl) (q0 rfl) (q0 rfl))) (fun _ w hm => fine_w a0 a1 a2 a3 a4 fA fn fc fines days _ n c vs v w (hf.mem hm) (hx.mem hm) (vErr_ok hv).1 (timely_of hv) (timely_of hv v (List.mem_of_getElem? hvk)) (pErr_ok2 hp).2.2) rfl rfl (xv (asI rfl) (xv (asI rfl) (XN (thenJ_normal (H_ret ?_)))))
      exact ret2 (v := .int _ _) (x := .int _ _) rfl rfl rfl rfl fun w' hw => ⟨by unfold fineR; rw [if_neg (by simpa using hz'), if_neg (by omega), List.getD_eq_getElem?_getD, Int.toNat_natCast, hvk] <;> rfl, hw.1⟩

theorem fine_le {fines : List Int} {days : Int} {l : List V} {v : V} (h : ∀ x ∈ fines, 0 ≤ x ∧ x ≤ 1000000) : 0 ≤ fine fines days l v ∧ fine fines days l v ≤ 1000000 := by
  unfold fine
  split
  · omega
  · rw [List.getD_eq_getElem?_getD]
    cases hx : fines[min (num days l v).toNat fines.length - 1]? with
    | none => simp
    | some x => exact h x (List.mem_of_getElem? hx)
theorem sumF_le {f : V → Int} (hf : ∀ v, 0 ≤ f v ∧ f v ≤ 1000000) : ∀ l : List V, 0 ≤ sumF f l ∧ sumF f l ≤ 1000000 * l.length
  | [] => by simp [sumF]
  | v :: l => by
    have h1 := hf v
    have h2 := sumF_le hf l
    simp only [sumF, List.map_cons, List.sum_cons, List.length_cons] at h2 ⊢
    omega
theorem sumF_snoc {f : V → Int} {l : List V} {v : V} : sumF f (l ++ [v]) = sumF f l + f v := by simp [sumF]

end Go.Proofs.Pen

/-
  The walks of the reference: numbers, penalties, totals.
-/
namespace Go.Proofs.Pen
open Go Go.RowKit Go.Proofs.E

def rhit (days : Int) (v x : V) : Bool := ((decide (x.kind = 2) && decide (x.rider = v.rider)) && before x v) && inDays days x v
theorem rhit_eq (days : Int) (v x : V) : rhit days v x = hit days v x := by
  unfold rhit hit
  rw [show (x.rider == v.rider) = decide (x.rider = v.rider) from rfl, show (x.kind == 2) = decide (x.kind = 2) from rfl]
  cases decide (x.kind = 2) <;> cases decide (x.rider = v.rider) <;> cases before x v <;> cases inDays days x v <;> rfl
theorem cnt_snoc_yes {days : Int} {v x : V} {l : List V} {k : Nat} (hx : l[k]? = some x) (h : rhit days v x = true) : cnt days (l.take (k + 1)) v = cnt days (l.take k) v + 1 := by
  rw [rhit_eq] at h
  unfold cnt; rw [take_snoc _ _ _ hx, List.filter_append]; simp [h]
theorem cnt_snoc_no {days : Int} {v x : V} {l : List V} {k : Nat} (hx : l[k]? = some x) (h : rhit days v x = false) : cnt days (l.take (k + 1)) v = cnt days (l.take k) v := by
  rw [rhit_eq] at h
  unfold cnt; rw [take_snoc _ _ _ hx, List.filter_append]; simp [h]
theorem cnt_le {days : Int} {v : V} {l : List V} {k : Nat} : cnt days (l.take k) v ≤ k := by
  unfold cnt
  have h1 := List.length_filter_le (hit days v) (l.take k)
  have h2 := List.length_take_le k l
  omega

theorem cErr_p {fines : List Int} {days : Int} {vs : List V} (h : ¬ pErr fines days = 0) : cErr fines days vs = pErr fines days := by unfold cErr; rw [if_pos h]
theorem cErr_v {fines : List Int} {days : Int} {vs : List V} (h : pErr fines days = 0) : cErr fines days vs = vErr vs := by unfold cErr; rw [if_neg (by simpa using h)]
theorem numR_err {fines : List Int} {days : Int} {vs : List V} {i e : Int} (h : cErr fines days vs = e) (he : ¬ e = 0) : numR fines days vs i = (0, e) := by unfold numR; rw [h, if_pos he]
theorem fineR_err {fines : List Int} {days : Int} {vs : List V} {i e : Int} (h : cErr fines days vs = e) (he : ¬ e = 0) : fineR fines days vs i = (0, e) := by unfold fineR; rw [h, if_pos he]
theorem totalR_err {fines : List Int} {days : Int} {vs : List V} {i e : Int} (h : cErr fines days vs = e) (he : ¬ e = 0) : totalR fines days vs i = (0, e) := by unfold totalR; rw [h, if_pos he]

theorem rNumber_w (a0 a1 a2 a3 a4 : Value) (fA : Option Addr) (fn fc : Nat) (fines : List Int) (days : Int) (A : Option Addr) (n c : Nat) (vs : List V) (i : Int) (w : World) (hf : IntsAt w fA fn fines) (hx : VsAt w A n vs) :
    Calls Tryz.prog 67 #[.agg #[a0, a1, a2, a3, a4, .slice fA fn fc, .int .i64 days], .slice A n c, .int .i64 i] w fun e w' => e = .returned (.tuple #[.int .i64 (numR fines days vs i).1, .int .i64 (numR fines days vs i).2]) ∧ Bel w w' := by
  have hl := hx.1
  refine H_enter Tryz.func67 rfl Tryz.ntmps67 rfl (H_seq (R0 (X_box (v := .agg _) rfl rfl fun b3 => (xv (asI rfl) (xv (asI rfl) (XN (thenJ_normal (H_seq (H_seq ?_)))))))))
  refine R0 (xv (eS Tryz.isAgg28 Tryz.sizeOf28 (q0 rfl)) ?_)
  refine xC (en Tryz.call38 (ha1 (q0 rfl))) (fun _ w hm => rcheck_w a0 a1 a2 a3 a4 fA fn fc fines days w (hf.mem hm)) rfl rfl (xv (asI rfl) (XN (thenJ_normal (H_seq (R0 (xv (mvI rfl) (xv (e_ne (q0 rfl) (q0 rfl)) (XN (thenJ_normal ?_)))))))))
  refine H_cond rfl (fun hz => ?_) (fun hz => ?_)
  · refine H_seq (R0 (xv (mvI rfl) (xv (asI rfl) (xv (asI rfl) (XN (thenJ_normal (H_ret (thenJ_ret ?_))))))))
    exact ret2 (v := .int _ _) (x := .int _ _) rfl rfl rfl rfl fun w' hw => ⟨by simp at hz; rw [numR_err (cErr_p hz) hz] <;> rfl, hw.1⟩
  · have hz' : pErr fines days = 0 := by simpa using hz
    obtain ⟨hp1, hp2, hp3⟩ := pErr_ok2 hz'
    refine H_skip (thenJ_normal (H_seq (H_seq (R0 (xv (mvS rfl) (xC (en Tryz.call101 (ha1 (q0 rfl))) (fun _ w hm => rverd_w A n c vs w (hx.mem hm)) rfl rfl (xv (asI rfl) (XN (thenJ_normal ?_)))))))))
    refine H_seq (R0 (xv (mvI rfl) (xv (e_ne (q0 rfl) (q0 rfl)) (XN (thenJ_normal (H_cond rfl (fun hy => ?_) (fun hy => ?_)))))))
    · refine H_seq (R0 (xv (mvI rfl) (xv (asI rfl) (xv (asI rfl) (XN (thenJ_normal (H_ret (thenJ_ret ?_))))))))
      exact ret2 (v := .int _ _) (x := .int _ _) rfl rfl rfl rfl fun w' hw => ⟨by simp at hy; rw [numR_err (cErr_v hz') hy] <;> rfl, hw.1⟩
    · have hv : vErr vs = 0 := by simpa using hy
      have hc : cErr fines days vs = 0 := by rw [cErr_v hz']; exact hv
      have h256 := (vErr_ok hv).1
      refine H_skip (thenJ_normal (H_seq (H_seq (R0 (xv (mvI rfl) (xv (e_lt (q0 rfl) (q0 rfl)) (xv (mvB rfl) (xf (mvI rfl) rfl rfl (xf (mvS rfl) rfl rfl ?_)))))))))
      refine xf (e_len Tryz.underlying37 (q1 rfl)) rfl rfl (xf (e_ge (q1 rfl) (q1 rfl)) rfl rfl (xv (e_or (q0 rfl) rfl (fun h => by first | rfl | (rw [h]; rfl))) ?_))
      refine XN (thenJ_normal (H_cond rfl (fun hi => ?_) (fun hi => ?_)))
      · refine H_seq (R0 (xv (asI rfl) (xv (asI rfl) (XN (thenJ_normal (H_ret (thenJ_ret ?_)))))))
        exact ret2 (v := .int _ _) (x := .int _ _) rfl rfl rfl rfl fun w' hw => ⟨by unfold numR; rw [if_neg (by simpa using hc), if_pos (by simp at hi; omega)] <;> rfl, hw.1⟩
      · simp at hi
        obtain ⟨k, rfl⟩ := Int.eq_ofNat_of_zero_le hi.1
        have hkn : k < n := by omega
        obtain ⟨b, off, v, rfl, hbl, hvk, hr⟩ := hx.at_ (i := k) (by omega)
        have hvt := timely_of hv v (List.mem_of_getElem? hvk)
        have hres : ∀ m, m = num days vs v → numR fines days vs (k : Int) = (m, 0) := fun m hm => by unfold numR; rw [if_neg (by simpa using hc), if_neg (by omega), List.getD_eq_getElem?_getD, Int.toNat_natCast, hvk, hm]; rfl
        refine H_skip (thenJ_normal (H_seq (H_seq (R0 (xv (mvS rfl) (xv (mvI rfl) (xv (e_idx _ Tryz.underlying37 Tryz.sizeOf83 (q0 rfl) (q0 rfl) (fun _ => ⟨rfl, by omega⟩)) (xv (e_fld Tryz.underlying83 rfl Tryz.sizeOf3 rfl (q0 rfl)) (xv (eL Tryz.isAgg3 (q0 rfl)) ?_)))))))))
        refine xv (e_ne (q0 rfl) (q0 rfl)) (XN (thenJ_normal (H_cond rfl (fun hk => ?_) (fun hk => ?_))))
        · refine H_seq (R0 (xv (asI rfl) (xv (asI rfl) (XN (thenJ_normal (H_ret (thenJ_ret ?_)))))))
          exact ret2 (v := .int _ _) (x := .int _ _) rfl rfl rfl rfl fun w' hw => ⟨by rw [hres 0 (by simp at hk; unfold num; rw [if_neg hk])] <;> rfl, hw.1⟩
        · have hk2 : v.kind = 2 := by simpa using hk
          refine H_skip (thenJ_normal (H_seq (R0 (xv (asI rfl) (XN (thenJ_normal (H_seq (H_seq (R0 ?_)))))))))
          refine xv (asI rfl) (XN (thenJ_normal (H_block (H_loop [10, 11, 36, 37, 38, 39, 40, 41, 42, 43, 44, 45, 46, 47, 48, 49, 50, 51, 52, 53, 54, 55, 56, 57, 58, 59, 60, 61, 62, 63, 64, 65, 66, 67, 68, 69, 70, 71, 72, 73, 74, 75, 76, 77, 78, 79, 80, 81, 82, 83, 84, 85, 86, 87, 88, 89, 90, 91] (fun j : Nat => [(10, .int .i64 (1 + (cnt days (vs.take j) v : Int))), (11, .int .i64 j)]) (fun _ => _) (fun j => j ≤ n) (fun j => n - j) 0 ⟨rfl, rfl, trivial⟩ (fun _ h => h) rfl (Nat.zero_le _) ?_))))
          rintro j g hj
          have hcl := cnt_le (days := days) (v := v) (l := vs) (k := j)
          refine H_seq (H_seq (R0 (xv (mvI rfl) (xv (mvS rfl) (xv (e_len Tryz.underlying37 (q0 rfl)) (xv (e_lt (q0 rfl) (q0 rfl)) (XN (thenJ_normal (H_cond rfl (fun hlt => ?_) (fun hlt => ?_))))))))))
          · simp at hlt
            obtain ⟨x, hxj, hrx⟩ := hx.row hlt
            have hxt := timely_of hv x (List.mem_of_getElem? hxj)
            refine H_skip (thenJ_normal (H_seq (H_block (H_seq (R1 rfl (by decide +kernel) (xv (mvS rfl) (xv (mvI rfl) (xv (e_idx _ Tryz.underlying37 Tryz.sizeOf83 (q0 rfl) (q0 rfl) (fun _ => ⟨rfl, by omega⟩)) (xv (e_fld Tryz.underlying83 rfl Tryz.sizeOf3 rfl (q0 rfl)) ?_)))))))))
            refine xv (eL Tryz.isAgg3 (q0 rfl)) ?_
            refine xv (e_eq (q0 rfl) (q0 rfl)) (xv (mvB rfl) (xt (mvS rfl) rfl rfl (xt (mvI rfl) rfl rfl (xt (e_idx _ Tryz.underlying37 Tryz.sizeOf83 (q1 rfl) (q1 rfl) (fun _ => ⟨rfl, by omega⟩)) rfl rfl (xt (e_fld Tryz.underlying83 rfl Tryz.sizeOf3 rfl (q1 rfl)) rfl rfl (xt (eL Tryz.isAgg3 (q1 rfl)) rfl rfl ?_))))))
            refine xt (mvS rfl) rfl rfl (xt (mvI rfl) rfl rfl (xt (e_idx _ Tryz.underlying37 Tryz.sizeOf83 (q1 rfl) (q1 rfl) (fun _ => ⟨rfl, by omega⟩)) rfl rfl (xt (e_fld Tryz.underlying83 rfl Tryz.sizeOf3 rfl (q1 rfl)) rfl rfl (xt (eL Tryz.isAgg3 (q1 rfl)) rfl rfl ?_))))
            refine xt (e_eq (q1 rfl) (q1 rfl)) rfl rfl (xv (e_and (q0 rfl) rfl (fun h => by first | rfl | (rw [h]; rfl))) ?_)
            refine xv (mvB rfl) (xt (mvS rfl) rfl rfl (xt (mvI rfl) rfl rfl (xt (e_idx _ Tryz.underlying37 Tryz.sizeOf83 (q1 rfl) (q1 rfl) (fun _ => ⟨rfl, by omega⟩)) rfl rfl (xt (eS Tryz.isAgg83 Tryz.sizeOf83 (q1 rfl)) rfl rfl ?_))))
            refine xt (mvS rfl) rfl rfl (xt (mvI rfl) rfl rfl (xt (e_idx _ Tryz.underlying37 Tryz.sizeOf83 (q1 rfl) (q1 rfl) (fun _ => ⟨rfl, by omega⟩)) rfl rfl (xt (eS Tryz.isAgg83 Tryz.sizeOf83 (q1 rfl)) rfl rfl ?_)))
            refine xCT (en Tryz.call113 (ha2 (q1 (v := .agg _) rfl) (q1 (v := .agg _) rfl))) (fun _ w _ => rbefore_w x v w) rfl rfl rfl rfl (xv (e_and (q0 rfl) rfl (fun h => by first | rfl | (rw [h]; rfl))) ?_)
            refine xv (mvB rfl) (xt (mvS rfl) rfl rfl (xt (mvI rfl) rfl rfl (xt (e_idx _ Tryz.underlying37 Tryz.sizeOf83 (q1 rfl) (q1 rfl) (fun _ => ⟨rfl, by omega⟩)) rfl rfl (xt (e_fld Tryz.underlying83 rfl Tryz.sizeOf3 rfl (q1 rfl)) rfl rfl (xt (eL Tryz.isAgg3 (q1 rfl)) rfl rfl ?_)))))
            refine xt (e_quo (q1 rfl) (q0 rfl) (fun _ => by omega)) rfl rfl (xt (mvS rfl) rfl rfl (xt (mvI rfl) rfl rfl (xt (e_idx _ Tryz.underlying37 Tryz.sizeOf83 (q1 rfl) (q1 rfl) (fun _ => ⟨rfl, by omega⟩)) rfl rfl (xt (e_fld Tryz.underlying83 rfl Tryz.sizeOf3 rfl (q1 rfl)) rfl rfl (xt (eL Tryz.isAgg3 (q1 rfl)) rfl rfl ?_)))))
            refine xt (e_quo (q1 rfl) (q0 rfl) (fun _ => by omega)) rfl rfl (xt (e_fld Tryz.underlying28 rfl Tryz.sizeOf3 rfl (q0 rfl)) rfl rfl (xt (eL Tryz.isAgg3 (q1 rfl)) rfl rfl ?_))
            refine xt (e_sub (q1 rfl) (q1 rfl) (fun _ => ⟨rfl, by omega, by omega⟩)) rfl rfl (xt (e_ge (q1 rfl) (q1 rfl)) rfl rfl (xv (e_and (q0 rfl) rfl (fun h => by first | rfl | (rw [h]; rfl))) ?_))
            refine XN (thenJ_normal (H_cond rfl (fun ha => ?_) (fun ha => ?_)))
            · refine R0 (xv (mvI rfl) (xv (e_add (q0 rfl) (q0 rfl) (fun _ => ⟨rfl, by omega, by omega⟩)) (xv (asI rfl) (XN (blockJ_normal (thenJ_normal (R0 (xv (mvI rfl) (xv (e_add (q0 rfl) (q0 rfl) (fun _ => ⟨rfl, by omega, by omega⟩)) ?_)))))))))
              refine xv (asI rfl) (XN ?_)
              exact loopJ_normal (j + 1) agr ⟨by show _ = Value.int _ (1 + (cnt days (vs.take (j + 1)) v : Int)); rw [cnt_snoc_yes hxj ha]; rfl, rfl, trivial⟩ (fun _ h => h) rfl (by omega) (by show n - (j + 1) < n - j; omega)
            · refine H_skip (blockJ_normal (thenJ_normal (R0 (xv (mvI rfl) (xv (e_add (q0 rfl) (q0 rfl) (fun _ => ⟨rfl, by omega, by omega⟩)) (xv (asI rfl) (XN ?_)))))))
              exact loopJ_normal (j + 1) agr ⟨by show _ = Value.int _ (1 + (cnt days (vs.take (j + 1)) v : Int)); rw [cnt_snoc_no hxj ha]; rfl, rfl, trivial⟩ (fun _ h => h) rfl (by omega) (by show n - (j + 1) < n - j; omega)
          · obtain rfl : j = n := by simp at hlt; omega
            refine H_exit (thenJ_exit (loopJ_exit (blockJ_hit (thenJ_normal (H_seq (R0 (xv (mvI rfl) (xv (asI rfl) (xv (asI rfl) ?_)))))))))
            refine XN (thenJ_normal (H_ret ?_))
            exact ret2 (v := .int _ _) (x := .int _ _) rfl rfl rfl rfl fun w' hw => ⟨by rw [hres (1 + (cnt days (vs.take j) v : Int)) (by rw [List.take_of_length_le (by omega)]; unfold num; rw [if_pos hk2])], hw.1⟩

theorem rFine_w (a0 a1 a2 a3 a4 : Value) (fA : Option Addr) (fn fc : Nat) (fines : List Int) (days : Int) (A : Option Addr) (n c : Nat) (vs : List V) (i : Int) (w : World) (hf : IntsAt w fA fn fines) (hx : VsAt w A n vs) :
    Calls Tryz.prog 68 #[.agg #[a0, a1, a2, a3, a4, .slice fA fn fc, .int .i64 days], .slice A n c, .int .i64 i] w fun e w' => e = .returned (.tuple #[.int .i64 (fineR fines days vs i).1, .int .i64 (fineR fines days vs i).2]) ∧ Bel w w' := by
  have hl := hx.1
  have hfl := hf.1
  subst hfl
  refine H_enter Tryz.func68 rfl Tryz.ntmps68 rfl (H_seq (R0 (X_box (v := .agg _) rfl rfl fun b3 => (xv (asI rfl) (xv (asI rfl) (XN (thenJ_normal (H_seq (R0 ?_)))))))))
  refine xv (eS Tryz.isAgg28 Tryz.sizeOf28 (q0 rfl)) ?_
  refine xv (mvS rfl) (xv (mvI rfl) (xC (en Tryz.call67 (ha3 (q0 rfl) (q0 rfl) (q0 rfl))) (fun _ w hm => rNumber_w a0 a1 a2 a3 a4 fA fines.length fc fines days A n c vs i w (hf.mem hm) (hx.mem hm)) rfl rfl (xv (e_mv (q0 rfl)) (xv (e_ext (q0 rfl) rfl) (xv (e_ext (q0 rfl) rfl) (xv (asI rfl) (xv (asI rfl) (XN (thenJ_normal ?_)))))))))
  refine H_seq (H_seq (R0 (xv (mvI rfl) (xv (e_ne (q0 rfl) (q0 rfl)) (XN (thenJ_normal (H_cond rfl (fun hz => ?_) (fun hz => ?_))))))))
  · refine H_seq (R0 (xv (mvI rfl) (xv (asI rfl) (xv (asI rfl) (XN (thenJ_normal (H_ret (thenJ_ret ?_))))))))
    exact ret2 (v := .int _ _) (x := .int _ _) rfl rfl rfl rfl fun w' hw => ⟨by
      simp at hz
      have h1 : fineR fines days vs i = (0, (numR fines days vs i).2) := by
        unfold fineR
        unfold numR at hz ⊢
        by_cases hc : cErr fines days vs ≠ 0
        · rw [if_pos hc, if_pos hc]
        · rw [if_neg hc] at hz ⊢
          rw [if_neg hc]
          by_cases hi : i < 0 ∨ (vs.length : Int) ≤ i
          · rw [if_pos hi, if_pos hi]
          · rw [if_neg hi] at hz; exact absurd rfl hz
      rw [h1] <;> rfl, hw.1⟩
  · have hz' : (numR fines days vs i).2 = 0 := by simpa using hz
    have hok : ¬ cErr fines days vs ≠ 0 ∧ ¬ (i < 0 ∨ (vs.length : Int) ≤ i) := by
      unfold numR at hz'
      by_cases hc : cErr fines days vs ≠ 0
      · rw [if_pos hc] at hz'; exact absurd hz' hc
      · rw [if_neg hc] at hz'
        refine ⟨hc, fun hi => ?_⟩
        rw [if_pos hi] at hz'; cases hz'
    have hN : (numR fines days vs i).1 = num days vs (vs.getD i.toNat V.zero) := by unfold numR; rw [if_neg hok.1, if_neg hok.2]
    have hF : fineR fines days vs i = (fine fines days vs (vs.getD i.toNat V.zero), 0) := by unfold fineR; rw [if_neg hok.1, if_neg hok.2]
    generalize vs.getD i.toNat V.zero = v at hN hF
    have hn := num_nonneg (days := days) (l := vs) (v := v)
    have h256 := (vErr_ok (cErr_ok (by simpa using hok.1)).2).1
    rw [hN]
    refine H_skip (thenJ_normal (H_seq (H_seq (R0 (xv (mvI rfl) (xv (e_eq (q0 rfl) (q0 rfl)) (xv (mvB rfl) (xf (e_fld Tryz.underlying28 rfl Tryz.sizeOf22 rfl (q0 rfl)) rfl rfl (xf (eL Tryz.isAgg22 (q1 rfl)) rfl rfl ?_)))))))))
    refine xf (e_len Tryz.underlying22 (q1 rfl)) rfl rfl (xf (e_eq (q1 rfl) (q0 rfl)) rfl rfl (xv (e_or (q0 rfl) rfl (fun h => by first | rfl | (rw [h]; rfl))) ?_))
    refine XN (thenJ_normal (H_cond rfl (fun hq => ?_) (fun hq => ?_)))
    · refine H_seq (R0 (xv (asI rfl) (xv (asI rfl) (XN (thenJ_normal (H_ret (thenJ_ret ?_)))))))
      exact ret2 (v := .int _ _) (x := .int _ _) rfl rfl rfl rfl fun w' hw => ⟨by
        have h2 : fine fines days vs v = 0 := by unfold fine; rw [if_pos]; rcases Bool.or_eq_true_iff.1 hq with h6 | h6 <;> have h7 := of_decide_eq_true h6 <;> omega
        rw [hF, h2] <;> rfl, hw.1⟩
    · have hq' : ¬ (if (fines.length : Int) < num days vs v then (fines.length : Int) else num days vs v) = 0 := by
        have h6 := of_decide_eq_false (Bool.or_eq_false_iff.1 hq).1
        have h7 := of_decide_eq_false (Bool.or_eq_false_iff.1 hq).2
        split <;> omega
      obtain ⟨b, off, x, rfl, hbl, hxk, hr⟩ := hf.at_ (i := ((if (fines.length : Int) < num days vs v then (fines.length : Int) else num days vs v) - 1).toNat) (by split at hq' <;> split <;> omega)
      refine H_skip (thenJ_normal (H_seq (R0 (xv (e_fld Tryz.underlying28 rfl Tryz.sizeOf22 rfl (q0 rfl)) (xv (eL Tryz.isAgg22 (q0 rfl)) ?_)))))
      refine xv (mvI rfl) (xv (e_fld Tryz.underlying28 rfl Tryz.sizeOf22 rfl (q0 rfl)) (xv (eL Tryz.isAgg22 (q0 rfl)) ?_))
      refine xv (e_len Tryz.underlying22 (q0 rfl)) (xv (e_min (q0 rfl) (q0 rfl)) (xv (e_sub (q0 rfl) (q0 rfl) (fun _ => ⟨rfl, by split <;> omega, by split <;> omega⟩)) (xv (e_idx _ Tryz.underlying22 Tryz.sizeOf3 (q0 rfl) (q0 rfl) (fun _ => ⟨(Int.toNat_of_nonneg (by split at hq' <;> split <;> omega)).symm, by split at hq' <;> split <;> omega⟩)) (xv (eL Tryz.isAgg3 (q0 rfl)) ?_))))
      refine xv (asI rfl) (xv (asI rfl) (XN (thenJ_normal (H_ret ?_))))
      exact ret2 (v := .int _ _) (x := .int _ _) rfl rfl rfl rfl fun w' hw => ⟨by rw [hF, fine_some hq' hxk] <;> rfl, hw.1⟩

theorem sumF_viol {fines : List Int} {days : Int} {all : List V} {rider : Int} : ∀ l : List V, sumF (fine fines days all) (viol rider l) = sumF (fine fines days all) (l.filter fun x => decide (x.rider = rider))
  | [] => rfl
  | v :: l => by
    have ih := sumF_viol (fines := fines) (days := days) (all := all) (rider := rider) l
    simp only [viol, sumF] at ih ⊢
    by_cases h1 : v.rider = rider
    · by_cases h2 : v.kind = 2
      · simp [h1, h2, ih]
      · have h3 : fine fines days all v = 0 := by unfold fine num; rw [if_neg h2]; simp
        simp [h1, h2, ih, h3]
    · simp [h1, ih]

end Go.Proofs.Pen
