/-
  The plain law of Grows: how the number of a violation follows from the one before it.
-/
import Derived.Test.YtnehidbpliknaaaPd
namespace Go.Proofs.Pen
open Go

/-! rides are unique -/
theorem vErrL_uniq : ∀ (l seen : List V), vErrL seen l = 0 → (∀ x ∈ l, hasRide seen x.ride = false) ∧ l.Pairwise (fun a b => a.ride ≠ b.ride)
  | [], _, _ => ⟨by simp, List.Pairwise.nil⟩
  | v :: l, seen, h => by
    simp only [vErrL] at h
    split at h
    · rename_i h1; exact absurd h h1
    · rename_i h1
      obtain ⟨h2, h3⟩ := vErrL_uniq l (seen ++ [v]) h
      have h4 : hasRide seen v.ride = false := by
        unfold vOne at h1
        by_cases hb : vBad v ≠ 0
        · rw [if_pos hb] at h1; exact absurd hb (by simpa using h1)
        · rw [if_neg hb] at h1
          cases hr : hasRide seen v.ride with
          | false => rfl
          | true => rw [hr] at h1; simp at h1
      refine ⟨fun x hx => ?_, List.pairwise_cons.2 ⟨fun x hx => ?_, h3⟩⟩
      · rcases List.mem_cons.1 hx with rfl | hx
        · exact h4
        · have := h2 x hx
          simp [hasRide] at this ⊢
          exact this.1
      · have := h2 x hx
        simp [hasRide] at this
        exact this.2
theorem uniq_of {l : List V} (h : vErr l = 0) : l.Pairwise (fun a b => a.ride ≠ b.ride) := by
  unfold vErr at h
  split at h
  · cases h
  · exact (vErrL_uniq l [] h).2
theorem uniq_eq : ∀ {l : List V}, l.Pairwise (fun a b => a.ride ≠ b.ride) → ∀ {x y : V}, x ∈ l → y ∈ l → x.ride = y.ride → x = y
  | [], _, _, _, hx, _, _ => by simp at hx
  | v :: l, h, x, y, hx, hy, he => by
    obtain ⟨h1, h2⟩ := List.pairwise_cons.1 h
    rcases List.mem_cons.1 hx with e1 | hx' <;> rcases List.mem_cons.1 hy with e2 | hy'
    · rw [e1, e2]
    · subst e1; exact absurd he (h1 y hy')
    · subst e2; exact absurd he.symm (h1 x hx')
    · exact uniq_eq h2 hx' hy' he
theorem uniq_one : ∀ {l : List V}, l.Pairwise (fun a b => a.ride ≠ b.ride) → ∀ {u : V}, u ∈ l → (l.filter fun x => decide (x.ride = u.ride)).length = 1
  | [], _, _, h => by simp at h
  | v :: l, h, u, hu => by
    obtain ⟨h1, h2⟩ := List.pairwise_cons.1 h
    rcases List.mem_cons.1 hu with rfl | hu
    · have : l.filter (fun x => decide (x.ride = u.ride)) = [] := List.filter_eq_nil_iff.2 fun x hx => by have := h1 x hx; simp; omega
      simp [this]
    · have h3 := uniq_one h2 hu
      have h4 := h1 u hu
      simp [h4, h3]
theorem len_or {p q : V → Bool} : ∀ l : List V, (∀ x ∈ l, p x = true → q x = true → False) → (l.filter fun x => p x || q x).length = (l.filter p).length + (l.filter q).length
  | [], _ => rfl
  | v :: l, hd => by
    have ih := len_or l fun x hx => hd x (by simp [hx])
    have h0 := hd v (by simp)
    simp only [List.filter_cons]
    cases hp : p v <;> cases hq : q v <;> simp [hp, hq, ih] at h0 ⊢ <;> omega
theorem len_lt {p q : V → Bool} : ∀ {l : List V}, (∀ x ∈ l, p x = true → q x = true) → ∀ {v : V}, v ∈ l → q v = true → p v = false → (l.filter p).length + 1 ≤ (l.filter q).length
  | [], _, _, h, _, _ => by simp at h
  | y :: l, hpq, v, hv, h1, h2 => by
    have hle : (l.filter p).length ≤ (l.filter q).length := by
      have : l.filter p = (l.filter q).filter p := by
        rw [List.filter_filter]
        refine List.filter_congr fun x hx => ?_
        have := hpq x (by simp [hx])
        cases hp : p x <;> simp [hp] at this ⊢
        exact this
      rw [this]; exact List.length_filter_le _ _
    have hy := hpq y (by simp)
    rcases List.mem_cons.1 hv with rfl | hv
    · simp only [List.filter_cons, h1, h2]; simp; omega
    · have ih := len_lt (fun x hx => hpq x (by simp [hx])) hv h1 h2
      simp only [List.filter_cons]
      cases hp : p y <;> cases hq : q y <;> simp [hp, hq] at hy ⊢ <;> omega

theorem mem_snoc {l : List V} {x y : V} (h : y ∈ l ++ [x]) : y ∈ l ∨ y = x := by simpa using h

/-! the loop of the law -/
def same (v x : V) : Bool := decide (x.kind = 2) && decide (x.rider = v.rider)
def cand (v x : V) : Bool := same v x && before x v
structure G where
  last : Int
  least : Int
  all : Int
  inside : Bool
def gStep (days : Int) (l : List V) (v : V) (s : G) (k : Nat) (x : V) : G :=
  if same v x = false then s
  else if before x v = false then ⟨s.last, s.least, s.all + 1, s.inside⟩
  else ⟨if (decide (s.last < 0) || before (l.getD s.last.toNat V.zero) x) = true then k else s.last, if x.moment / 86400 < s.least then x.moment / 86400 else s.least, s.all + 1, s.inside || inDays days x v⟩
def gRun (days : Int) (l : List V) (v : V) : Nat → G
  | 0 => ⟨-1, v.moment / 86400, 0, false⟩
  | k + 1 => gStep days l v (gRun days l v k) k (l.getD k V.zero)
structure GInv (days : Int) (l : List V) (v : V) (k : Nat) (s : G) : Prop where
  all : s.all = ((l.take k).filter (same v)).length
  inside : s.inside = (l.take k).any (fun x => cand v x && inDays days x v)
  least : ∀ x ∈ l.take k, cand v x = true → s.least ≤ x.moment / 86400
  least0 : s.least ≤ v.moment / 86400 ∧ (Timely l → 0 ≤ s.least)
  last : (s.last = -1 ∧ ∀ x ∈ l.take k, cand v x = false) ∨ ∃ (j : Nat) (u : V), s.last = j ∧ j < k ∧ l[j]? = some u ∧ cand v u = true ∧ ∀ y ∈ l.take k, cand v y = true → before u y = false
theorem bef_trans {a b c : V} (h1 : before a b = true) (h2 : before b c = true) : before a c = true := by
  simp [before] at *; omega
theorem bef_irr {a : V} : before a a = false := by simp [before]
theorem bef_asym {a b : V} (h1 : before a b = true) : before b a = false := by
  simp [before] at *; omega
theorem bef_tot {a b : V} (h1 : before a b = false) (h2 : a.ride ≠ b.ride) : before b a = true := by
  simp [before] at *; omega
theorem bef_neg_trans {a b c : V} (h1 : before a b = true) (h2 : before a c = false) : before b c = false := by
  simp [before] at *; omega
theorem gInv {days : Int} {l : List V} {v : V} (hv : 0 ≤ v.moment) : ∀ k, k ≤ l.length → GInv days l v k (gRun days l v k)
  | 0, _ => ⟨rfl, rfl, by simp, ⟨Int.le_refl _, fun _ => Int.ediv_nonneg hv (by decide)⟩, .inl ⟨rfl, by simp⟩⟩
  | k + 1, hk => by
    have ih := gInv (days := days) (l := l) hv k (by omega)
    have hx : l[k]? = some (l.getD k V.zero) := by rw [List.getD_eq_getElem?_getD, List.getElem?_eq_getElem (by omega)]; rfl
    simp only [gRun]
    revert hx
    generalize l.getD k V.zero = x
    generalize gRun days l v k = s at ih ⊢
    intro hx
    have hT := take_snoc _ _ _ hx
    have hxm : x ∈ l := List.mem_of_getElem? hx
    unfold gStep
    split
    · rename_i h1
      have hc : cand v x = false := by simp [cand, h1]
      refine ⟨?_, ?_, ?_, ih.least0, ?_⟩
      · rw [hT, List.filter_append]; simp [h1, ih.all]
      · rw [hT]; simp [hc, ih.inside]
      · rw [hT]; intro y hy hcy
        rcases List.mem_append.1 hy with hy | hy
        · exact ih.least y hy hcy
        · simp at hy; subst hy; rw [hc] at hcy; cases hcy
      · rcases ih.last with ⟨h2, h3⟩ | ⟨j, u, h2, h3, h4, h5, h6⟩
        · exact .inl ⟨h2, by rw [hT]; exact fun y hy => (mem_snoc hy).elim (h3 y) (fun e => by rw [e]; exact hc)⟩
        · exact .inr ⟨j, u, h2, by omega, h4, h5, by rw [hT]; exact fun y hy hcy => (mem_snoc hy).elim (fun h => h6 y h hcy) (fun e => by rw [e, hc] at hcy; cases hcy)⟩
    · rename_i h1
      have h1 : same v x = true := by simpa using h1
      split
      · rename_i h2
        have hc : cand v x = false := by simp [cand, h2]
        refine ⟨?_, ?_, ?_, ih.least0, ?_⟩
        · rw [hT, List.filter_append]; simp [h1, ih.all]
        · rw [hT]; simp [hc, ih.inside]
        · rw [hT]; intro y hy hcy
          rcases List.mem_append.1 hy with hy | hy
          · exact ih.least y hy hcy
          · simp at hy; subst hy; rw [hc] at hcy; cases hcy
        · rcases ih.last with ⟨h2, h3⟩ | ⟨j, u, h2, h3, h4, h5, h6⟩
          · exact .inl ⟨h2, by rw [hT]; exact fun y hy => (mem_snoc hy).elim (h3 y) (fun e => by rw [e]; exact hc)⟩
          · exact .inr ⟨j, u, h2, by omega, h4, h5, by rw [hT]; exact fun y hy hcy => (mem_snoc hy).elim (fun h => h6 y h hcy) (fun e => by rw [e, hc] at hcy; cases hcy)⟩
      · rename_i h2
        have h2 : before x v = true := by simpa using h2
        have hc : cand v x = true := by simp [cand, h1, h2]
        refine ⟨?_, ?_, ?_, ?_, ?_⟩
        · rw [hT, List.filter_append]; simp [h1, ih.all]
        · rw [hT]; simp [hc, ih.inside]
        · rw [hT]; intro y hy hcy
          rcases List.mem_append.1 hy with hy | hy
          · have := ih.least y hy hcy
            show (if _ then _ else _) ≤ _
            split <;> omega
          · simp at hy; subst hy
            show (if _ then _ else _) ≤ _
            split <;> omega
        · refine ⟨?_, fun ht => ?_⟩
          · have := ih.least0.1
            show (if _ then _ else _) ≤ _
            split <;> omega
          · have := ih.least0.2 ht
            have h5 := ht x hxm
            have h6 : 0 ≤ x.moment / 86400 := Int.ediv_nonneg h5.1 (by decide)
            show 0 ≤ (if x.moment / 86400 < s.least then x.moment / 86400 else s.least)
            split <;> omega
        · rcases ih.last with ⟨h3, h4⟩ | ⟨j, u, h3, h4, h5, h6, h7⟩
          · refine .inr ⟨k, x, ?_, by omega, hx, hc, ?_⟩
            · show (if _ then _ else _) = _
              rw [if_pos (by simp [h3])]
            · rw [hT]; intro y hy hcy
              rcases List.mem_append.1 hy with hy | hy
              · rw [h4 y hy] at hcy; cases hcy
              · simp at hy; subst hy; exact bef_irr
          · have hu : l.getD s.last.toNat V.zero = u := by rw [h3, Int.toNat_natCast, List.getD_eq_getElem?_getD, h5]; rfl
            rw [hu]
            have h8 : decide (s.last < 0) = false := decide_eq_false (by omega)
            rw [h8]
            cases hb : before u x with
            | true =>
              refine .inr ⟨k, x, by simp, by omega, hx, hc, ?_⟩
              rw [hT]; intro y hy hcy
              rcases List.mem_append.1 hy with hy | hy
              · exact bef_neg_trans hb (h7 y hy hcy)
              · simp at hy; subst hy; exact bef_irr
            | false =>
              refine .inr ⟨j, u, by simpa using h3, by omega, h5, h6, ?_⟩
              rw [hT]; intro y hy hcy
              rcases List.mem_append.1 hy with hy | hy
              · exact h7 y hy hcy
              · simp at hy; subst hy; exact hb

theorem hit_cand (days : Int) (v x : V) : hit days v x = (cand v x && inDays days x v) := by
  unfold hit cand same
  rw [Bool.and_comm (x.rider == v.rider), ← Bool.and_assoc]
  congr 1
theorem grows_a {days : Int} {l : List V} {v : V} {k : Nat} {s : G} (hv : v ∈ l) (hk : v.kind = 2) (hi : GInv days l v k s) (hkl : l.length ≤ k) :
    (((decide (num days l v < 1) || decide (s.all < num days l v)) || (decide (num days l v = 1) == s.inside))) = false := by
  have hn : num days l v = 1 + (cnt days l v : Int) := by unfold num; rw [if_pos hk]
  have h1 := hi.all
  have h2 := hi.inside
  rw [List.take_of_length_le hkl] at h1 h2
  have h3 : cnt days l v + 1 ≤ (l.filter (same v)).length := by
    refine len_lt (fun x _ hx => ?_) hv (by simp [same, hk]) (by simp [hit, bef_irr])
    rw [hit_cand] at hx
    simp [cand] at hx
    exact hx.1.1
  have h4 : s.inside = decide (0 < cnt days l v) := by
    rw [h2]
    have : (fun x => cand v x && inDays days x v) = hit days v := by funext x; rw [hit_cand]
    rw [this]
    unfold cnt
    rw [Bool.eq_iff_iff, decide_eq_true_iff, List.length_filter_pos_iff, List.any_eq_true]
  rw [hn, h1, h4]
  by_cases hz : cnt days l v = 0
  · simp [hz]; omega
  · have : 0 < cnt days l v := by omega
    simp [this]; omega
theorem grows_b {days : Int} {l : List V} {v : V} {k : Nat} {s : G} (hk : v.kind = 2) (hi : GInv days l v k s) (hkl : l.length ≤ k) (hu : l.Pairwise (fun a b => a.ride ≠ b.ride)) (h1 : ¬ s.last < 0) (h2 : ¬ days < v.moment / 86400 - s.least) :
    ∃ (j : Nat) (u : V), s.last = j ∧ l[j]? = some u ∧ num days l v = num days l u + 1 := by
  rcases hi.last with ⟨h3, _⟩ | ⟨j, u, h3, _, h5, h6, h7⟩
  · omega
  · refine ⟨j, u, h3, h5, ?_⟩
    rw [List.take_of_length_le hkl] at h7
    have hum : u ∈ l := List.mem_of_getElem? h5
    have h8 := h6
    simp only [cand, same, Bool.and_eq_true, decide_eq_true_eq] at h8
    obtain ⟨⟨h9, h10⟩, h11⟩ := h8
    have hin : ∀ x ∈ l, cand v x = true → inDays days x v = true := fun x hx hc => by
      have := hi.least x (by rw [List.take_of_length_le hkl]; exact hx) hc
      simp [inDays]; omega
    have hud : u.moment / 86400 ≤ v.moment / 86400 := by
      have : u.moment ≤ v.moment := by simp [before] at h11; omega
      omega
    have heq : l.filter (hit days v) = l.filter fun x => hit days u x || decide (x.ride = u.ride) := by
      refine List.filter_congr fun x hx => ?_
      rw [Bool.eq_iff_iff]
      constructor
      · intro h
        rw [hit_cand, Bool.and_eq_true] at h
        by_cases hr : x.ride = u.ride
        · simp [hr]
        · have hb := bef_tot (h7 x hx h.1) (fun e => hr e.symm)
          have hi2 : inDays days x u = true := by
            have := hin x hx h.1
            simp [inDays] at this ⊢; omega
          have hc := h.1
          simp only [cand, same, Bool.and_eq_true, decide_eq_true_eq] at hc
          simp [hit, hb, hi2, hc.1.1, hc.1.2, h10]
      · intro h
        rw [hit_cand]
        simp only [Bool.or_eq_true, decide_eq_true_eq] at h
        have hc : cand v x = true := by
          rcases h with h | h
          · simp only [hit, Bool.and_eq_true, beq_iff_eq] at h
            have := bef_trans h.2.1 h11
            simp [cand, same, h.1.1, h.1.2, this, h10]
          · rw [uniq_eq hu hx hum h]; exact h6
        rw [hc, hin x hx hc]; rfl
    have hd : ∀ x ∈ l, hit days u x = true → decide (x.ride = u.ride) = true → False := fun x hx h3 h4 => by
      have := uniq_eq hu hx hum (of_decide_eq_true h4)
      subst this
      simp [hit, bef_irr] at h3
    have hc : cnt days l v = cnt days l u + 1 := by
      unfold cnt
      rw [heq, len_or l hd, uniq_one hu hum]
    unfold num
    rw [if_pos hk, if_pos h9, hc]
    omega

end Go.Proofs.Pen
