import Derived.Test.YtbocfacfgddbcaaGreatFarD
import Derived.Test.YtbocfacfgddbcaaGreatFarEb
import Derived.Test.YtbocfacfgddbcaaGreatFarA
import Derived.Test.YtbocfacfgddbcaaGreatFarE
import Derived.Test.YtbocfacfgddbcaaGreatFarF
import Derived.Test.YtbocfacfgddbcaaGreatFarB
set_option linter.unusedVariables false
set_option linter.unusedSimpArgs false
/-
  Plain functions: the windows of the reference; its sums for a ride.
-/
namespace Go.Proofs.Far
open Go.Proofs.Cus Go.Proofs.Rid

/-- a window put into a sorted list, from behind -/
theorem ins_sorted {l : List Wn} {x : Wn} {k : Nat} (hs : l.Pairwise fun a b => a.lo ≤ b.lo) (hb : ∀ y ∈ l.drop k, x.lo < y.lo) (ha : ∀ z, k ≠ 0 → l[k - 1]? = some z → z.lo ≤ x.lo) (hk : k ≤ l.length) : (l.take k ++ x :: l.drop k).Pairwise fun a b => a.lo ≤ b.lo := by
  have hall : ∀ y ∈ l.take k, y.lo ≤ x.lo := fun y hy => by
    obtain ⟨i, hi, hiy⟩ := List.getElem_of_mem hy
    rw [List.length_take] at hi
    rw [List.getElem_take] at hiy
    have hk0 : k ≠ 0 := by omega
    have hz := ha l[k - 1] hk0 (List.getElem?_eq_getElem (by omega))
    by_cases hik : i = k - 1
    · subst hik
      rw [← hiy]
      exact hz
    · have := List.pairwise_iff_getElem.1 hs i (k - 1) (by omega) (by omega) (by omega)
      rw [← hiy]
      omega
  have h2 : (l.take k ++ l.drop k).Pairwise fun a b => a.lo ≤ b.lo := by rw [List.take_append_drop]; exact hs
  obtain ⟨p1, p2, p3⟩ := List.pairwise_append.1 h2
  refine List.pairwise_append.2 ⟨p1, List.pairwise_cons.2 ⟨fun y hy => Int.le_of_lt (hb y hy), p2⟩, fun a h b hb2 => ?_⟩
  rcases List.mem_cons.1 hb2 with rfl | hb2
  · exact hall a h
  · exact p3 a h b hb2
/-- one step of it -/
theorem swap_take {α : Type} {l : List α} {x z : α} {k : Nat} (hk : k ≠ 0) (hz : l[k - 1]? = some z) : ((l.take k ++ x :: l.drop k).set (k - 1) x).set k z = l.take (k - 1) ++ x :: l.drop (k - 1) := by
  obtain ⟨j, rfl⟩ : ∃ j, k = j + 1 := ⟨k - 1, by omega⟩
  simp only [Nat.add_sub_cancel] at hz ⊢
  have hj := (List.getElem?_eq_some_iff.1 hz).1
  rw [List.take_add_one, hz, drop_of hz]
  have hl : (l.take j).length = j := by rw [List.length_take]; omega
  simp only [Option.toList_some, List.append_assoc, List.singleton_append]
  rw [List.set_append_right _ _ (by omega), hl, Nat.sub_self, List.set_cons_zero, List.set_append_right _ _ (by omega), hl, show j + 1 - j = 1 by omega]
  rfl

/-! what the reference cuts -/
def rstep (w : Wn) (s : List Wn × Int) (h : Wn) : List Wn × Int :=
  if h.hi ≤ s.2 ∨ w.hi ≤ h.lo then s else (if s.2 < h.lo then s.1 ++ [⟨s.2, h.lo⟩] else s.1, h.hi)
theorem rstep_eq {w h : Wn} {s : List Wn × Int} (hp : h.lo < h.hi) : rstep w s h = mstep w s h := by
  unfold rstep mstep
  by_cases h1 : w.hi ≤ h.lo
  · rw [if_pos (.inr h1), if_pos h1]
  · rw [if_neg h1]
    by_cases h2 : h.hi ≤ s.2
    · rw [if_pos (.inl h2), if_neg (by omega), show max s.2 h.hi = s.2 by omega]
    · rw [if_neg (by omega), show max s.2 h.hi = h.hi by omega]
theorem rfold_eq {w : Wn} : ∀ {y : List Wn} (s : List Wn × Int), (∀ h ∈ y, h.lo < h.hi) → y.foldl (rstep w) s = y.foldl (mstep w) s
  | [], _, _ => rfl
  | h :: y, s, hy => by
    rw [List.foldl_cons, List.foldl_cons, rstep_eq (hy h (by simp))]
    exact rfold_eq _ fun x hx => hy x (List.mem_cons_of_mem _ hx)
theorem cut1_comm (a b : Wn) : cut1 a b = cut1 b a := by
  unfold cut1
  rw [show max a.lo b.lo = max b.lo a.lo by omega, show min a.hi b.hi = min b.hi a.hi by omega]
theorem flat_nil {α β : Type} : ∀ (l : List α), l.flatMap (fun _ => ([] : List β)) = []
  | [] => rfl
  | a :: l => by rw [List.flatMap_cons, flat_nil l]; rfl
theorem common_comm (w : Wn) (y : List Wn) : y.flatMap (fun u => (one w).flatMap (cut1 u)) = commonP w y := by
  unfold commonP one
  split
  · simp only [List.flatMap_nil]
    exact flat_nil y
  · simp only [List.flatMap_cons, List.flatMap_nil, List.append_nil]
    congr 1
    funext u
    exact cut1_comm u w
/-! the windows of the pauses, as the reference has them -/
def sureZR (p : Pz) : List Wn := if p.from_.hi < p.to_.lo then [⟨p.from_.hi, p.to_.lo⟩] else []
def possZR (p : Pz) : Wn := ⟨p.from_.lo, p.to_.hi⟩
theorem pzOrd_le : ∀ {l : List Pz} {n : Nat} {e a : Int}, pzOrd false n e a l = true → ∀ p ∈ l, p.from_.lo ≤ p.to_.lo
  | [], _, _, _, _, p, hp => by cases hp
  | q :: l, n, e, a, h, p, hp => by
    unfold pzOrd at h
    split at h
    · cases h
    · split at h
      · rename_i h2; simp at h2
      · split at h
        · cases h
        · rcases List.mem_cons.1 hp with rfl | hp
          · omega
          · exact pzOrd_le h p hp
theorem checkR_pz {r : Rd} (h : checkR r = 0) (ho : r.open_ = false) : ∀ p ∈ r.pauses, p.from_.lo ≤ p.to_.lo := by
  unfold checkR at h
  have h1 : rangedP r = true := by
    cases hr : rangedP r with
    | true => rfl
    | false => rw [hr] at h; simp at h
  rw [h1] at h
  have h2 : joinedP r = true := by
    cases hr : joinedP r with
    | true => rfl
    | false => rw [hr] at h; simp at h
  rw [h2] at h
  have h3 : orderedP r = true := by
    cases hr : orderedP r with
    | true => rfl
    | false => rw [hr] at h; simp at h
  unfold orderedP at h3
  rw [Bool.and_eq_true, ho] at h3
  exact pzOrd_le h3.2
theorem poss_eq {r : Rd} (h : checkR r = 0) (ho : r.open_ = false) : r.pauses.map possZR = r.pauses.map possZ := by
  apply List.map_congr_left
  intro p hp
  have h1 := checkR_pz h ho p hp
  have h2 := pz_ok h hp
  unfold possZR possZ
  rw [show max p.from_.lo p.to_.hi = p.to_.hi by omega]
theorem sure_has (l : List Pz) (t : Int) : has (l.flatMap sureZR) t ↔ has (l.map sureZ) t := by
  induction l with
  | nil => simp
  | cons p l ih =>
    rw [List.flatMap_cons, List.map_cons, has_append, has_cons, ih]
    have : has (sureZR p) t ↔ (sureZ p).lo ≤ t ∧ t < (sureZ p).hi := by
      unfold sureZR sureZ
      simp only
      split
      · rw [has_cons]
        have hn : ¬ has [] t := not_has_nil
        simp only
        constructor
        · rintro (h | h)
          · omega
          · exact absurd h hn
        · intro h; left; omega
      · constructor
        · intro h; exact absurd h not_has_nil
        · intro h; omega
    rw [this]
theorem sureR_ok {r : Rd} (h : checkR r = 0) : WOk (r.pauses.flatMap sureZR) := fun x hx => by
  obtain ⟨p, hp, hx⟩ := List.mem_flatMap.1 hx
  have := pz_ok h hp
  unfold sureZR at hx
  split at hx
  · simp at hx; subst hx; simp only; omega
  · cases hx
theorem sure_union {r : Rd} (h : checkR r = 0) : unionP (r.pauses.flatMap sureZR) = unionP (r.pauses.map sureZ) := union_congr (sureR_ok h).le (sureZ_ok h).le (sure_has r.pauses)
theorem flat_len_le (l : List Pz) : (l.flatMap sureZR).length ≤ l.length := by
  induction l with
  | nil => simp
  | cons p l ih =>
    rw [List.flatMap_cons, List.length_append, List.length_cons]
    have : (sureZR p).length ≤ 1 := by unfold sureZR; split <;> simp
    omega

end Go.Proofs.Far

/-
  The walks: the reference's union of valid windows.
-/
namespace Go.Proofs.Far
open Go Go.RowKit Go.Proofs.E Go.Proofs.Cus Go.Proofs.Rid

theorem rwvalid_w (x : Wn) (w : World) : Calls Tryz.prog 216 #[.agg x.cells.toArray] w fun e w' => e = .returned (.bool (wnOk x)) ∧ Bel w w' := by
  refine H_enter Tryz.func216 rfl Tryz.ntmps216 rfl (H_seq (R0 (X_box (v := .agg _) rfl rfl fun b1 => (xv (asB rfl) (XN (thenJ_normal (H_seq (R0 (xv (e_fld Tryz.underlying79 rfl Tryz.sizeOf3 rfl (q0 rfl)) ?_)))))))))
  refine xv (eL Tryz.isAgg3 (q0 rfl)) ?_
  refine xv (e_ge (q0 rfl) (q0 rfl)) (xv (mvB rfl) (xt (e_fld Tryz.underlying79 rfl Tryz.sizeOf3 rfl (q0 rfl)) rfl rfl (xt (eL Tryz.isAgg3 (q1 rfl)) rfl rfl ?_)))
  refine xt (e_fld Tryz.underlying79 rfl Tryz.sizeOf3 rfl (q0 rfl)) rfl rfl (xt (eL Tryz.isAgg3 (q1 rfl)) rfl rfl ?_)
  refine xt (e_le (q1 rfl) (q1 rfl)) rfl rfl (xv (e_and (q0 rfl) rfl (fun h => by first | rfl | (rw [h]; rfl))) ?_)
  refine xv (mvB rfl) (xt (e_fld Tryz.underlying79 rfl Tryz.sizeOf3 rfl (q0 rfl)) rfl rfl (xt (eL Tryz.isAgg3 (q1 rfl)) rfl rfl ?_))
  refine xt (e_le (q1 rfl) (q0 rfl)) rfl rfl (xv (e_and (q0 rfl) rfl (fun h => by first | rfl | (rw [h]; rfl))) ?_)
  refine xv (asB rfl) (XN (thenJ_normal (H_ret ?_)))
  exact ret1 (v := .bool _) rfl rfl rfl fun w' hw => ⟨rfl, hw.1⟩
theorem wnOk_of {x : Wn} (h : 0 ≤ x.lo ∧ x.lo ≤ x.hi ∧ x.hi ≤ 4294944000) : wnOk x = true := by unfold wnOk; simp; omega
theorem rwcheck_w (A : Option Addr) (n c : Nat) (xs : List Wn) (w : World) (hx : WnsAt w A n xs) (hv : WOk xs) : Calls Tryz.prog 204 #[.slice A n c] w fun e w' => e = .returned (.int .i64 0) ∧ Bel w w' := by
  have hl := hx.1
  have hn := hx.2.1
  refine H_enter Tryz.func204 rfl Tryz.ntmps204 rfl (H_seq (R0 (xv (asI rfl) (XN (thenJ_normal (H_seq (H_seq (R0 (xv (asI rfl) ?_)))))))))
  refine XN (thenJ_normal (H_block (H_loop [2, 3, 4, 5, 6, 7, 8, 9, 10, 11, 12, 13, 14, 15] (fun k : Nat => [(3, .int .i64 k)]) (fun _ => []) (fun k => k ≤ n) (fun k => n - k) 0 ⟨rfl, trivial⟩ (fun w hw => hw) rfl (Nat.zero_le _) ?_)))
  rintro k g hk
  refine H_seq (H_seq (R0 (xv (mvI rfl) (xv (mvS rfl) (xv (e_len Tryz.underlying119 (q0 rfl)) (xv (e_lt (q0 rfl) (q0 rfl)) (XN (thenJ_normal (H_cond rfl (fun hlt => ?_) (fun hlt => ?_))))))))))
  · have hlt' : k < n := by simpa using hlt
    obtain ⟨b, off, x, rfl, hbl, hxk, hrx⟩ := hx.at_ hlt'
    refine H_skip (thenJ_normal (H_seq (H_block (H_seq (R0 (xv (mvS rfl) (xv (mvI rfl) (xv (e_idx _ Tryz.underlying119 Tryz.sizeOf79 (q0 rfl) (q0 rfl) (fun _ => ⟨rfl, by omega⟩)) (xv (eS Tryz.isAgg79 Tryz.sizeOf79 (q0 rfl)) ?_)))))))))
    refine xC (en Tryz.call216 (ha1 (q0 rfl))) (fun _ w _ => rwvalid_w x w) rfl rfl ?_
    rw [wnOk_of (hv x (List.mem_of_getElem? hxk))]
    refine xv (e_not (q0 rfl)) (XN (thenJ_normal (H_cond rfl (fun h2 => ?_) (fun h2 => ?_))))
    · exfalso; simp at h2
    · refine H_skip (blockJ_normal (thenJ_normal (R0 (xv (mvI rfl) (xv (e_add (q0 rfl) (q0 rfl) (fun _ => ⟨rfl, by omega, by omega⟩)) (xv (asI rfl) (XN ?_)))))))
      exact loopJ_normal (k + 1) agr ⟨rfl, trivial⟩ (fun w hw => hw) rfl (by show k + 1 ≤ n; omega) (by show n - (k + 1) < n - k; omega)
  · refine H_exit (thenJ_exit (loopJ_exit (blockJ_hit (thenJ_normal (H_seq (R0 (xv (asI rfl) (XN (thenJ_normal ?_)))))))))
    refine H_ret ?_
    exact ret1 (v := .int _ _) rfl rfl rfl fun w' hw => ⟨rfl, hw.1⟩
/-- one window put in its place -/
def insK (s : List Wn) (x : Wn) (j : Nat) : List Wn := s.take j ++ x :: s.drop j
theorem insK_len {s : List Wn} {x : Wn} {j : Nat} : (insK s x j).length = s.length + 1 := by
  unfold insK
  rw [List.length_append, List.length_cons, List.length_take, List.length_drop]
  omega
theorem insK_at {s : List Wn} {x : Wn} {j : Nat} (h : j ≤ s.length) : (insK s x j)[j]? = some x := by
  unfold insK
  have : (s.take j).length = j := by rw [List.length_take]; omega
  rw [List.getElem?_append_right (by omega), this, Nat.sub_self]; rfl
theorem insK_pre {s : List Wn} {x z : Wn} {j : Nat} (h : j ≤ s.length) (h0 : 0 < j) (hz : s[j - 1]? = some z) : (insK s x j)[j - 1]? = some z := by
  unfold insK
  have : (s.take j).length = j := by rw [List.length_take]; omega
  rw [List.getElem?_append_left (by omega), List.getElem?_take, if_pos (by omega)]
  exact hz
theorem insK_end (s : List Wn) (x : Wn) : insK s x s.length = s ++ [x] := by
  unfold insK
  rw [List.take_length, List.drop_length]
theorem insK_swap {s : List Wn} {x z : Wn} {j : Nat} (h0 : 0 < j) (hz : s[j - 1]? = some z) : ((insK s x j).set (j - 1) x).set j z = insK s x (j - 1) := swap_take (by omega) hz
theorem insK_perm {s t : List Wn} {x : Wn} {j : Nat} (h : s.Perm t) : (insK s x j).Perm (t ++ [x]) := by
  unfold insK
  refine List.perm_middle.trans ?_
  rw [List.take_append_drop]
  exact ((List.perm_append_singleton x s).symm).trans (h.append_right [x])
attribute [local irreducible] mergeF insK
set_option maxHeartbeats 2000000 in
set_option maxRecDepth 20000 in
theorem runion_w (A : Option Addr) (n c : Nat) (xs : List Wn) (w : World) (hx : WnsAt w A n xs) (hn : n ≤ 10000) (hv : WOk xs) : Calls Tryz.prog 189 #[.slice A n c] w fun e w' => ∃ z : Option Addr × Nat, e = .returned (.tuple #[.slice z.1 (unionP xs).length z.2, .int .i64 0]) ∧ Mem w [wnRow z.1 z.2 (unionP xs)] w' := by
  have hl := hx.1
  refine H_enter Tryz.func189 rfl Tryz.ntmps189 rfl (H_seq (R0 (xv (asS rfl) (xv (asI rfl) (XN (thenJ_normal (H_seq (H_seq (R0 ?_)))))))))
  refine xv (mvS rfl) (xC (en Tryz.call204 (ha1 (q0 rfl))) (fun _ w hw => rwcheck_w A n c xs w (hx.mem hw) hv) rfl rfl (xv (e_ne (q0 rfl) (q0 rfl)) (XN (thenJ_normal (H_cond rfl (fun h1 => ?_) (fun h1 => ?_))))))
  · exfalso; simp at h1
  · refine H_skip (thenJ_normal (H_seq (H_mem (L' := [wnRow none 0 []]) (fun w hw => hw.nilRow 79 2 Wn.cells rfl) rfl (R0 (xv (asS rfl) (XN (thenJ_normal (H_seq (H_seq ?_)))))))))
    refine R0 (xv (asI rfl) (XN (thenJ_normal (H_block (H_loop [4, 5, 6, 13, 14, 15, 16, 17, 18, 19, 20, 21, 22, 23, 24, 25, 26, 27, 28, 29, 30, 31, 32, 33, 34, 35, 36, 37, 38, 39, 40, 41, 42, 43, 44, 45, 46, 47, 48, 49, 50, 51, 52, 53, 54, 55, 56, 57, 58, 59, 60, 61, 62] (fun q : Nat × List Wn × (Option Addr × Nat) => [(5, .int .i64 q.1), (4, .slice q.2.2.1 q.2.1.length q.2.2.2)]) (fun q => [wnRow q.2.2.1 q.2.2.2 q.2.1]) (fun q => q.1 ≤ n ∧ q.2.1.Perm (xs.take q.1) ∧ q.2.1.Pairwise fun a b => a.lo ≤ b.lo) (fun q => n - q.1) (0, [], (none, 0)) ⟨rfl, rfl, trivial⟩ (fun w hw => hw) rfl ⟨Nat.zero_le _, List.Perm.refl _, List.Pairwise.nil⟩ ?_)))))
    rintro ⟨k, s, ⟨sA, sc⟩⟩ g ⟨hk, hsp, hso⟩
    simp only at hk hsp hso
    have hsl : s.length = k := by rw [hsp.length_eq, List.length_take]; omega
    refine H_seq (H_seq (R0 (xv (mvI rfl) (xv (mvS rfl) (xv (e_len Tryz.underlying119 (q0 rfl)) (xv (e_lt (q0 rfl) (q0 rfl)) (XN (thenJ_normal (H_cond rfl (fun hlt => ?_) (fun hlt => ?_))))))))))
    · have hlt' : k < n := by simpa using hlt
      obtain ⟨b, off, x, rfl, hbl, hxk, hrx⟩ := hx.at_ hlt'
      have hlen : (s ++ [x]).length = s.length + 1 := by rw [List.length_append]; rfl
      refine H_skip (thenJ_normal (H_seq (H_block (H_seq (R0 (xv (mvS rfl) (xv (mvS rfl) (xv (mvI rfl) (xv (e_idx _ Tryz.underlying119 Tryz.sizeOf79 (q0 rfl) (q0 rfl) (fun _ => ⟨rfl, by omega⟩)) ?_)))))))))
      refine xv (eS Tryz.isAgg79 Tryz.sizeOf79 (q0 rfl)) ?_
      refine X_push (k := 2) (i := Tryz.t79) 0 (x) Tryz.underlying119 (by kernel_rfl) rfl rfl rfl rfl Tryz.sizeOf79 Tryz.zeroValue79 rfl rfl rfl rfl rfl rfl ⟨by simp only; omega, by decide⟩ rfl rfl fun B0 A1 c1 => (xv (asS rfl) (XN (thenJ_normal (H_seq (R0 (xv (mvS rfl) (xv (e_len Tryz.underlying119 (q0 rfl)) (xv (e_sub (r := (s.length : Int)) (q0 rfl) (q0 rfl) (fun _ => ⟨by rw [hlen]; omega, by omega, by omega⟩)) (xv (asI rfl) ?_)))))))))
      refine XN (thenJ_normal (H_block (H_know (fun w hw => rowT_at (j := 0) hw rfl (by rw [hlen]; omega)) fun ⟨rb, hrb⟩ => ?_)))
      subst hrb
      refine H_loop [6, 29, 30, 31, 32, 33, 34, 35, 36, 37, 38, 39, 40, 41, 42, 43, 44, 45, 46, 47, 48, 49, 50, 51, 52, 53, 54, 55, 56, 57, 58, 59, 60, 61, 62] (fun j : Nat => [(6, .int .i64 j)]) (fun j => [wnRow (some ⟨rb, 0, none⟩) c1 (insK s x j)]) (fun j => j ≤ s.length ∧ ∀ y ∈ s.drop j, x.lo < y.lo) (fun j => j) s.length ⟨rfl, trivial⟩ (fun w hw => by rw [insK_end]; exact hw) rfl ⟨Nat.le_refl _, by rw [List.drop_length]; intro y hy; cases hy⟩ ?_
      rintro j g2 ⟨hj, hb⟩
      have hfin : (j = 0 ∨ ∃ z, s[j - 1]? = some z ∧ z.lo ≤ x.lo) → (insK s x j).Perm (xs.take (k + 1)) ∧ (insK s x j).Pairwise fun a b => a.lo ≤ b.lo := fun h => ⟨by rw [snocT _ _ _ hxk]; exact insK_perm hsp, by
        unfold insK
        refine ins_sorted hso hb (fun z h0 hz => ?_) hj
        rcases h with h | ⟨z', hz', h⟩
        · exact absurd h h0
        · rw [hz] at hz'; cases hz'; exact h⟩
      have hil : (insK s x j).length = s.length + 1 := insK_len
      have hjx := insK_at (x := x) hj
      rcases Nat.eq_zero_or_pos j with h0 | h0
      case inl =>
        subst h0
        refine H_seq (H_seq (R1 rfl (by decide +kernel) (xv (mvI rfl) (xv (e_gt (q0 rfl) (q0 rfl)) (xv (mvB rfl) (xt (e_dead (v := .slice none 0 0) (by decide)) rfl rfl (xt (e_dead (v := .int .i64 0) (by decide)) rfl rfl (xt (e_dead (v := .int .i64 0) (by decide)) rfl rfl (xt (e_dead (v := .pointer none) (by decide)) rfl rfl ?_)))))))))
        refine xt (e_dead (v := .pointer none) (by decide)) rfl rfl (xt (e_dead (v := .int .i64 0) (by decide)) rfl rfl (xt (e_dead (v := .slice none 0 0) (by decide)) rfl rfl (xt (e_dead (v := .int .i64 0) (by decide)) rfl rfl (xt (e_dead (v := .pointer none) (by decide)) rfl rfl (xt (e_dead (v := .pointer none) (by decide)) rfl rfl (xt (e_dead (v := .int .i64 0) (by decide)) rfl rfl (xt (e_dead (v := .bool false) (by decide)) rfl rfl (xv (e_and (q0 rfl) rfl (fun h => by first | rfl | (rw [h]; rfl))) ?_))))))))
        refine XN (thenJ_normal (H_cond rfl (fun h3 => ?_) (fun h3 => ?_)))
        · exfalso; simp at h3
        · obtain ⟨p1, p2⟩ := hfin (.inl rfl)
          refine H_exit (thenJ_exit (loopJ_exit (blockJ_hit (blockJ_normal (thenJ_normal (R0 (xv (mvI rfl) (xv (e_add (q0 rfl) (q0 rfl) (fun _ => ⟨rfl, by omega, by omega⟩)) (xv (asI rfl) ?_)))))))))
          refine XN ?_
          exact loopJ_normal (k + 1, insK s x 0, (some ⟨rb, 0, none⟩, c1)) agr ⟨rfl, by show Value.slice _ (s ++ [x]).length _ = Value.slice _ (insK s x 0).length _; rw [hil, hlen], trivial⟩ (fun w hw => hw) rfl ⟨by show k + 1 ≤ n; omega, p1, p2⟩ (by show n - (k + 1) < n - k; omega)
      case inr =>
        obtain ⟨z, hz⟩ : ∃ z, s[j - 1]? = some z := ⟨_, List.getElem?_eq_getElem (by omega)⟩
        have hzz := insK_pre (x := x) hj h0 hz
        refine H_seq (H_seq (R1 rfl (by decide +kernel) (xv (mvI rfl) (xv (e_gt (q0 rfl) (q0 rfl)) (xv (mvB rfl) (xt (mvS rfl) rfl rfl (xt (mvI rfl) rfl rfl (xt (e_sub (r := ((j - 1 : Nat) : Int)) (q1 rfl) (q0 rfl) (fun _ => ⟨by omega, by omega, by omega⟩)) rfl rfl (xt (e_idx (j - 1) Tryz.underlying119 Tryz.sizeOf79 (q1 rfl) (q1 rfl) (fun _ => ⟨rfl, by first | (rw [hlen]; omega) | omega⟩)) rfl rfl ?_)))))))))
        refine xt (e_fld Tryz.underlying79 rfl Tryz.sizeOf3 rfl (q1 rfl)) rfl rfl (xt (e_ld (v := .int .i64 z.lo) Tryz.isAgg3 (q1 rfl) (by exact rr 0 (r := 0) rfl hzz rfl)) rfl rfl ?_)
        refine xt (mvS rfl) rfl rfl (xt (mvI rfl) rfl rfl (xt (e_idx j Tryz.underlying119 Tryz.sizeOf79 (q1 rfl) (q1 rfl) (fun _ => ⟨rfl, by first | (rw [hlen]; omega) | omega⟩)) rfl rfl ?_))
        refine xt (e_fld Tryz.underlying79 rfl Tryz.sizeOf3 rfl (q1 rfl)) rfl rfl (xt (e_ld (v := .int .i64 x.lo) Tryz.isAgg3 (q1 rfl) (by exact rr 0 (r := 0) rfl hjx rfl)) rfl rfl ?_)
        refine xt (e_gt (q1 rfl) (q1 rfl)) rfl rfl (xv (e_and (q0 rfl) rfl (fun h => by first | rfl | (rw [h]; rfl))) ?_)
        refine XN (thenJ_normal (H_cond rfl (fun h3 => ?_) (fun h3 => ?_)))
        · have h3' : x.lo < z.lo := by simp at h3; omega
          have hx2 : ((insK s x j).set (j - 1) x)[j]? = some x := by rw [List.getElem?_set_ne (by omega)]; exact hjx
          have hz2 : ((insK s x j).set j z)[j - 1]? = some z := by rw [List.getElem?_set_ne (by omega)]; exact hzz
          refine H_skip (thenJ_normal (H_seq (H_block (H_cut [47, 48, 49, 50, 51, 52, 53, 54, 55, 56, 57, 58, 59, 60, 61, 62] (fun _ : Unit => []) (fun _ => [wnRow (some ⟨rb, 0, none⟩) c1 (((insK s x j).set (j - 1) x).set j z)]) (fun _ => True) ?_ ?_))))
          · refine RAd 1 rfl (by decide +kernel) (aV 0 (by decide +kernel) rfl (mvS rfl) rfl (aV 1 (by decide +kernel) rfl (mvI rfl) rfl (aV 2 (by decide +kernel) rfl (e_sub (r := ((j - 1 : Nat) : Int)) (q0 rfl) (q0 rfl) (fun _ => ⟨by omega, by omega, by omega⟩)) rfl (aV 3 (by decide +kernel) rfl (mvS rfl) rfl (aV 4 (by decide +kernel) rfl (mvI rfl) rfl (aV 5 (by decide +kernel) rfl (mvS rfl) rfl (aV 6 (by decide +kernel) rfl (mvI rfl) rfl (aV 7 (by decide +kernel) rfl (e_idx j Tryz.underlying119 Tryz.sizeOf79 (q0 rfl) (q0 rfl) (fun _ => ⟨rfl, by rw [hlen]; omega⟩)) rfl (aV 9 (by decide +kernel) rfl (mvS rfl) rfl ?_)))))))))
            refine aV 10 (by decide +kernel) rfl (mvI rfl) rfl (aV 11 (by decide +kernel) rfl (e_sub (r := ((j - 1 : Nat) : Int)) (q0 rfl) (q0 rfl) (fun _ => ⟨by omega, by omega, by omega⟩)) rfl (aV 12 (by decide +kernel) rfl (e_idx (j - 1) Tryz.underlying119 Tryz.sizeOf79 (q0 rfl) (q0 rfl) (fun _ => ⟨rfl, by rw [hlen]; omega⟩)) rfl (rdy2 (i := 8) (j := 13) (by decide +kernel) (sub_drop 1) ?_ ?_)))
            · refine aL rfl (f_ev (e_lds (vs := x.cells) Tryz.isAgg79 Tryz.sizeOf79 (q0 rfl) (rrs 0 rfl hjx) rfl) rfl rfl (rdy1 (i := 13) (by decide +kernel) (sub_drop 1) (aL rfl (f_ev (e_lds (vs := z.cells) Tryz.isAgg79 Tryz.sizeOf79 (q0 rfl) (rrs 0 rfl hzz) rfl) rfl rfl (aV 14 (by decide +kernel) rfl (e_idx (j - 1) Tryz.underlying119 Tryz.sizeOf79 (q0 rfl) (q0 rfl) (fun _ => ⟨rfl, by rw [hlen]; omega⟩)) rfl (rdy1 (i := 15) (by decide +kernel) (sub_drop 1) (aL rfl (f_storeR0 0 x rfl rfl Tryz.sizeOf79 rfl rfl rfl (by first | exact hzz | exact hz2) rfl rfl ?_))))))))
              refine aV 16 (by decide +kernel) rfl (e_idx j Tryz.underlying119 Tryz.sizeOf79 (q0 rfl) (q0 rfl) (fun _ => ⟨rfl, by rw [hlen]; omega⟩)) rfl (rdy1 (i := 17) (by decide +kernel) (sub_drop 1) (aL rfl (f_storeR0 0 z rfl rfl Tryz.sizeOf79 rfl rfl rfl (by first | exact hx2 | exact hjx) rfl rfl ?_)))
              refine aZ (by decide +kernel) (sub_drop 1) ?_
              exact cutJ_normal () agr trivial (fun w hw => by first | exact hw | (rw [List.set_comm _ _ (by omega)]; exact hw)) rfl trivial
            · refine aL rfl (f_ev (e_lds (vs := z.cells) Tryz.isAgg79 Tryz.sizeOf79 (q0 rfl) (rrs 0 rfl hzz) rfl) rfl rfl (rdy1 (i := 8) (by decide +kernel) (sub_drop 1) (aL rfl (f_ev (e_lds (vs := x.cells) Tryz.isAgg79 Tryz.sizeOf79 (q0 rfl) (rrs 0 rfl hjx) rfl) rfl rfl (aV 14 (by decide +kernel) rfl (e_idx (j - 1) Tryz.underlying119 Tryz.sizeOf79 (q0 rfl) (q0 rfl) (fun _ => ⟨rfl, by rw [hlen]; omega⟩)) rfl (rdy1 (i := 15) (by decide +kernel) (sub_drop 1) (aL rfl (f_storeR0 0 x rfl rfl Tryz.sizeOf79 rfl rfl rfl (by first | exact hzz | exact hz2) rfl rfl ?_))))))))
              refine aV 16 (by decide +kernel) rfl (e_idx j Tryz.underlying119 Tryz.sizeOf79 (q0 rfl) (q0 rfl) (fun _ => ⟨rfl, by rw [hlen]; omega⟩)) rfl (rdy1 (i := 17) (by decide +kernel) (sub_drop 1) (aL rfl (f_storeR0 0 z rfl rfl Tryz.sizeOf79 rfl rfl rfl (by first | exact hx2 | exact hjx) rfl rfl ?_)))
              refine aZ (by decide +kernel) (sub_drop 1) ?_
              exact cutJ_normal () agr trivial (fun w hw => by first | exact hw | (rw [List.set_comm _ _ (by omega)]; exact hw)) rfl trivial
          · intro _ g5 _
            refine blockJ_normal (thenJ_normal (R0 (xv (mvI rfl) (xv (e_sub (q0 rfl) (q0 rfl) (fun _ => ⟨rfl, by omega, by omega⟩)) (xv (asI rfl) (XN ?_))))))
            exact loopJ_normal (j - 1) agr ⟨by show Value.int .i64 ((j : Int) - 1) = Value.int .i64 ((j - 1 : Nat) : Int); congr 1; omega, trivial⟩ (fun w hw => by rw [insK_swap h0 hz] at hw; exact hw) rfl ⟨by omega, by
              rw [drop_of hz, show j - 1 + 1 = j by omega]
              intro y hy
              rcases List.mem_cons.1 hy with rfl | hy
              · exact h3'
              · exact hb y hy⟩ (by show j - 1 < j; omega)
        · have h3' : z.lo ≤ x.lo := by simp at h3; omega
          obtain ⟨p1, p2⟩ := hfin (.inr ⟨z, hz, h3'⟩)
          refine H_exit (thenJ_exit (loopJ_exit (blockJ_hit (blockJ_normal (thenJ_normal (R0 (xv (mvI rfl) (xv (e_add (q0 rfl) (q0 rfl) (fun _ => ⟨rfl, by omega, by omega⟩)) (xv (asI rfl) ?_)))))))))
          refine XN ?_
          exact loopJ_normal (k + 1, insK s x j, (some ⟨rb, 0, none⟩, c1)) agr ⟨rfl, by show Value.slice _ (s ++ [x]).length _ = Value.slice _ (insK s x j).length _; rw [hil, hlen], trivial⟩ (fun w hw => hw) rfl ⟨by show k + 1 ≤ n; omega, p1, p2⟩ (by show n - (k + 1) < n - k; omega)
    · have hend : k = n := by simp at hlt; omega
      subst hend
      rw [← hl, List.take_length] at hsp
      have hyn : normP s = unionP xs := norm_any hv.le hsp hso
      have hfull : fm s k = unionP xs := by rw [← hyn]; unfold fm normP; rw [List.take_of_length_le (by omega)]
      refine H_exit (thenJ_exit (loopJ_exit (blockJ_hit (thenJ_normal (H_seq (H_mem (L' := [wnRow none 0 [], wnRow sA sc s]) (fun w hw => hw.nilRow 79 2 Wn.cells rfl) rfl (R0 (xv (asS rfl) (XN ?_)))))))))
      refine thenJ_normal (H_seq (H_seq (R0 (xv (asI rfl) (XN (thenJ_normal (H_block (H_loop [7, 8, 9, 63, 64, 65, 66, 67, 68, 69, 70, 71, 72, 73, 74, 75, 76, 77, 78, 79, 80, 81, 82, 83, 84, 85, 86, 87, 88, 89, 90, 91, 92, 93, 94, 95, 96, 97, 98, 99, 100, 101, 102, 103, 104, 105, 106, 107, 108, 109, 110, 111, 112, 113, 114, 115, 116, 117, 118, 119, 120, 121] (fun q : Nat × Option Addr × Nat => [(8, .int .i64 q.1), (7, .slice q.2.1 (fm s q.1).length q.2.2)]) (fun q => [wnRow q.2.1 q.2.2 (fm s q.1), wnRow sA sc s]) (fun q => q.1 ≤ k) (fun q => k - q.1) (0, none, 0) ⟨rfl, rfl, trivial⟩ (fun w hw => hw) rfl (Nat.zero_le _) ?_))))))))
      rintro ⟨i, oA, oc⟩ g2 hi
      simp only at hi
      refine H_seq (H_seq (R0 (xv (mvI rfl) (xv (mvS rfl) (xv (e_len Tryz.underlying119 (q0 rfl)) (xv (e_lt (q0 rfl) (q0 rfl)) (XN (thenJ_normal (H_cond rfl (fun hlt2 => ?_) (fun hlt2 => ?_))))))))))
      · have hlt2' : i < k := by simp at hlt2; omega
        obtain ⟨x, hxi⟩ : ∃ x, s[i]? = some x := ⟨_, List.getElem?_eq_getElem (by omega)⟩
        have hfs := fm_succ hxi
        have hfl := fm_len s i
        refine H_know (fun w hw => rowT_at (j := 1) hw rfl (by omega)) fun ⟨sb, hsb⟩ => ?_
        subst hsb
        refine H_skip (thenJ_normal (H_seq (H_block (H_seq (R0 (xv (mvS rfl) (xv (e_len Tryz.underlying119 (q0 rfl)) (xv (asI rfl) (XN ?_)))))))))
        refine thenJ_normal (H_seq (H_seq (R1 rfl (by decide +kernel) (xv (mvS rfl) (xv (mvI rfl) (xv (e_idx i Tryz.underlying119 Tryz.sizeOf79 (q0 rfl) (q0 rfl) (fun _ => ⟨rfl, by first | omega | (simp only; omega)⟩)) ?_))))))
        refine xv (e_fld Tryz.underlying79 rfl Tryz.sizeOf3 rfl (q0 rfl)) (xv (e_ld (v := .int .i64 x.lo) Tryz.isAgg3 (q0 rfl) (by exact rr (r := 0) 1 rfl hxi rfl)) ?_)
        refine xv (mvS rfl) (xv (mvI rfl) (xv (e_idx i Tryz.underlying119 Tryz.sizeOf79 (q0 rfl) (q0 rfl) (fun _ => ⟨rfl, by first | omega | (simp only; omega)⟩)) ?_))
        refine xv (e_fld Tryz.underlying79 rfl Tryz.sizeOf3 rfl (q0 rfl)) (xv (e_ld (v := .int .i64 x.hi) Tryz.isAgg3 (q0 rfl) (by exact rr (r := 1) 1 rfl hxi rfl)) ?_)
        refine xv (e_eq (q0 rfl) (q0 rfl)) (XN (thenJ_normal (H_cond rfl (fun h2 => ?_) (fun h2 => ?_))))
        · have h2' : x.lo = x.hi := by simpa using h2
          refine H_exit (thenJ_exit (blockJ_hit (thenJ_normal (R0 (xv (mvI rfl) (xv (e_add (q0 rfl) (q0 rfl) (fun _ => ⟨rfl, by omega, by omega⟩)) (xv (asI rfl) (XN ?_))))))))
          exact loopJ_normal (i + 1, oA, oc) agr ⟨rfl, by rw [hfs, merge_none h2']; rfl, trivial⟩ (fun w hw => by rw [hfs, merge_none h2']; exact hw) rfl (by show i + 1 ≤ k; omega) (by show k - (i + 1) < k - i; omega)
        · have h2' : ¬ x.lo = x.hi := by simpa using h2
          rcases Nat.eq_zero_or_pos (fm s i).length with h0 | h0
          case inl =>
            have h00 : fm s i = [] := List.eq_nil_of_length_eq_zero h0
            rw [h00]
            rw [h00, merge_first h2'] at hfs
            refine H_skip (thenJ_normal (H_seq (R1 rfl (by decide +kernel) (xv (mvI rfl) (xv (e_gt (q0 rfl) (q0 rfl)) (xv (mvB rfl) (xt (e_dead (v := .slice none 0 0) (by decide)) rfl rfl (xt (e_dead (v := .int .i64 0) (by decide)) rfl rfl (xt (e_dead (v := .pointer none) (by decide)) rfl rfl ?_)))))))))
            refine xt (e_dead (v := .pointer none) (by decide)) rfl rfl (xt (e_dead (v := .int .i64 0) (by decide)) rfl rfl (xt (e_dead (v := .slice none 0 0) (by decide)) rfl rfl (xt (e_dead (v := .int .i64 0) (by decide)) rfl rfl (xt (e_dead (v := .int .i64 0) (by decide)) rfl rfl (xt (e_dead (v := .pointer none) (by decide)) rfl rfl (xt (e_dead (v := .pointer none) (by decide)) rfl rfl (xt (e_dead (v := .int .i64 0) (by decide)) rfl rfl (xt (e_dead (v := .bool false) (by decide)) rfl rfl (xv (e_and (q0 rfl) rfl (fun h => by first | rfl | (rw [h]; rfl))) ?_)))))))))
            refine XN (thenJ_normal (H_cond rfl (fun h3 => ?_) (fun h3 => ?_)))
            · exfalso; simp at h3
            · refine R0 (xv (mvS rfl) (xv (mvS rfl) (xv (mvI rfl) (xv (e_idx i Tryz.underlying119 Tryz.sizeOf79 (q0 rfl) (q0 rfl) (fun _ => ⟨rfl, by first | omega | (simp only; omega)⟩)) ?_))))
              refine xv (e_lds (vs := x.cells) Tryz.isAgg79 Tryz.sizeOf79 (q0 rfl) (by exact rrs 1 rfl hxi) rfl) ?_
              refine X_push (k := 2) (i := Tryz.t79) 0 (x) Tryz.underlying119 (by kernel_rfl) rfl rfl rfl rfl Tryz.sizeOf79 Tryz.zeroValue79 rfl rfl rfl rfl rfl rfl ⟨by simp, by decide⟩ rfl rfl fun B0 A1 c1 => (xv (asS rfl) (XN (blockJ_normal (thenJ_normal (R0 (xv (mvI rfl) (xv (e_add (q0 rfl) (q0 rfl) (fun _ => ⟨rfl, by omega, by omega⟩)) (xv (asI rfl) (XN ?_)))))))))
              exact loopJ_normal (i + 1, A1, c1) agr ⟨rfl, by rw [hfs]; rfl, trivial⟩ (fun w hw => by rw [hfs]; exact hw) rfl (by show i + 1 ≤ k; omega) (by show k - (i + 1) < k - i; omega)
          case inr =>
            obtain ⟨z, hz⟩ : ∃ z, (fm s i)[(fm s i).length - 1]? = some z := ⟨_, List.getElem?_eq_getElem (by omega)⟩
            refine H_know (fun w hw => rowT_at (j := 0) hw rfl h0) fun ⟨q, hq⟩ => ?_
            subst hq
            refine H_skip (thenJ_normal (H_seq (R1 rfl (by decide +kernel) (xv (mvI rfl) (xv (e_gt (q0 rfl) (q0 rfl)) (xv (mvB rfl) (xt (mvS rfl) rfl rfl (xt (mvI rfl) rfl rfl (xt (e_idx i Tryz.underlying119 Tryz.sizeOf79 (q1 rfl) (q1 rfl) (fun _ => ⟨rfl, by first | omega | (simp only; omega)⟩)) rfl rfl ?_)))))))))
            refine xt (e_fld Tryz.underlying79 rfl Tryz.sizeOf3 rfl (q1 rfl)) rfl rfl (xt (e_ld (v := .int .i64 x.lo) Tryz.isAgg3 (q1 rfl) (by exact rr (r := 0) 1 rfl hxi rfl)) rfl rfl ?_)
            refine xt (mvS rfl) rfl rfl (xt (mvI rfl) rfl rfl (xt (e_sub (r := (((fm s i).length - 1 : Nat) : Int)) (q1 rfl) (q0 rfl) (fun _ => ⟨by first | omega | (simp only; omega), by first | omega | (simp only; omega), by first | omega | (simp only; omega)⟩)) rfl rfl ?_))
            refine xt (e_idx ((fm s i).length - 1) Tryz.underlying119 Tryz.sizeOf79 (q1 rfl) (q1 rfl) (fun _ => ⟨rfl, by first | omega | (simp only; omega)⟩)) rfl rfl ?_
            refine xt (e_fld Tryz.underlying79 rfl Tryz.sizeOf3 rfl (q1 rfl)) rfl rfl (xt (e_ld (v := .int .i64 z.hi) Tryz.isAgg3 (q1 rfl) (by exact rr (r := 1) 0 rfl hz rfl)) rfl rfl ?_)
            refine xt (e_le (q1 rfl) (q1 rfl)) rfl rfl (xv (e_and (q0 rfl) rfl (fun h => by first | rfl | (rw [h]; rfl))) ?_)
            refine XN (thenJ_normal (H_cond rfl (fun h3 => ?_) (fun h3 => ?_)))
            · have h3' : x.lo ≤ z.hi := by simp at h3; omega
              refine E.RT rfl rfl (by decide +kernel) (xv (mvS rfl) (xv (mvI rfl) (xv (e_sub (r := (((fm s i).length - 1 : Nat) : Int)) (q0 rfl) (q0 rfl) (fun _ => ⟨by first | omega | (simp only; omega), by first | omega | (simp only; omega), by first | omega | (simp only; omega)⟩)) ?_)))
              refine xv (mvS rfl) (xv (mvI rfl) (xv (e_sub (r := (((fm s i).length - 1 : Nat) : Int)) (q0 rfl) (q0 rfl) (fun _ => ⟨by first | omega | (simp only; omega), by first | omega | (simp only; omega), by first | omega | (simp only; omega)⟩)) ?_))
              refine xv (e_idx ((fm s i).length - 1) Tryz.underlying119 Tryz.sizeOf79 (q0 rfl) (q0 rfl) (fun _ => ⟨rfl, by first | omega | (simp only; omega)⟩)) ?_
              refine xv (e_fld Tryz.underlying79 rfl Tryz.sizeOf3 rfl (q0 rfl)) (xv (e_ld (v := .int .i64 z.hi) Tryz.isAgg3 (q0 rfl) (by exact rr (r := 1) 0 rfl hz rfl)) ?_)
              refine xv (mvS rfl) (xv (mvI rfl) (xv (e_idx i Tryz.underlying119 Tryz.sizeOf79 (q0 rfl) (q0 rfl) (fun _ => ⟨rfl, by first | omega | (simp only; omega)⟩)) ?_))
              refine xv (e_fld Tryz.underlying79 rfl Tryz.sizeOf3 rfl (q0 rfl)) (xv (e_ld (v := .int .i64 x.hi) Tryz.isAgg3 (q0 rfl) (by exact rr (r := 1) 1 rfl hxi rfl)) ?_)
              refine xv (e_maxM (q0 rfl) (q0 rfl)) (xv (e_idx ((fm s i).length - 1) Tryz.underlying119 Tryz.sizeOf79 (q0 rfl) (q0 rfl) (fun _ => ⟨rfl, by first | omega | (simp only; omega)⟩)) ?_)
              refine xv (e_fld Tryz.underlying79 rfl Tryz.sizeOf3 rfl (q0 rfl)) (XN (thenJ_normal (X_eff (f_storeR 0 (i := (fm s i).length - 1) (off := 1) { z with hi := max z.hi x.hi } rfl rfl Tryz.sizeOf3 rfl rfl rfl hz rfl rfl (XN (blockJ_normal (thenJ_normal (R0 (xv (mvI rfl) (xv (e_add (q0 rfl) (q0 rfl) (fun _ => ⟨rfl, by omega, by omega⟩)) ?_))))))))))
              refine xv (asI rfl) (XN ?_)
              exact loopJ_normal (i + 1, some ⟨q, 0, none⟩, oc) agr ⟨rfl, by rw [hfs, merge_last hz h2' h3', List.length_set]; rfl, trivial⟩ (fun w hw => by rw [hfs, merge_last hz h2' h3']; exact hw) rfl (by show i + 1 ≤ k; omega) (by show k - (i + 1) < k - i; omega)
            · have h3' : ¬ x.lo ≤ z.hi := by simp at h3; omega
              refine R0 (xv (mvS rfl) (xv (mvS rfl) (xv (mvI rfl) (xv (e_idx i Tryz.underlying119 Tryz.sizeOf79 (q0 rfl) (q0 rfl) (fun _ => ⟨rfl, by first | omega | (simp only; omega)⟩)) ?_))))
              refine xv (e_lds (vs := x.cells) Tryz.isAgg79 Tryz.sizeOf79 (q0 rfl) (by exact rrs 1 rfl hxi) rfl) ?_
              refine X_push (k := 2) (i := Tryz.t79) 0 (x) Tryz.underlying119 (by kernel_rfl) rfl rfl rfl rfl Tryz.sizeOf79 Tryz.zeroValue79 rfl rfl rfl rfl rfl rfl ⟨by simp only; omega, by decide⟩ rfl rfl fun B0 A1 c1 => (xv (asS rfl) (XN (blockJ_normal (thenJ_normal (R0 (xv (mvI rfl) (xv (e_add (q0 rfl) (q0 rfl) (fun _ => ⟨rfl, by omega, by omega⟩)) (xv (asI rfl) (XN ?_)))))))))
              exact loopJ_normal (i + 1, A1, c1) agr ⟨rfl, by rw [hfs, merge_apart hz h2' h3']; rfl, trivial⟩ (fun w hw => by rw [hfs, merge_apart hz h2' h3']; exact hw) rfl (by show i + 1 ≤ k; omega) (by show k - (i + 1) < k - i; omega)
      · have hend : i = k := by simp at hlt2; omega
        subst hend
        rw [hfull]
        refine H_exit (thenJ_exit (loopJ_exit (blockJ_hit (thenJ_normal (H_seq (R0 (xv (mvS rfl) (xv (asS rfl) (xv (asI rfl) ?_)))))))))
        refine XN (thenJ_normal (H_ret ?_))
        exact ret2 (v := .slice _ _ _) (x := .int _ _) rfl rfl rfl rfl fun w' hw => ⟨(oA, oc), rfl, hw.pick [0] (by decide)⟩

end Go.Proofs.Far

/-
  The walks: what the reference makes of windows; its seconds of a ride.
-/
namespace Go.Proofs.Far
open Go Go.RowKit Go.Proofs.E Go.Proofs.Cus Go.Proofs.Rid

theorem flat2_le {v : List Wn} (h : v.length ≤ 1) : ∀ l : List Wn, (l.flatMap fun x => v.flatMap (cut1 x)).length ≤ l.length
  | [] => by simp
  | x :: l => by
    rw [List.flatMap_cons, List.length_append, List.length_cons]
    have := flat_le x v
    have := flat2_le h l
    omega
theorem one_len (w : Wn) : (one w).length ≤ 1 := by unfold one; split <;> simp
theorem flat_snoc {β : Type} {l : List Wn} {g : Wn → List β} {k : Nat} {x : Wn} (h : l[k]? = some x) : (l.take (k + 1)).flatMap g = (l.take k).flatMap g ++ g x := by
  rw [snocT _ _ _ h, List.flatMap_append]; simp
set_option maxHeartbeats 1000000 in
set_option maxRecDepth 20000 in
theorem rcommon_w (A : Option Addr) (n c : Nat) (ys : List Wn) (B : Option Addr) (d : Nat) (W : Wn) (w : World) (hx : WnsAt w A n ys) (hy : WnsAt w B 1 [W]) (hn : n ≤ 10000) (hv : WOk ys) (hW : WOk [W]) : Calls Tryz.prog 188 #[.slice A n c, .slice B 1 d] w fun e w' => ∃ z : Option Addr × Nat, e = .returned (.tuple #[.slice z.1 (commonP W (unionP ys)).length z.2, .int .i64 0]) ∧ Mem w [wnRow z.1 z.2 (commonP W (unionP ys))] w' := by
  have hl := hx.1
  have hul := union_len ys
  have hvl := one_len W
  refine H_enter Tryz.func188 rfl Tryz.ntmps188 rfl (H_seq (R0 (xv (asS rfl) (xv (asI rfl) (XN (thenJ_normal (H_seq (R0 (xv (mvS rfl) ?_)))))))))
  refine xCX (en Tryz.call189 (ha1 (q0 rfl))) (fun w hw => runion_w A n c ys w (hx.mem hw) hn hv) rfl (fun _ => rfl) fun zu => ?_
  obtain ⟨uA, uc⟩ := zu
  refine xv (e_mv (q0 rfl)) (xv (e_ext (q0 rfl) rfl) (xv (e_ext (q0 rfl) rfl) (xv (asS rfl) (xv (asI rfl) (XN (thenJ_normal (H_seq (R0 (xv (mvS rfl) ?_)))))))))
  refine xCX (en Tryz.call189 (ha1 (q0 rfl))) (fun w hw => runion_w B 1 d [W] w (hy.mem hw) (by decide) hW) rfl (fun _ => rfl) fun zv => ?_
  obtain ⟨vA, vc⟩ := zv
  rw [union_one, ← common_comm]
  generalize unionP ys = u at *
  generalize one W = v at *
  refine xv (e_mv (q0 rfl)) (xv (e_ext (q0 rfl) rfl) (xv (e_ext (q0 rfl) rfl) (xv (asS rfl) (xv (asI rfl) (XN (thenJ_normal (H_seq (H_seq (R0 ?_)))))))))
  refine xv (mvI rfl) (xv (e_ne (q0 rfl) (q0 rfl)) (xv (mvB rfl) (xf (mvI rfl) rfl rfl (xf (e_ne (q1 rfl) (q0 rfl)) rfl rfl (xv (e_or (q0 rfl) rfl (fun h => by first | rfl | (rw [h]; rfl))) ?_)))))
  refine XN (thenJ_normal (H_cond rfl (fun h1 => ?_) (fun h1 => ?_)))
  · exfalso; simp at h1
  · obtain ⟨U, hU⟩ : ∃ U : Nat → List Wn, ∀ k, U k = (u.take k).flatMap fun x => v.flatMap (cut1 x) := ⟨_, fun _ => rfl⟩
    have hU0 : U 0 = [] := by rw [hU]; rfl
    have hUn : u.flatMap (fun x => v.flatMap (cut1 x)) = U u.length := by rw [hU, List.take_length]
    have hUs : ∀ k x, u[k]? = some x → U (k + 1) = U k ++ v.flatMap (cut1 x) := fun k x h => by rw [hU, hU, flat_snoc h]
    have hUl : ∀ k, (U k).length ≤ k := fun k => by
      rw [hU]
      have := flat2_le hvl (u.take k)
      rw [List.length_take] at this
      omega
    rw [hUn]
    refine H_skip (thenJ_normal (H_seq (H_mem (L' := [wnRow none 0 [], wnRow vA vc v, wnRow uA uc u]) (fun w hw => hw.nilRow 79 2 Wn.cells rfl) rfl (R0 (xv (asS rfl) (XN (thenJ_normal (H_seq (H_seq ?_)))))))))
    refine R0 (xv (asI rfl) (XN (thenJ_normal (H_block (H_loop [10, 11, 12, 13, 30, 31, 32, 33, 34, 35, 36, 37, 38, 39, 40, 41, 42, 43, 44, 45, 46, 47, 48, 49, 50, 51, 52, 53, 54, 55, 56, 57, 58, 59, 60, 61, 62, 63, 64, 65, 66, 67, 68, 69, 70, 71, 72, 73] (fun q : Nat × Option Addr × Nat => [(11, .int .i64 q.1), (10, .slice q.2.1 (U q.1).length q.2.2)]) (fun q => [wnRow q.2.1 q.2.2 (U q.1), wnRow vA vc v, wnRow uA uc u]) (fun q => q.1 ≤ u.length) (fun q => u.length - q.1) (0, none, 0) ⟨rfl, by rw [hU0]; rfl, trivial⟩ (fun w hw => by rw [hU0]; exact hw) rfl (Nat.zero_le _) ?_)))))
    rintro ⟨k, oA, oc⟩ g hk
    simp only at hk
    refine H_seq (H_seq (R0 (xv (mvI rfl) (xv (mvS rfl) (xv (e_len Tryz.underlying119 (q0 rfl)) (xv (e_lt (q0 rfl) (q0 rfl)) (XN (thenJ_normal (H_cond rfl (fun hlt => ?_) (fun hlt => ?_))))))))))
    · have hlt' : k < u.length := by simpa using hlt
      obtain ⟨x, hxk⟩ : ∃ x, u[k]? = some x := ⟨_, List.getElem?_eq_getElem hlt'⟩
      have hsx := hUs k x hxk
      have hkl := hUl k
      obtain ⟨T, hT⟩ : ∃ T : Nat → List Wn, ∀ j, T j = U k ++ (v.take j).flatMap (cut1 x) := ⟨_, fun _ => rfl⟩
      have hT0 : U k = T 0 := by rw [hT]; simp
      have hTn : T v.length = U (k + 1) := by rw [hT, List.take_length, hsx]
      have hTs : ∀ j y, v[j]? = some y → T (j + 1) = T j ++ cut1 x y := fun j y h => by rw [hT, hT, flat_snoc h, List.append_assoc]
      have hTl : ∀ j, (T j).length ≤ k + 1 := fun j => by
        rw [hT, List.length_append]
        have := flat_le x (v.take j)
        rw [List.length_take] at this
        omega
      rw [hT0]
      refine H_skip (thenJ_normal (H_seq (H_block (H_seq (R0 (xv (asI rfl) (XN (thenJ_normal (H_block ?_)))))))))
      refine H_loop [10, 12, 13, 36, 37, 38, 39, 40, 41, 42, 43, 44, 45, 46, 47, 48, 49, 50, 51, 52, 53, 54, 55, 56, 57, 58, 59, 60, 61, 62, 63, 64, 65, 66, 67, 68, 69, 70, 71, 72, 73] (fun q : Nat × Option Addr × Nat => [(12, .int .i64 q.1), (10, .slice q.2.1 (T q.1).length q.2.2)]) (fun q => [wnRow q.2.1 q.2.2 (T q.1), wnRow vA vc v, wnRow uA uc u]) (fun q => q.1 ≤ v.length) (fun q => v.length - q.1) (0, oA, oc) ⟨rfl, rfl, trivial⟩ (fun w hw => hw) rfl (Nat.zero_le _) ?_
      rintro ⟨j, pA, pc⟩ g2 hj
      simp only at hj
      have hjl := hTl j
      refine H_seq (H_seq (R0 (xv (mvI rfl) (xv (mvS rfl) (xv (e_len Tryz.underlying119 (q0 rfl)) (xv (e_lt (q0 rfl) (q0 rfl)) (XN (thenJ_normal (H_cond rfl (fun hlt2 => ?_) (fun hlt2 => ?_))))))))))
      · have hlt2' : j < v.length := by simpa using hlt2
        obtain ⟨y, hyj⟩ : ∃ y, v[j]? = some y := ⟨_, List.getElem?_eq_getElem hlt2'⟩
        have hsj := hTs j y hyj
        refine H_know (fun w hw => rowT_at (j := 1) hw rfl (by omega)) fun ⟨vb, hvb⟩ => ?_
        subst hvb
        refine H_know (fun w hw => rowT_at (j := 2) hw rfl (by omega)) fun ⟨ub, hub⟩ => ?_
        subst hub
        refine H_skip (thenJ_normal (H_seq (H_block (H_seq (RA rfl (by decide +kernel) (aV 0 (by decide +kernel) rfl (mvS rfl) rfl (aV 1 (by decide +kernel) rfl (mvI rfl) rfl (aV 2 (by decide +kernel) rfl (e_idx k Tryz.underlying119 Tryz.sizeOf79 (q0 rfl) (q0 rfl) (fun _ => ⟨rfl, hlt'⟩)) rfl (aV 3 (by decide +kernel) rfl (e_fld Tryz.underlying79 rfl Tryz.sizeOf3 rfl (q0 rfl)) rfl ?_)))))))))
        refine aV 4 (by decide +kernel) rfl (e_ld (v := .int .i64 x.lo) Tryz.isAgg3 (q0 rfl) (by exact rr (r := 0) 2 rfl hxk rfl)) rfl ?_
        refine aV 5 (by decide +kernel) rfl (mvS rfl) rfl (aV 6 (by decide +kernel) rfl (mvI rfl) rfl (aV 7 (by decide +kernel) rfl (e_idx j Tryz.underlying119 Tryz.sizeOf79 (q0 rfl) (q0 rfl) (fun _ => ⟨rfl, hlt2'⟩)) rfl (aV 8 (by decide +kernel) rfl (e_fld Tryz.underlying79 rfl Tryz.sizeOf3 rfl (q0 rfl)) rfl (aV 9 (by decide +kernel) rfl (e_ld (v := .int .i64 y.lo) Tryz.isAgg3 (q0 rfl) (by exact rr (r := 0) 1 rfl hyj rfl)) rfl ?_))))
        refine aV 10 (by decide +kernel) rfl (e_maxM (q0 rfl) (q0 rfl)) rfl (aV 11 (by decide +kernel) rfl (mvS rfl) rfl (aV 12 (by decide +kernel) rfl (mvI rfl) rfl (aV 13 (by decide +kernel) rfl (e_idx k Tryz.underlying119 Tryz.sizeOf79 (q0 rfl) (q0 rfl) (fun _ => ⟨rfl, hlt'⟩)) rfl (aV 14 (by decide +kernel) rfl (e_fld Tryz.underlying79 rfl Tryz.sizeOf3 rfl (q0 rfl)) rfl (aV 15 (by decide +kernel) rfl (e_ld (v := .int .i64 x.hi) Tryz.isAgg3 (q0 rfl) (by exact rr (r := 1) 2 rfl hxk rfl)) rfl ?_)))))
        refine aV 16 (by decide +kernel) rfl (mvS rfl) rfl (aV 17 (by decide +kernel) rfl (mvI rfl) rfl (aV 18 (by decide +kernel) rfl (e_idx j Tryz.underlying119 Tryz.sizeOf79 (q0 rfl) (q0 rfl) (fun _ => ⟨rfl, hlt2'⟩)) rfl (aV 19 (by decide +kernel) rfl (e_fld Tryz.underlying79 rfl Tryz.sizeOf3 rfl (q0 rfl)) rfl (aV 20 (by decide +kernel) rfl (e_ld (v := .int .i64 y.hi) Tryz.isAgg3 (q0 rfl) (by exact rr (r := 1) 1 rfl hyj rfl)) rfl ?_))))
        refine aV 21 (by decide +kernel) rfl (e_minM (q0 rfl) (q0 rfl)) rfl (aV 22 (by decide +kernel) rfl (e_build Tryz.underlying79 fl79 Tryz.zeroValue79 (pt (v := .int _ _) rfl (pt (v := .int _ _) rfl E.p0)) rfl) rfl (rdy1 (i := 23) (by decide +kernel) (sub_drop 0) (aL rfl (f_alloc Tryz.zeroValue79 rfl fun b13 => (rdy1 (i := 24) (by decide +kernel) (sub_drop 1) (aL rfl (f_st (v := .agg _) rfl rfl Tryz.sizeOf79 ?_)))))))
        refine aZ (by decide +kernel) (sub_drop 1) (thenJ_normal (H_seq (R0 (xv (e_fld Tryz.underlying79 rfl Tryz.sizeOf3 rfl (q0 rfl)) (xv (eL Tryz.isAgg3 (q0 rfl)) ?_)))))
        refine xv (e_fld Tryz.underlying79 rfl Tryz.sizeOf3 rfl (q0 rfl)) (xv (eL Tryz.isAgg3 (q0 rfl)) ?_)
        refine xv (e_lt (q0 rfl) (q0 rfl)) (XN (thenJ_normal (H_cond rfl (fun hc => ?_) (fun hc => ?_))))
        · have hc' : max x.lo y.lo < min x.hi y.hi := of_decide_eq_true hc
          have hcu : cut1 x y = [⟨max x.lo y.lo, min x.hi y.hi⟩] := by unfold cut1; rw [if_pos hc']
          rw [hcu] at hsj
          refine R0 (xv (mvS rfl) (xv (eS Tryz.isAgg79 Tryz.sizeOf79 (q0 rfl)) ?_))
          refine X_push (k := 2) (i := Tryz.t79) 1 ((⟨max x.lo y.lo, min x.hi y.hi⟩ : Wn)) Tryz.underlying119 (by kernel_rfl) rfl rfl rfl rfl Tryz.sizeOf79 Tryz.zeroValue79 rfl rfl rfl rfl rfl rfl ⟨by simp only; omega, by decide⟩ rfl rfl fun B0 A1 c1 => (xv (asS rfl) (XN (blockJ_normal (thenJ_normal (R0 (xv (mvI rfl) (xv (e_add (q0 rfl) (q0 rfl) (fun _ => ⟨rfl, by omega, by omega⟩)) (xv (asI rfl) (XN ?_)))))))))
          exact loopJ_normal (j + 1, A1, c1) agr ⟨rfl, by rw [hsj]; rfl, trivial⟩ (fun w hw => by rw [hsj]; exact hw.tail) rfl (by show j + 1 ≤ v.length; omega) (by show v.length - (j + 1) < v.length - j; omega)
        · have hc' : ¬ max x.lo y.lo < min x.hi y.hi := of_decide_eq_false hc
          have hcu : cut1 x y = [] := by unfold cut1; rw [if_neg hc']
          rw [hcu, List.append_nil] at hsj
          refine H_skip (blockJ_normal (thenJ_normal (R0 (xv (mvI rfl) (xv (e_add (q0 rfl) (q0 rfl) (fun _ => ⟨rfl, by omega, by omega⟩)) (xv (asI rfl) (XN ?_)))))))
          exact loopJ_normal (j + 1, pA, pc) agr ⟨rfl, by rw [hsj]; rfl, trivial⟩ (fun w hw => by rw [hsj]; exact hw.tail) rfl (by show j + 1 ≤ v.length; omega) (by show v.length - (j + 1) < v.length - j; omega)
      · have hend : j = v.length := by simp at hlt2; omega
        subst hend
        rw [hTn]
        refine H_exit (thenJ_exit (loopJ_exit (blockJ_hit (blockJ_normal (thenJ_normal (R0 (xv (mvI rfl) (xv (e_add (q0 rfl) (q0 rfl) (fun _ => ⟨rfl, by omega, by omega⟩)) (xv (asI rfl) ?_)))))))))
        refine XN ?_
        exact loopJ_normal (k + 1, pA, pc) agr ⟨rfl, rfl, trivial⟩ (fun w hw => hw) rfl (by show k + 1 ≤ u.length; omega) (by show u.length - (k + 1) < u.length - k; omega)
    · have hend : k = u.length := by simp at hlt; omega
      subst hend
      refine H_exit (thenJ_exit (loopJ_exit (blockJ_hit (thenJ_normal (H_seq (R0 (xv (mvS rfl) (xv (asS rfl) (xv (asI rfl) ?_)))))))))
      refine XN (thenJ_normal (H_ret ?_))
      exact ret2 (v := .slice _ _ _) (x := .int _ _) rfl rfl rfl rfl fun w' hw => ⟨(oA, oc), rfl, hw.pick [0] (by decide)⟩

theorem rfold_len {x : Wn} : ∀ (v : List Wn) (s : List Wn × Int), (v.foldl (rstep x) s).1.length ≤ s.1.length + v.length
  | [], s => by simp
  | h :: v, s => by
    rw [List.foldl_cons, List.length_cons]
    have h1 := rfold_len (x := x) v (rstep x s h)
    have h2 : (rstep x s h).1.length ≤ s.1.length + 1 := by
      unfold rstep
      split
      · omega
      · simp only
        split <;> simp
    omega
def rF (x : Wn) (v : List Wn) (j : Nat) : List Wn × Int := (v.take j).foldl (rstep x) ([], x.lo)
theorem rF_succ {x : Wn} {v : List Wn} {j : Nat} {y : Wn} (h : v[j]? = some y) : rF x v (j + 1) = rstep x (rF x v j) y := by
  unfold rF
  rw [snocT _ _ _ h, List.foldl_append]; rfl
theorem rF_len (x : Wn) (v : List Wn) (j : Nat) : (rF x v j).1.length ≤ v.length := by
  have := rfold_len (x := x) (v.take j) ([], x.lo)
  unfold rF
  rw [List.length_take] at this
  simp only [List.length_nil, Nat.zero_add] at this
  omega
theorem rminus_eq {W : Wn} {y : List Wn} (h : ∀ x ∈ y, x.lo < x.hi) : minusP W y = (one W).flatMap fun x => mend x (rF x y y.length) := by
  unfold minusP minus1 rF
  rw [List.take_length]
  congr 1
  funext x
  rw [rfold_eq _ h]
attribute [local irreducible] rF
set_option maxHeartbeats 1000000 in
set_option maxRecDepth 20000 in
theorem rminus_w (A : Option Addr) (c : Nat) (W : Wn) (B : Option Addr) (m d : Nat) (ys : List Wn) (w : World) (hx : WnsAt w A 1 [W]) (hy : WnsAt w B m ys) (hm : m ≤ 10000) (hW : WOk [W]) (hv : WOk ys) : Calls Tryz.prog 187 #[.slice A 1 c, .slice B m d] w fun e w' => ∃ z : Option Addr × Nat, e = .returned (.tuple #[.slice z.1 (minusP W (unionP ys)).length z.2, .int .i64 0]) ∧ Mem w [wnRow z.1 z.2 (minusP W (unionP ys))] w' := by
  have hl := hy.1
  have hul := union_len ys
  have hvl := one_len W
  have hNf := (union_nf hv.le).1
  refine H_enter Tryz.func187 rfl Tryz.ntmps187 rfl (H_seq (R0 (xv (asS rfl) (xv (asI rfl) (XN (thenJ_normal (H_seq (R0 (xv (mvS rfl) ?_)))))))))
  refine xCX (en Tryz.call189 (ha1 (q0 rfl))) (fun w hw => runion_w A 1 c [W] w (hx.mem hw) (by decide) hW) rfl (fun _ => rfl) fun zu => ?_
  obtain ⟨uA, uc⟩ := zu
  refine xv (e_mv (q0 rfl)) (xv (e_ext (q0 rfl) rfl) (xv (e_ext (q0 rfl) rfl) (xv (asS rfl) (xv (asI rfl) (XN (thenJ_normal (H_seq (R0 (xv (mvS rfl) ?_)))))))))
  refine xCX (en Tryz.call189 (ha1 (q0 rfl))) (fun w hw => runion_w B m d ys w (hy.mem hw) hm hv) rfl (fun _ => rfl) fun zv => ?_
  obtain ⟨vA, vc⟩ := zv
  rw [rminus_eq hNf.pos, union_one]
  clear hNf
  generalize unionP ys = v at *
  generalize one W = u at *
  refine xv (e_mv (q0 rfl)) (xv (e_ext (q0 rfl) rfl) (xv (e_ext (q0 rfl) rfl) (xv (asS rfl) (xv (asI rfl) (XN (thenJ_normal (H_seq (H_seq (R0 ?_)))))))))
  refine xv (mvI rfl) (xv (e_ne (q0 rfl) (q0 rfl)) (xv (mvB rfl) (xf (mvI rfl) rfl rfl (xf (e_ne (q1 rfl) (q0 rfl)) rfl rfl (xv (e_or (q0 rfl) rfl (fun h => by first | rfl | (rw [h]; rfl))) ?_)))))
  refine XN (thenJ_normal (H_cond rfl (fun h1 => ?_) (fun h1 => ?_)))
  · exfalso; simp at h1
  · obtain ⟨U, hU⟩ : ∃ U : Nat → List Wn, ∀ k, U k = (u.take k).flatMap fun x => mend x (rF x v v.length) := ⟨_, fun _ => rfl⟩
    have hU0 : U 0 = [] := by rw [hU]; rfl
    have hUn : u.flatMap (fun x => mend x (rF x v v.length)) = U u.length := by rw [hU, List.take_length]
    have hUs : ∀ k x, u[k]? = some x → U (k + 1) = U k ++ mend x (rF x v v.length) := fun k x h => by rw [hU, hU, flat_snoc h]
    rw [hUn]
    refine H_skip (thenJ_normal (H_seq (H_mem (L' := [wnRow none 0 [], wnRow vA vc v, wnRow uA uc u]) (fun w hw => hw.nilRow 79 2 Wn.cells rfl) rfl (R0 (xv (asS rfl) (XN (thenJ_normal (H_seq (H_seq ?_)))))))))
    refine R0 (xv (asI rfl) (XN (thenJ_normal (H_block (H_loop [10, 11, 12, 13, 30, 31, 32, 33, 34, 35, 36, 37, 38, 39, 40, 41, 42, 43, 44, 45, 46, 47, 48, 49, 50, 51, 52, 53, 54, 55, 56, 57, 58, 59, 60, 61, 62, 63, 64, 65, 66, 67, 68, 69, 70, 71, 72, 73, 74, 75, 76, 77, 78, 79, 80, 81, 82, 83, 84, 85, 86, 87, 88, 89, 90, 91, 92, 93, 94, 95, 96, 97, 98, 99, 100, 101, 102, 103, 104, 105] (fun q : Nat × Option Addr × Nat => [(11, .int .i64 q.1), (10, .slice q.2.1 (U q.1).length q.2.2)]) (fun q => [wnRow q.2.1 q.2.2 (U q.1), wnRow vA vc v, wnRow uA uc u]) (fun q => q.1 ≤ u.length) (fun q => u.length - q.1) (0, none, 0) ⟨rfl, by rw [hU0]; rfl, trivial⟩ (fun w hw => by rw [hU0]; exact hw) rfl (Nat.zero_le _) ?_)))))
    rintro ⟨k, oA, oc⟩ g hk
    simp only at hk
    refine H_seq (H_seq (R0 (xv (mvI rfl) (xv (mvS rfl) (xv (e_len Tryz.underlying119 (q0 rfl)) (xv (e_lt (q0 rfl) (q0 rfl)) (XN (thenJ_normal (H_cond rfl (fun hlt => ?_) (fun hlt => ?_))))))))))
    · have hlt' : k < u.length := by simpa using hlt
      obtain ⟨x, hxk⟩ : ∃ x, u[k]? = some x := ⟨_, List.getElem?_eq_getElem hlt'⟩
      have hsx := hUs k x hxk
      have hk0 : U k = [] := by rw [show k = 0 by omega]; exact hU0
      rw [hk0, List.nil_append] at hsx
      rw [hk0]
      refine H_know (fun w hw => rowT_at (j := 2) hw rfl (by omega)) fun ⟨ub, hub⟩ => ?_
      subst hub
      refine H_skip (thenJ_normal (H_seq (H_block (H_seq (R0 (xv (mvS rfl) (xv (mvI rfl) (xv (e_idx k Tryz.underlying119 Tryz.sizeOf79 (q0 rfl) (q0 rfl) (fun _ => ⟨rfl, hlt'⟩)) (xv (e_fld Tryz.underlying79 rfl Tryz.sizeOf3 rfl (q0 rfl)) ?_)))))))))
      refine xv (e_ld (v := .int .i64 x.lo) Tryz.isAgg3 (q0 rfl) (by exact rr (r := 0) 2 rfl hxk rfl)) ?_
      refine xv (asI rfl) (XN (thenJ_normal (H_seq (H_seq (R0 (xv (asI rfl) (XN (thenJ_normal (H_block ?_)))))))))
      refine H_loop [10, 12, 13, 41, 42, 43, 44, 45, 46, 47, 48, 49, 50, 51, 52, 53, 54, 55, 56, 57, 58, 59, 60, 61, 62, 63, 64, 65, 66, 67, 68, 69, 70, 71, 72, 73, 74, 75, 76, 77, 78, 79, 80, 81, 82, 83, 84, 85, 86, 87, 88] (fun q : Nat × Option Addr × Nat => [(13, .int .i64 q.1), (12, .int .i64 (rF x v q.1).2), (10, .slice q.2.1 (rF x v q.1).1.length q.2.2)]) (fun q => [wnRow q.2.1 q.2.2 (rF x v q.1).1, wnRow vA vc v, wnRow (some ⟨ub, 0, none⟩) uc u]) (fun q => q.1 ≤ v.length) (fun q => v.length - q.1) (0, oA, oc) ⟨rfl, by unfold rF; rfl, by unfold rF; rfl, trivial⟩ (fun w hw => by unfold rF; exact hw) rfl (Nat.zero_le _) ?_
      rintro ⟨j, pA, pc⟩ g2 hj
      simp only at hj
      have hjl := rF_len x v j
      refine H_seq (H_seq (R0 (xv (mvI rfl) (xv (mvS rfl) (xv (e_len Tryz.underlying119 (q0 rfl)) (xv (e_lt (q0 rfl) (q0 rfl)) (XN (thenJ_normal (H_cond rfl (fun hlt2 => ?_) (fun hlt2 => ?_))))))))))
      · have hlt2' : j < v.length := by simpa using hlt2
        obtain ⟨y, hyj⟩ : ∃ y, v[j]? = some y := ⟨_, List.getElem?_eq_getElem hlt2'⟩
        have hsj := rF_succ (x := x) hyj
        generalize rF x v j = S at *
        obtain ⟨S1, S2⟩ := S
        simp only at hjl
        refine H_know (fun w hw => rowT_at (j := 1) hw rfl (by omega)) fun ⟨vb, hvb⟩ => ?_
        subst hvb
        refine H_skip (thenJ_normal (H_seq (H_block (H_seq (H_seq (R1 rfl (by decide +kernel) (xv (mvS rfl) (xv (mvI rfl) (xv (e_idx j Tryz.underlying119 Tryz.sizeOf79 (q0 rfl) (q0 rfl) (fun _ => ⟨rfl, hlt2'⟩)) ?_)))))))))
        refine xv (e_fld Tryz.underlying79 rfl Tryz.sizeOf3 rfl (q0 rfl)) (xv (e_ld (v := .int .i64 y.hi) Tryz.isAgg3 (q0 rfl) (by exact rr (r := 1) 1 rfl hyj rfl)) ?_)
        refine xv (mvI rfl) (xv (e_le (q0 rfl) (q0 rfl)) (xv (mvB rfl) (xf (mvS rfl) rfl rfl (xf (mvI rfl) rfl rfl (xf (e_idx j Tryz.underlying119 Tryz.sizeOf79 (q1 rfl) (q1 rfl) (fun _ => ⟨rfl, hlt2'⟩)) rfl rfl (xf (e_fld Tryz.underlying79 rfl Tryz.sizeOf3 rfl (q1 rfl)) rfl rfl (xf (e_ld (v := .int .i64 y.lo) Tryz.isAgg3 (q1 rfl) (by exact rr (r := 0) 1 rfl hyj rfl)) rfl rfl ?_)))))))
        refine xf (mvS rfl) rfl rfl (xf (mvI rfl) rfl rfl (xf (e_idx k Tryz.underlying119 Tryz.sizeOf79 (q1 rfl) (q1 rfl) (fun _ => ⟨rfl, hlt'⟩)) rfl rfl (xf (e_fld Tryz.underlying79 rfl Tryz.sizeOf3 rfl (q1 rfl)) rfl rfl (xf (e_ld (v := .int .i64 x.hi) Tryz.isAgg3 (q1 rfl) (by exact rr (r := 1) 2 rfl hxk rfl)) rfl rfl ?_))))
        refine xf (e_ge (q1 rfl) (q1 rfl)) rfl rfl (xv (e_or (q0 rfl) rfl (fun h => by first | rfl | (rw [h]; rfl))) ?_)
        refine XN (thenJ_normal (H_cond rfl (fun hc => ?_) (fun hc => ?_)))
        · have hc' : y.hi ≤ S2 ∨ x.hi ≤ y.lo := by simp at hc; omega
          have hst : rF x v (j + 1) = (S1, S2) := by rw [hsj]; unfold rstep; rw [if_pos hc']
          refine H_exit (thenJ_exit (blockJ_hit (thenJ_normal (R0 (xv (mvI rfl) (xv (e_add (q0 rfl) (q0 rfl) (fun _ => ⟨rfl, by omega, by omega⟩)) (xv (asI rfl) (XN ?_))))))))
          exact loopJ_normal (j + 1, pA, pc) agr ⟨rfl, by rw [hst]; rfl, by rw [hst]; rfl, trivial⟩ (fun w hw => by rw [hst]; exact hw) rfl (by show j + 1 ≤ v.length; omega) (by show v.length - (j + 1) < v.length - j; omega)
        · have hc' : ¬ (y.hi ≤ S2 ∨ x.hi ≤ y.lo) := by simp at hc; omega
          have hst : rF x v (j + 1) = (if S2 < y.lo then S1 ++ [⟨S2, y.lo⟩] else S1, y.hi) := by rw [hsj]; unfold rstep; rw [if_neg hc']
          refine H_skip (thenJ_normal (H_seq (H_seq (R0 (xv (mvS rfl) (xv (mvI rfl) (xv (e_idx j Tryz.underlying119 Tryz.sizeOf79 (q0 rfl) (q0 rfl) (fun _ => ⟨rfl, hlt2'⟩)) (xv (e_fld Tryz.underlying79 rfl Tryz.sizeOf3 rfl (q0 rfl)) (xv (e_ld (v := .int .i64 y.lo) Tryz.isAgg3 (q0 rfl) (by exact rr (r := 0) 1 rfl hyj rfl)) ?_)))))))))
          refine xv (mvI rfl) (xv (e_gt (q0 rfl) (q0 rfl)) (XN (thenJ_normal (H_cond rfl (fun hd => ?_) (fun hd => ?_)))))
          · have hd' : S2 < y.lo := by simpa using hd
            rw [if_pos hd'] at hst
            refine R0 (xv (mvS rfl) (xv (mvI rfl) (xv (mvS rfl) (xv (mvI rfl) (xv (e_idx j Tryz.underlying119 Tryz.sizeOf79 (q0 rfl) (q0 rfl) (fun _ => ⟨rfl, hlt2'⟩)) (xv (e_fld Tryz.underlying79 rfl Tryz.sizeOf3 rfl (q0 rfl)) (xv (e_ld (v := .int .i64 y.lo) Tryz.isAgg3 (q0 rfl) (by exact rr (r := 0) 1 rfl hyj rfl)) ?_)))))))
            refine xv (e_build Tryz.underlying79 fl79 Tryz.zeroValue79 (pt (v := .int _ _) rfl (pt (v := .int _ _) rfl E.p0)) rfl) (X_push (k := 2) (i := Tryz.t79) 0 ((⟨S2, y.lo⟩ : Wn)) Tryz.underlying119 (by kernel_rfl) rfl rfl rfl rfl Tryz.sizeOf79 Tryz.zeroValue79 rfl rfl rfl rfl rfl rfl ⟨by simp only; omega, by decide⟩ rfl rfl fun B0 A1 c1 => (xv (asS rfl) (XN (thenJ_normal (R0 (xv (mvS rfl) (xv (mvI rfl) (xv (e_idx j Tryz.underlying119 Tryz.sizeOf79 (q0 rfl) (q0 rfl) (fun _ => ⟨rfl, hlt2'⟩)) (xv (e_fld Tryz.underlying79 rfl Tryz.sizeOf3 rfl (q0 rfl)) ?_)))))))))
            refine xv (e_ld (v := .int .i64 y.hi) Tryz.isAgg3 (q0 rfl) (by exact rr (r := 1) 1 rfl hyj rfl)) ?_
            refine xv (asI rfl) (XN (blockJ_normal (thenJ_normal (R0 (xv (mvI rfl) (xv (e_add (q0 rfl) (q0 rfl) (fun _ => ⟨rfl, by omega, by omega⟩)) (xv (asI rfl) (XN ?_))))))))
            exact loopJ_normal (j + 1, A1, c1) agr ⟨rfl, by rw [hst]; rfl, by rw [hst]; rfl, trivial⟩ (fun w hw => by rw [hst]; exact hw) rfl (by show j + 1 ≤ v.length; omega) (by show v.length - (j + 1) < v.length - j; omega)
          · have hd' : ¬ S2 < y.lo := by simpa using hd
            rw [if_neg hd'] at hst
            refine H_skip (thenJ_normal (R0 (xv (mvS rfl) (xv (mvI rfl) (xv (e_idx j Tryz.underlying119 Tryz.sizeOf79 (q0 rfl) (q0 rfl) (fun _ => ⟨rfl, hlt2'⟩)) (xv (e_fld Tryz.underlying79 rfl Tryz.sizeOf3 rfl (q0 rfl)) (xv (e_ld (v := .int .i64 y.hi) Tryz.isAgg3 (q0 rfl) (by exact rr (r := 1) 1 rfl hyj rfl)) ?_)))))))
            refine xv (asI rfl) (XN (blockJ_normal (thenJ_normal (R0 (xv (mvI rfl) (xv (e_add (q0 rfl) (q0 rfl) (fun _ => ⟨rfl, by omega, by omega⟩)) (xv (asI rfl) (XN ?_))))))))
            exact loopJ_normal (j + 1, pA, pc) agr ⟨rfl, by rw [hst]; rfl, by rw [hst]; rfl, trivial⟩ (fun w hw => by rw [hst]; exact hw) rfl (by show j + 1 ≤ v.length; omega) (by show v.length - (j + 1) < v.length - j; omega)
      · have hend : j = v.length := by simp at hlt2; omega
        subst hend
        generalize rF x v v.length = S at *
        obtain ⟨S1, S2⟩ := S
        simp only at hjl
        unfold mend at hsx
        simp only at hsx
        refine H_exit (thenJ_exit (loopJ_exit (blockJ_hit (thenJ_normal (H_seq (R0 (xv (mvI rfl) (xv (mvS rfl) (xv (mvI rfl) ?_)))))))))
        refine xv (e_idx k Tryz.underlying119 Tryz.sizeOf79 (q0 rfl) (q0 rfl) (fun _ => ⟨rfl, hlt'⟩)) (xv (e_fld Tryz.underlying79 rfl Tryz.sizeOf3 rfl (q0 rfl)) (xv (e_ld (v := .int .i64 x.hi) Tryz.isAgg3 (q0 rfl) (by exact rr (r := 1) 2 rfl hxk rfl)) ?_))
        refine xv (e_lt (q0 rfl) (q0 rfl)) (XN (thenJ_normal (H_cond rfl (fun hd => ?_) (fun hd => ?_))))
        · have hd' : S2 < x.hi := of_decide_eq_true hd
          rw [if_pos hd'] at hsx
          refine R0 (xv (mvS rfl) (xv (mvI rfl) (xv (mvS rfl) (xv (mvI rfl) (xv (e_idx k Tryz.underlying119 Tryz.sizeOf79 (q0 rfl) (q0 rfl) (fun _ => ⟨rfl, hlt'⟩)) (xv (e_fld Tryz.underlying79 rfl Tryz.sizeOf3 rfl (q0 rfl)) (xv (e_ld (v := .int .i64 x.hi) Tryz.isAgg3 (q0 rfl) (by exact rr (r := 1) 2 rfl hxk rfl)) ?_)))))))
          refine xv (e_build Tryz.underlying79 fl79 Tryz.zeroValue79 (pt (v := .int _ _) rfl (pt (v := .int _ _) rfl E.p0)) rfl) (X_push (k := 2) (i := Tryz.t79) 0 ((⟨S2, x.hi⟩ : Wn)) Tryz.underlying119 (by kernel_rfl) rfl rfl rfl rfl Tryz.sizeOf79 Tryz.zeroValue79 rfl rfl rfl rfl rfl rfl ⟨by simp only; omega, by decide⟩ rfl rfl fun B0 A1 c1 => (xv (asS rfl) (XN (blockJ_normal (thenJ_normal (R0 (xv (mvI rfl) (xv (e_add (q0 rfl) (q0 rfl) (fun _ => ⟨rfl, by omega, by omega⟩)) (xv (asI rfl) ?_)))))))))
          refine XN ?_
          exact loopJ_normal (k + 1, A1, c1) agr ⟨rfl, by rw [hsx]; rfl, trivial⟩ (fun w hw => by rw [hsx]; exact hw) rfl (by show k + 1 ≤ u.length; omega) (by show u.length - (k + 1) < u.length - k; omega)
        · have hd' : ¬ S2 < x.hi := of_decide_eq_false hd
          rw [if_neg hd'] at hsx
          refine H_skip (blockJ_normal (thenJ_normal (R0 (xv (mvI rfl) (xv (e_add (q0 rfl) (q0 rfl) (fun _ => ⟨rfl, by omega, by omega⟩)) (xv (asI rfl) (XN ?_)))))))
          exact loopJ_normal (k + 1, pA, pc) agr ⟨rfl, by rw [hsx]; rfl, trivial⟩ (fun w hw => by rw [hsx]; exact hw) rfl (by show k + 1 ≤ u.length; omega) (by show u.length - (k + 1) < u.length - k; omega)
    · have hend : k = u.length := by simp at hlt; omega
      subst hend
      refine H_exit (thenJ_exit (loopJ_exit (blockJ_hit (thenJ_normal (H_seq (R0 (xv (mvS rfl) (xv (asS rfl) (xv (asI rfl) ?_)))))))))
      refine XN (thenJ_normal (H_ret ?_))
      exact ret2 (v := .slice _ _ _) (x := .int _ _) rfl rfl rfl rfl fun w' hw => ⟨(oA, oc), rfl, hw.pick [0] (by decide)⟩
attribute [local irreducible] sT
set_option maxHeartbeats 1000000 in
theorem rlength_w (A : Option Addr) (n c : Nat) (xs : List Wn) (w : World) (hx : WnsAt w A n xs) (hn : n ≤ 10000) (hv : WOk xs) : Calls Tryz.prog 161 #[.slice A n c] w fun e w' => e = .returned (.tuple #[.int .i64 (lenP xs), .int .i64 0]) ∧ Bel w w' := by
  have hl := hx.1
  have hul := union_len xs
  have hYv := union_WOk hv
  refine H_enter Tryz.func161 rfl Tryz.ntmps161 rfl (H_seq (R0 (xv (asI rfl) (xv (asI rfl) (XN (thenJ_normal (H_seq (R0 (xv (mvS rfl) ?_)))))))))
  refine xCX (en Tryz.call189 (ha1 (q0 rfl))) (fun w hw => runion_w A n c xs w (hx.mem hw) hn hv) rfl (fun _ => rfl) fun z => ?_
  have hlen : lenP xs = sT (unionP xs) (unionP xs).length := by unfold lenP sT; rw [List.take_length]
  rw [hlen]
  generalize unionP xs = Y at *
  obtain ⟨yA, yc⟩ := z
  refine xv (e_mv (q0 rfl)) (xv (e_ext (q0 rfl) rfl) (xv (e_ext (q0 rfl) rfl) (xv (asS rfl) (xv (asI rfl) (XN (thenJ_normal (H_seq (H_seq (R0 ?_)))))))))
  refine xv (mvI rfl) (xv (e_ne (q0 rfl) (q0 rfl)) (XN (thenJ_normal (H_cond rfl (fun h1 => ?_) (fun h1 => ?_)))))
  · exfalso; simp at h1
  · refine H_skip (thenJ_normal (H_seq (R0 (xv (asI rfl) (XN (thenJ_normal (H_seq (H_seq (R0 ?_)))))))))
    refine xv (asI rfl) (XN (thenJ_normal (H_block (H_loop [6, 7, 16, 17, 18, 19, 20, 21, 22, 23, 24, 25, 26, 27, 28, 29, 30, 31, 32, 33, 34] (fun k : Nat => [(7, .int .i64 k), (6, .int .i64 (sT Y k))]) (fun _ => [wnRow yA yc Y]) (fun k => k ≤ Y.length) (fun k => Y.length - k) 0 ⟨rfl, by unfold sT; rfl, trivial⟩ (fun w hw => hw) rfl (Nat.zero_le _) ?_))))
    rintro k g hk
    refine H_seq (H_seq (R0 (xv (mvI rfl) (xv (mvS rfl) (xv (e_len Tryz.underlying119 (q0 rfl)) (xv (e_lt (q0 rfl) (q0 rfl)) (XN (thenJ_normal (H_cond rfl (fun hlt => ?_) (fun hlt => ?_))))))))))
    · have hlt' : k < Y.length := by simpa using hlt
      obtain ⟨x, hxk⟩ : ∃ x, Y[k]? = some x := ⟨_, List.getElem?_eq_getElem hlt'⟩
      refine H_know (fun w hw => rowT_at (j := 0) hw rfl (by omega)) fun ⟨q, hq⟩ => ?_
      subst hq
      have hs := sT_succ hxk
      have hb := sT_bound hYv (by omega) k hk
      have hxw := hYv x (List.mem_of_getElem? hxk)
      refine H_skip (thenJ_normal (H_seq (H_block (R1 rfl (by decide +kernel) (xv (mvI rfl) (xv (mvS rfl) (xv (mvI rfl) (xv (e_idx k Tryz.underlying119 Tryz.sizeOf79 (q0 rfl) (q0 rfl) (fun _ => ⟨rfl, hlt'⟩)) (xv (e_fld Tryz.underlying79 rfl Tryz.sizeOf3 rfl (q0 rfl)) ?_)))))))))
      refine xv (e_ld (v := .int .i64 x.hi) Tryz.isAgg3 (q0 rfl) (by exact rr (r := 1) 0 rfl hxk rfl)) ?_
      refine xv (e_add (r := sT Y k + x.hi) (q0 rfl) (q0 rfl) (fun _ => ⟨rfl, by omega, by omega⟩)) (xv (mvS rfl) (xv (mvI rfl) (xv (e_idx k Tryz.underlying119 Tryz.sizeOf79 (q0 rfl) (q0 rfl) (fun _ => ⟨rfl, hlt'⟩)) (xv (e_fld Tryz.underlying79 rfl Tryz.sizeOf3 rfl (q0 rfl)) (xv (e_ld (v := .int .i64 x.lo) Tryz.isAgg3 (q0 rfl) (by exact rr (r := 0) 0 rfl hxk rfl)) ?_)))))
      refine xv (e_sub (r := sT Y (k + 1)) (q0 rfl) (q0 rfl) (fun _ => ⟨by rw [hs]; omega, by omega, by omega⟩)) (xv (asI rfl) (XN (blockJ_normal (thenJ_normal (R0 (xv (mvI rfl) (xv (e_add (q0 rfl) (q0 rfl) (fun _ => ⟨rfl, by omega, by omega⟩)) (xv (asI rfl) (XN ?_)))))))))
      exact loopJ_normal (k + 1) agr ⟨rfl, rfl, trivial⟩ (fun w hw => hw) rfl (by show k + 1 ≤ Y.length; omega) (by show Y.length - (k + 1) < Y.length - k; omega)
    · have hend : k = Y.length := by simp at hlt; omega
      subst hend
      refine H_exit (thenJ_exit (loopJ_exit (blockJ_hit (thenJ_normal (H_seq (R0 (xv (mvI rfl) (xv (asI rfl) (xv (asI rfl) ?_)))))))))
      refine XN (thenJ_normal (H_ret ?_))
      exact ret2 (v := .int _ _) (x := .int _ _) rfl rfl rfl rfl fun w' hw => ⟨rfl, hw.1⟩

/-! the seconds of a ride -/
theorem rrick_w (x : RX) (w : World) (hx : RdAt w x) (h : checkR x.r = 0) (ho : x.r.open_ = false) : Calls Tryz.prog 203 #[.agg x.cells.toArray] w fun e w' => e = .returned (.int .i64 0) ∧ Bel w w' := by
  have hp := checkR_parts h
  refine H_enter Tryz.func203 rfl Tryz.ntmps203 rfl (H_seq (R0 (X_box (v := .agg _) rfl rfl fun b1 => (xv (asI rfl) (XN (thenJ_normal (H_seq (H_seq (R0 ?_)))))))))
  refine xv (eS Tryz.isAgg54 Tryz.sizeOf54 (q0 rfl)) ?_
  refine xC (en Tryz.call100 (ha1 (q0 rfl))) (fun _ w hw => refcheck_w x w (hx.mem hw) (by omega)) rfl rfl ?_
  rw [h]
  refine xv (asI rfl) (XN (thenJ_normal (H_seq (R0 (xv (mvI rfl) (xv (e_ne (q0 rfl) (q0 rfl)) (XN (thenJ_normal (H_cond rfl (fun h1 => ?_) (fun h1 => ?_))))))))))
  · exfalso; simp at h1
  · refine H_skip (thenJ_normal (H_seq (H_seq (R0 (xv (e_fld Tryz.underlying54 rfl Tryz.sizeOf4 rfl (q0 rfl)) (xv (eL Tryz.isAgg4 (q0 rfl)) ?_))))))
    refine XN (thenJ_normal (H_cond rfl (fun h2 => ?_) (fun h2 => ?_)))
    · exfalso; rw [show x.r.open_ = true from h2] at ho; cases ho
    · refine H_skip (thenJ_normal (H_seq (R0 (xv (asI rfl) (XN (thenJ_normal (H_ret ?_)))))))
      exact ret1 (v := .int _ _) rfl rfl rfl fun w' hw => ⟨rfl, hw.1⟩
set_option maxRecDepth 20000 in
theorem rsure_w (x : RX) (w : World) (hx : RdAt w x) (h : checkR x.r = 0) (ho : x.r.open_ = false) : Calls Tryz.prog 186 #[.agg x.cells.toArray] w fun e w' => e = .returned (.tuple #[.agg (sureW x.r).cells.toArray, .int .i64 0]) ∧ Bel w w' := by
  refine H_enter Tryz.func186 rfl Tryz.ntmps186 rfl (H_seq (R0 (X_box (v := .agg _) rfl rfl fun b1 => (X_alloc Tryz.zeroValue79 rfl fun b2 => (xv (asI rfl) (XN (thenJ_normal (H_seq (H_seq ?_)))))))))
  refine R0 (xv (eS Tryz.isAgg54 Tryz.sizeOf54 (q0 rfl)) ?_)
  refine xC (en Tryz.call203 (ha1 (q0 rfl))) (fun _ w hw => rrick_w x w (hx.mem hw) h ho) rfl rfl (xv (asI rfl) (XN (thenJ_normal (H_seq (R0 (xv (mvI rfl) (xv (e_ne (q0 rfl) (q0 rfl)) (XN (thenJ_normal ?_)))))))))
  refine H_cond rfl (fun h1 => ?_) (fun h1 => ?_)
  · exfalso; simp at h1
  · have _ht : True := trivial
    refine H_skip (thenJ_normal (H_seq (R0 (xv (e_fld Tryz.underlying54 rfl Tryz.sizeOf50 rfl (q0 rfl)) (xv (e_fld Tryz.underlying50 rfl Tryz.sizeOf3 rfl (q0 rfl)) (xv (eL Tryz.isAgg3 (q0 rfl)) ?_))))))
    refine xv (e_fld Tryz.underlying54 rfl Tryz.sizeOf50 rfl (q0 rfl)) (xv (e_fld Tryz.underlying50 rfl Tryz.sizeOf3 rfl (q0 rfl)) (xv (eL Tryz.isAgg3 (q0 rfl)) ?_))
    refine xv (e_fld Tryz.underlying54 rfl Tryz.sizeOf50 rfl (q0 rfl)) (xv (e_fld Tryz.underlying50 rfl Tryz.sizeOf3 rfl (q0 rfl)) (xv (eL Tryz.isAgg3 (q0 rfl)) ?_))
    refine xv (e_maxM (q0 rfl) (q0 rfl)) (xv (e_build Tryz.underlying79 fl79 Tryz.zeroValue79 (pt (v := .int _ _) rfl (pt (v := .int _ _) rfl E.p0)) rfl) (X_st (v := .agg _) rfl rfl Tryz.sizeOf79 ?_))
    refine xv (asI rfl) (XN (thenJ_normal (H_ret ?_)))
    exact ret_of rfl (resc2 0 rfl rfl rfl Tryz.isAgg79 Tryz.sizeOf79 rfl rfl) fun w' hw => ⟨rfl, hw.1⟩
attribute [local irreducible] commonP minusP unionP
set_option maxHeartbeats 1000000 in
set_option maxRecDepth 20000 in
theorem rpausing_w (x : RX) (w : World) (hx : RdAt w x) (h : checkR x.r = 0) (ho : x.r.open_ = false) : Calls Tryz.prog 160 #[.agg x.cells.toArray] w fun e w' => ∃ z : Option Addr × Nat, e = .returned (.tuple #[.slice z.1 (pauW x.r).length z.2, .int .i64 0]) ∧ Mem w [wnRow z.1 z.2 (pauW x.r)] w' := by
  have hp := checkR_parts h
  obtain ⟨U, hU⟩ : ∃ U : Nat → List Wn, ∀ k, U k = (x.r.pauses.take k).flatMap sureZR := ⟨_, fun _ => rfl⟩
  have hU0 : U 0 = [] := by rw [hU]; rfl
  have hUn : U x.r.pauses.length = x.r.pauses.flatMap sureZR := by rw [hU, List.take_length]
  have hUs : ∀ k p, x.r.pauses[k]? = some p → U (k + 1) = U k ++ sureZR p := fun k p h => by rw [hU, hU, snocT _ _ _ h, List.flatMap_append]; simp
  have hUl : ∀ k, (U k).length ≤ k := fun k => by
    rw [hU]
    have := flat_len_le (x.r.pauses.take k)
    rw [List.length_take] at this
    omega
  have hpw : pauW x.r = commonP (sureW x.r) (unionP (x.r.pauses.flatMap sureZR)) := by unfold pauW; rw [sure_union h]
  rw [hpw, ← hUn]
  have hUok : WOk (U x.r.pauses.length) := by rw [hUn]; exact sureR_ok h
  have hWok := WOk.one (sureW_ok h)
  obtain ⟨N, hN⟩ : ∃ N, N = x.r.pauses.length := ⟨_, rfl⟩
  refine H_enter Tryz.func160 rfl Tryz.ntmps160 rfl (H_seq (R0 (X_box (v := .agg _) rfl rfl fun b1 => (xv (asS rfl) (xv (asI rfl) (XN (thenJ_normal (H_seq (R0 ?_)))))))))
  refine xv (eS Tryz.isAgg54 Tryz.sizeOf54 (q0 rfl)) ?_
  refine xC (en Tryz.call186 (ha1 (q0 rfl))) (fun _ w hw => rsure_w x w (hx.mem hw) h ho) rfl rfl (xv (e_mv (q0 rfl)) (xv (e_ext (q0 rfl) rfl) (xv (e_ext (q0 rfl) rfl) (X_alloc Tryz.zeroValue79 rfl fun b4 => (X_st (v := .agg _) rfl rfl Tryz.sizeOf79 ?_)))))
  refine xv (asI rfl) (XN (thenJ_normal (H_seq (H_seq (R0 (xv (mvI rfl) (xv (e_ne (q0 rfl) (q0 rfl)) (XN (thenJ_normal ?_)))))))))
  refine H_cond rfl (fun h1 => ?_) (fun h1 => ?_)
  · exfalso; simp at h1
  · refine H_skip (thenJ_normal (H_seq (H_mem (fun w hw => hw.nilRow 79 2 Wn.cells rfl) rfl (R0 (xv (asS rfl) (XN (thenJ_normal (H_seq (H_seq ?_)))))))))
    refine R0 (xv (asI rfl) (XN (thenJ_normal (H_block (H_loop [6, 7, 8, 17, 18, 19, 20, 21, 22, 23, 24, 25, 26, 27, 28, 29, 30, 31, 32, 33, 34, 35, 36, 37, 38, 39, 40, 41, 42, 43, 44, 45] (fun q : Nat × Option Addr × Nat => [(7, .int .i64 q.1), (6, .slice q.2.1 (U q.1).length q.2.2)]) (fun q => [wnRow q.2.1 q.2.2 (U q.1), box b4 79 (sureW x.r).cells, box b1 54 x.cells]) (fun q => q.1 ≤ x.r.pauses.length) (fun q => x.r.pauses.length - q.1) (0, none, 0) ⟨rfl, by rw [hU0]; rfl, trivial⟩ (fun w hw => by rw [hU0]; exact hw) rfl (Nat.zero_le _) ?_)))))
    rintro ⟨k, oA, oc⟩ g hk
    simp only at hk
    have hkl := hUl k
    have hpa := hx.pauses
    obtain ⟨r, ⟨lA, lc, pA, pc⟩⟩ := x
    simp only at *
    refine H_seq (H_seq (R0 (xv (mvI rfl) (xv (e_fld Tryz.underlying54 rfl Tryz.sizeOf52 rfl (q0 rfl)) (xv (eL Tryz.isAgg52 (q0 rfl)) ?_)))))
    refine xv (e_len Tryz.underlying52 (q0 rfl)) (xv (e_lt (q0 rfl) (q0 rfl)) (XN (thenJ_normal (H_cond rfl (fun hlt => ?_) (fun hlt => ?_)))))
    · have hlt' : k < r.pauses.length := by simpa using hlt
      obtain ⟨b, off, p, rfl, hbl, hpk, hrp⟩ := hpa.at_ hlt'
      have hs := hUs k p hpk
      refine H_skip (thenJ_normal (H_seq (H_block (H_seq (R0 (xv (e_fld Tryz.underlying54 rfl Tryz.sizeOf52 rfl (q0 rfl)) (xv (eL Tryz.isAgg52 (q0 rfl)) ?_)))))))
      refine xv (mvI rfl) (xv (e_idx _ Tryz.underlying52 Tryz.sizeOf198 (q0 rfl) (q0 rfl) (fun _ => ⟨rfl, by omega⟩)) (xv (eS Tryz.isAgg198 Tryz.sizeOf198 (q0 rfl)) ?_))
      refine X_alloc Tryz.zeroValue198 rfl fun b8 => (X_st (v := .agg _) rfl rfl Tryz.sizeOf198 ?_)
      refine XN (thenJ_normal (H_seq (R0 (xv (e_fld Tryz.underlying198 rfl Tryz.sizeOf50 rfl (q0 rfl)) (xv (e_fld Tryz.underlying50 rfl Tryz.sizeOf3 rfl (q0 rfl)) (xv (eL Tryz.isAgg3 (q0 rfl)) ?_))))))
      refine xv (e_fld Tryz.underlying198 rfl Tryz.sizeOf50 rfl (q0 rfl)) (xv (e_fld Tryz.underlying50 rfl Tryz.sizeOf3 rfl (q0 rfl)) (xv (eL Tryz.isAgg3 (q0 rfl)) ?_))
      refine xv (e_lt (q0 rfl) (q0 rfl)) (XN (thenJ_normal (H_cond rfl (fun hc => ?_) (fun hc => ?_))))
      · have hc' : p.from_.hi < p.to_.lo := of_decide_eq_true hc
        have hz : sureZR p = [⟨p.from_.hi, p.to_.lo⟩] := by unfold sureZR; rw [if_pos hc']
        rw [hz] at hs
        refine R0 (xv (mvS rfl) (xv (e_fld Tryz.underlying198 rfl Tryz.sizeOf50 rfl (q0 rfl)) (xv (e_fld Tryz.underlying50 rfl Tryz.sizeOf3 rfl (q0 rfl)) (xv (eL Tryz.isAgg3 (q0 rfl)) ?_))))
        refine xv (e_fld Tryz.underlying198 rfl Tryz.sizeOf50 rfl (q0 rfl)) (xv (e_fld Tryz.underlying50 rfl Tryz.sizeOf3 rfl (q0 rfl)) (xv (eL Tryz.isAgg3 (q0 rfl)) ?_))
        refine xv (e_build Tryz.underlying79 fl79 Tryz.zeroValue79 (pt (v := .int _ _) rfl (pt (v := .int _ _) rfl E.p0)) rfl) (X_push (k := 2) (i := Tryz.t79) 1 ((⟨p.from_.hi, p.to_.lo⟩ : Wn)) Tryz.underlying119 (by kernel_rfl) rfl rfl rfl rfl Tryz.sizeOf79 Tryz.zeroValue79 rfl rfl rfl rfl rfl rfl ⟨by omega, by decide⟩ rfl rfl fun B0 A1 c1 => (xv (asS rfl) (XN (blockJ_normal (thenJ_normal (R0 (xv (mvI rfl) (xv (e_add (q0 rfl) (q0 rfl) (fun _ => ⟨rfl, by omega, by omega⟩)) (xv (asI rfl) ?_)))))))))
        refine XN ?_
        exact loopJ_normal (k + 1, A1, c1) agr ⟨rfl, by rw [hs]; rfl, trivial⟩ (fun w hw => by rw [hs]; exact hw.tail) rfl (by show k + 1 ≤ r.pauses.length; omega) (by show r.pauses.length - (k + 1) < r.pauses.length - k; omega)
      · have hc' : ¬ p.from_.hi < p.to_.lo := of_decide_eq_false hc
        have hz : sureZR p = [] := by unfold sureZR; rw [if_neg hc']
        rw [hz, List.append_nil] at hs
        refine H_skip (blockJ_normal (thenJ_normal (R0 (xv (mvI rfl) (xv (e_add (q0 rfl) (q0 rfl) (fun _ => ⟨rfl, by omega, by omega⟩)) (xv (asI rfl) (XN ?_)))))))
        exact loopJ_normal (k + 1, oA, oc) agr ⟨rfl, by rw [hs]; rfl, trivial⟩ (fun w hw => by rw [hs]; exact hw.tail) rfl (by show k + 1 ≤ r.pauses.length; omega) (by show r.pauses.length - (k + 1) < r.pauses.length - k; omega)
    · have hend : k = r.pauses.length := by simp at hlt; omega
      subst hend
      refine H_exit (thenJ_exit (loopJ_exit (blockJ_hit (thenJ_normal (H_seq (R0 (xv (mvS rfl) (xv (eS Tryz.isAgg79 Tryz.sizeOf79 (q0 rfl)) ?_))))))))
      refine X_slit [(.int .i64 0), (.int .i64 0)] Tryz.underlying119 Tryz.sizeOf79 Tryz.zeroValue79 rfl (by kernel_rfl) (pt (v := .agg _) rfl E.p0) rfl rfl fun b48 => (xCX (en Tryz.call188 (ha2 (q0 rfl) (q0 rfl))) (fun w hw => rcommon_w oA _ oc (U r.pauses.length) _ _ (sureW r) w (slAt_row hw (j := 1) rfl (fun _ => rfl) (by omega)) (slAt_box (enc := Wn.cells) (xs := [sureW r]) hw (j := 0) rfl (fun _ => rfl) (by simp)) (by omega) hUok hWok) rfl (fun _ => rfl) fun z => (xv (e_ext (q0 rfl) rfl) (xv (e_ext (q0 rfl) rfl) (xv (asS rfl) (xv (asI rfl) (XN (thenJ_normal (H_ret ?_))))))))
      exact ret2 (v := .slice _ _ _) (x := .int _ _) rfl rfl rfl rfl fun w' hw => ⟨z, rfl, hw.pick [0] (by decide)⟩
set_option maxHeartbeats 1000000 in
set_option maxRecDepth 20000 in
theorem rriding_w (x : RX) (w : World) (hx : RdAt w x) (h : checkR x.r = 0) (ho : x.r.open_ = false) : Calls Tryz.prog 159 #[.agg x.cells.toArray] w fun e w' => ∃ z : Option Addr × Nat, e = .returned (.tuple #[.slice z.1 (ridW x.r).length z.2, .int .i64 0]) ∧ Mem w [wnRow z.1 z.2 (ridW x.r)] w' := by
  have hp := checkR_parts h
  obtain ⟨U, hU⟩ : ∃ U : Nat → List Wn, ∀ k, U k = (x.r.pauses.take k).map possZR := ⟨_, fun _ => rfl⟩
  have hU0 : U 0 = [] := by rw [hU]; rfl
  have hUn : U x.r.pauses.length = x.r.pauses.map possZ := by rw [hU, List.take_length, poss_eq h ho]
  have hUs : ∀ k p, x.r.pauses[k]? = some p → U (k + 1) = U k ++ [possZR p] := fun k p h => by rw [hU, hU, snocT _ _ _ h, List.map_append]; simp
  have hUl : ∀ k, (U k).length ≤ k := fun k => by
    rw [hU, List.length_map, List.length_take]
    omega
  have hpw : ridW x.r = minusP (sureW x.r) (unionP (x.r.pauses.map possZ)) := rfl
  rw [hpw, ← hUn]
  have hUok : WOk (U x.r.pauses.length) := by rw [hUn]; exact possZ_ok h
  have hWok := WOk.one (sureW_ok h)
  refine H_enter Tryz.func159 rfl Tryz.ntmps159 rfl (H_seq (R0 (X_box (v := .agg _) rfl rfl fun b1 => (xv (asS rfl) (xv (asI rfl) (XN (thenJ_normal (H_seq (R0 ?_)))))))))
  refine xv (eS Tryz.isAgg54 Tryz.sizeOf54 (q0 rfl)) ?_
  refine xC (en Tryz.call186 (ha1 (q0 rfl))) (fun _ w hw => rsure_w x w (hx.mem hw) h ho) rfl rfl (xv (e_mv (q0 rfl)) (xv (e_ext (q0 rfl) rfl) (xv (e_ext (q0 rfl) rfl) (X_alloc Tryz.zeroValue79 rfl fun b4 => (X_st (v := .agg _) rfl rfl Tryz.sizeOf79 ?_)))))
  refine xv (asI rfl) (XN (thenJ_normal (H_seq (H_seq (R0 (xv (mvI rfl) (xv (e_ne (q0 rfl) (q0 rfl)) (XN (thenJ_normal ?_)))))))))
  refine H_cond rfl (fun h1 => ?_) (fun h1 => ?_)
  · exfalso; simp at h1
  · refine H_skip (thenJ_normal (H_seq (H_mem (fun w hw => hw.nilRow 79 2 Wn.cells rfl) rfl (R0 (xv (asS rfl) (XN (thenJ_normal (H_seq (H_seq ?_)))))))))
    refine R0 (xv (asI rfl) (XN (thenJ_normal (H_block (H_loop [6, 7, 16, 17, 18, 19, 20, 21, 22, 23, 24, 25, 26, 27, 28, 29, 30, 31, 32, 33, 34, 35, 36, 37, 38, 39, 40] (fun q : Nat × Option Addr × Nat => [(7, .int .i64 q.1), (6, .slice q.2.1 (U q.1).length q.2.2)]) (fun q => [wnRow q.2.1 q.2.2 (U q.1), box b4 79 (sureW x.r).cells, box b1 54 x.cells]) (fun q => q.1 ≤ x.r.pauses.length) (fun q => x.r.pauses.length - q.1) (0, none, 0) ⟨rfl, by rw [hU0]; rfl, trivial⟩ (fun w hw => by rw [hU0]; exact hw) rfl (Nat.zero_le _) ?_)))))
    rintro ⟨k, oA, oc⟩ g hk
    simp only at hk
    have hkl := hUl k
    have hpa := hx.pauses
    obtain ⟨r, ⟨lA, lc, pA, pc⟩⟩ := x
    simp only at *
    refine H_seq (H_seq (R0 (xv (mvI rfl) (xv (e_fld Tryz.underlying54 rfl Tryz.sizeOf52 rfl (q0 rfl)) (xv (eL Tryz.isAgg52 (q0 rfl)) ?_)))))
    refine xv (e_len Tryz.underlying52 (q0 rfl)) (xv (e_lt (q0 rfl) (q0 rfl)) (XN (thenJ_normal (H_cond rfl (fun hlt => ?_) (fun hlt => ?_)))))
    · have hlt' : k < r.pauses.length := by simpa using hlt
      obtain ⟨b, off, p, rfl, hbl, hpk, hrp⟩ := hpa.at_ hlt'
      have hs := hUs k p hpk
      refine H_skip (thenJ_normal (H_seq (H_block (RAd 1 rfl (by decide +kernel) (aV 0 (by decide +kernel) rfl (mvS rfl) rfl (aV 1 (by decide +kernel) rfl (e_fld Tryz.underlying54 rfl Tryz.sizeOf52 rfl (q0 rfl)) rfl (aV 2 (by decide +kernel) rfl (eL Tryz.isAgg52 (q0 rfl)) rfl ?_)))))))
      refine aV 3 (by decide +kernel) rfl (mvI rfl) rfl (aV 4 (by decide +kernel) rfl (e_idx _ Tryz.underlying52 Tryz.sizeOf198 (q0 rfl) (q0 rfl) (fun _ => ⟨rfl, by omega⟩)) rfl (aV 5 (by decide +kernel) rfl (e_fld Tryz.underlying198 rfl Tryz.sizeOf50 rfl (q0 rfl)) rfl (aV 6 (by decide +kernel) rfl (e_fld Tryz.underlying50 rfl Tryz.sizeOf3 rfl (q0 rfl)) rfl (aV 7 (by decide +kernel) rfl (eL Tryz.isAgg3 (q0 rfl)) rfl ?_))))
      refine aV 8 (by decide +kernel) rfl (e_fld Tryz.underlying54 rfl Tryz.sizeOf52 rfl (q0 rfl)) rfl (aV 9 (by decide +kernel) rfl (eL Tryz.isAgg52 (q0 rfl)) rfl ?_)
      refine aV 10 (by decide +kernel) rfl (mvI rfl) rfl (aV 11 (by decide +kernel) rfl (e_idx _ Tryz.underlying52 Tryz.sizeOf198 (q0 rfl) (q0 rfl) (fun _ => ⟨rfl, by omega⟩)) rfl (aV 12 (by decide +kernel) rfl (e_fld Tryz.underlying198 rfl Tryz.sizeOf50 rfl (q0 rfl)) rfl (aV 13 (by decide +kernel) rfl (e_fld Tryz.underlying50 rfl Tryz.sizeOf3 rfl (q0 rfl)) rfl (aV 14 (by decide +kernel) rfl (e_ld (v := .int .i64 p.to_.hi) Tryz.isAgg3 (q0 rfl) (by exact rc (j := 3) hrp hbl rfl)) rfl ?_))))
      refine aV 15 (by decide +kernel) rfl (e_build Tryz.underlying79 fl79 Tryz.zeroValue79 (pt (v := .int _ _) rfl (pt (v := .int _ _) rfl E.p0)) rfl) rfl (rdy1 (i := 16) (by decide +kernel) (sub_drop 1) (aL rfl (f_slit [(.int .i64 0), (.int .i64 0)] Tryz.underlying119 Tryz.sizeOf79 Tryz.zeroValue79 rfl (by kernel_rfl) (pt (v := .agg _) rfl E.p0) rfl rfl fun b39 => (rdy1 (i := 17) (by decide +kernel) (sub_drop 2) (aL rfl (f_append (k := 2) (i := Tryz.t79) (enc := Wn.cells) (xs := U k) 1 Tryz.underlying119 (by kernel_rfl) rfl rfl rfl rfl (fun _ => rfl) (fun _ => rfl) rfl rfl rfl (fun w hw => slAt_box (enc := Wn.cells) (xs := [possZR p]) hw (j := 0) rfl (fun _ => rfl) (by simp)) ⟨by simp; omega, by decide⟩ rfl fun A4 c4 => (aV 18 (by decide +kernel) rfl (asS rfl) rfl (aZ (by decide +kernel) (sub_drop 2) (blockJ_normal (thenJ_normal (R0 ?_)))))))))))
      refine xv (mvI rfl) (xv (e_add (q0 rfl) (q0 rfl) (fun _ => ⟨rfl, by omega, by omega⟩)) (xv (asI rfl) (XN ?_)))
      exact loopJ_normal (k + 1, A4, c4) agr ⟨rfl, by rw [hs]; rfl, trivial⟩ (fun w hw => by rw [hs]; exact hw.tail) rfl (by show k + 1 ≤ r.pauses.length; omega) (by show r.pauses.length - (k + 1) < r.pauses.length - k; omega)
    · have hend : k = r.pauses.length := by simp at hlt; omega
      subst hend
      refine H_exit (thenJ_exit (loopJ_exit (blockJ_hit (thenJ_normal (H_seq (R0 (xv (eS Tryz.isAgg79 Tryz.sizeOf79 (q0 rfl)) ?_)))))))
      refine X_slit [(.int .i64 0), (.int .i64 0)] Tryz.underlying119 Tryz.sizeOf79 Tryz.zeroValue79 rfl (by kernel_rfl) (pt (v := .agg _) rfl E.p0) rfl rfl fun b42 => (xv (mvS rfl) (xCX (en Tryz.call187 (ha2 (q0 rfl) (q0 rfl))) (fun w hw => rminus_w _ _ (sureW r) oA _ oc (U r.pauses.length) w (slAt_box (enc := Wn.cells) (xs := [sureW r]) hw (j := 0) rfl (fun _ => rfl) (by simp)) (slAt_row hw (j := 1) rfl (fun _ => rfl) (by omega)) (by omega) hWok hUok) rfl (fun _ => rfl) fun z => (xv (e_ext (q0 rfl) rfl) (xv (e_ext (q0 rfl) rfl) (xv (asS rfl) (xv (asI rfl) (XN (thenJ_normal (H_ret ?_)))))))))
      exact ret2 (v := .slice _ _ _) (x := .int _ _) rfl rfl rfl rfl fun w' hw => ⟨z, rfl, hw.pick [0] (by decide)⟩
attribute [local irreducible] ridW pauW
set_option maxRecDepth 20000 in
theorem rseconds_w (x : RX) (w : World) (hx : RdAt w x) (h : checkR x.r = 0) (ho : x.r.open_ = false) : Calls Tryz.prog 108 #[.agg x.cells.toArray] w fun e w' => e = .returned (.tuple #[.int .i64 (ridS x.r), .int .i64 (pauS x.r), .int .i64 0]) ∧ Bel w w' := by
  have hr := ridW_len h
  have hp := pauW_len h
  have hr2 := ridW_ok h
  have hp2 := pauW_ok h
  refine H_enter Tryz.func108 rfl Tryz.ntmps108 rfl (H_seq (R0 (X_box (v := .agg _) rfl rfl fun b1 => (xv (asI rfl) (xv (asI rfl) (xv (asI rfl) (XN (thenJ_normal (H_seq ?_)))))))))
  refine R0 (xv (eS Tryz.isAgg54 Tryz.sizeOf54 (q0 rfl)) ?_)
  refine xCX (en Tryz.call159 (ha1 (q0 rfl))) (fun w hw => rriding_w x w (hx.mem hw) h ho) rfl (fun _ => rfl) fun z1 => (xv (e_mv (q0 rfl)) (xv (e_ext (q0 rfl) rfl) (xv (e_ext (q0 rfl) rfl) (xv (asS rfl) (xv (asI rfl) (XN (thenJ_normal (H_seq (H_seq ?_)))))))))
  refine R0 (xv (mvI rfl) (xv (e_ne (q0 rfl) (q0 rfl)) (XN (thenJ_normal (H_cond rfl (fun h1 => ?_) (fun h1 => ?_))))))
  · exfalso; simp at h1
  · refine H_skip (thenJ_normal (H_seq (R0 (xv (eS Tryz.isAgg54 Tryz.sizeOf54 (q0 rfl)) ?_))))
    refine xCX (en Tryz.call160 (ha1 (q0 rfl))) (fun w hw => rpausing_w x w (hx.mem hw) h ho) rfl (fun _ => rfl) fun z2 => (xv (e_mv (q0 rfl)) (xv (e_ext (q0 rfl) rfl) (xv (e_ext (q0 rfl) rfl) (xv (asS rfl) (xv (asI rfl) (XN (thenJ_normal (H_seq (R0 ?_)))))))))
    refine xv (mvS rfl) (xC (en Tryz.call161 (ha1 (q0 rfl))) (fun _ w hw => rlength_w z1.1 (ridW x.r).length z1.2 (ridW x.r) w (slAt_row hw (j := 1) rfl (fun _ => rfl) (by omega)) (by omega) hr2) rfl rfl (xv (e_mv (q0 rfl)) (xv (e_ext (q0 rfl) rfl) (xv (e_ext (q0 rfl) rfl) (xv (asI rfl) (xv (asI rfl) (XN (thenJ_normal (H_seq ?_)))))))))
    refine R0 (xv (mvS rfl) (xC (en Tryz.call161 (ha1 (q0 rfl))) (fun _ w hw => rlength_w z2.1 (pauW x.r).length z2.2 (pauW x.r) w (slAt_row hw (j := 0) rfl (fun _ => rfl) (by omega)) (by omega) hp2) rfl rfl (xv (e_mv (q0 rfl)) (xv (e_ext (q0 rfl) rfl) (xv (e_ext (q0 rfl) rfl) (xv (asI rfl) (xv (asI rfl) (XN (thenJ_normal ?_)))))))))
    refine H_seq (R0 (xv (mvI rfl) (xv (mvI rfl) (xv (asI rfl) (xv (asI rfl) (xv (asI rfl) (XN (thenJ_normal (H_ret ?_)))))))))
    exact ret3 (v := .int _ _) (x := .int _ _) (z := .int _ _) rfl rfl rfl rfl rfl fun w' hw => ⟨rfl, hw.1⟩

end Go.Proofs.Far

/-
  Plain functions: how the reference counts what a pass has paid.
-/
namespace Go.Proofs.Far

def cntU : List Int → List Rq → Int → Int → Nat
  | u :: us, q :: qs, k, d => (if u = k ∧ q.day = d then 1 else 0) + cntU us qs k d
  | _, _, _, _ => 0
theorem cntU_nil (us : List Int) (k d : Int) : cntU us [] k d = 0 := by cases us <;> rfl
theorem cntU_append : ∀ (a b : List Int) (qs : List Rq) (k d : Int), cntU (a ++ b) qs k d = cntU a qs k d + cntU b (qs.drop a.length) k d
  | [], b, qs, k, d => by simp [cntU]
  | u :: a, b, [], k, d => by simp [cntU_nil]
  | u :: a, b, q :: qs, k, d => by
    rw [List.cons_append, List.length_cons, List.drop_succ_cons]
    have h1 : cntU (u :: (a ++ b)) (q :: qs) k d = (if u = k ∧ q.day = d then 1 else 0) + cntU (a ++ b) qs k d := rfl
    have h2 : cntU (u :: a) (q :: qs) k d = (if u = k ∧ q.day = d then 1 else 0) + cntU a qs k d := rfl
    rw [h1, h2, cntU_append a b qs k d]
    omega
theorem cntU_minus {k : Int} (hk : 0 ≤ k) (d : Int) : ∀ (n : Nat) (qs : List Rq), cntU (List.replicate n (-1)) qs k d = 0
  | 0, _ => rfl
  | n + 1, [] => cntU_nil _ _ _
  | n + 1, q :: qs => by
    rw [List.replicate_succ]
    unfold cntU
    rw [if_neg (by omega), cntU_minus hk d n qs]
theorem cntU_snoc {us : List Int} {qs : List Rq} {i : Nat} {u : Int} {q : Rq} (hu : us[i]? = some u) (hq : qs[i]? = some q) (k d : Int) : cntU (us.take (i + 1)) qs k d = cntU (us.take i) qs k d + if u = k ∧ q.day = d then 1 else 0 := by
  have hi := (List.getElem?_eq_some_iff.1 hu).1
  obtain ⟨hq1, hq2⟩ := List.getElem?_eq_some_iff.1 hq
  rw [List.take_add_one, hu, cntU_append]
  have hl : (us.take i).length = i := by rw [List.length_take]; omega
  rw [hl, List.drop_eq_getElem_cons hq1, hq2]
  simp [cntU]
theorem cntU_le : ∀ (us : List Int) (qs : List Rq) (k d : Int), cntU us qs k d ≤ us.length
  | [], _, _, _ => by simp [cntU]
  | u :: us, [], k, d => by simp [cntU_nil]
  | u :: us, q :: qs, k, d => by
    unfold cntU
    have := cntU_le us qs k d
    rw [List.length_cons]
    split <;> omega
/-- the two ways to count -/
theorem US_cnt {l : List Pas} {qs : List Rq} {k : Int} (hk : 0 ≤ k) (d : Int) : ∀ n, n ≤ qs.length → paidN (US l qs n).2 k d = cntU (US l qs n).1 qs k d
  | 0, _ => by unfold US; rfl
  | n + 1, hn => by
    obtain ⟨q, hq⟩ : ∃ q, qs[n]? = some q := ⟨_, List.getElem?_eq_getElem (by omega)⟩
    have ih := US_cnt (l := l) (qs := qs) hk d n (by omega)
    have hl := US_fst (l := l) (qs := qs) (k := n) (by omega)
    obtain ⟨h1, h2⟩ := List.getElem?_eq_some_iff.1 hq
    rw [US_succ hq]
    unfold useStep
    simp only
    rw [cntU_append, hl, List.drop_eq_getElem_cons h1, h2, ← ih]
    have hc : cntU [pickP l (US l qs n).2 q] (q :: qs.drop (n + 1)) k d = if pickP l (US l qs n).2 q = k ∧ q.day = d then 1 else 0 := by simp [cntU]
    rw [hc]
    by_cases hp : 0 ≤ pickP l (US l qs n).2 q
    · rw [if_pos hp]
      unfold paidN
      rw [List.countP_append]
      congr 1
      by_cases he : pickP l (US l qs n).2 q = k ∧ q.day = d
      · rw [if_pos he]
        simp [he.1, he.2]
      · rw [if_neg he]
        have : (pickP l (US l qs n).2 q == k && q.day == d) = false := by
          cases hb : (pickP l (US l qs n).2 q == k && q.day == d) with
          | false => rfl
          | true =>
            simp at hb
            exact absurd hb he
        simp [this]
    · rw [if_neg hp, if_neg (by omega)]
      omega
/-- the row of the answers, as the reference fills it -/
def OV (l : List Pas) (qs : List Rq) (k : Nat) : List Int := (US l qs k).1 ++ List.replicate (qs.length - k) (-1)
theorem OV_len {l : List Pas} {qs : List Rq} {k : Nat} (h : k ≤ qs.length) : (OV l qs k).length = qs.length := by
  unfold OV
  rw [List.length_append, US_fst h, List.length_replicate]
  omega
theorem OV_get {l : List Pas} {qs : List Rq} {k : Nat} (h : k < qs.length) : (OV l qs k)[k]? = some (-1) := by
  unfold OV
  rw [List.getElem?_append_right (by rw [US_fst (by omega)]; exact Nat.le_refl _), US_fst (by omega), Nat.sub_self, List.getElem?_replicate, if_pos (by omega)]
theorem OV_set {l : List Pas} {qs : List Rq} {k : Nat} {q : Rq} (h : k < qs.length) (hq : qs[k]? = some q) : (OV l qs k).set k (pickP l (US l qs k).2 q) = OV l qs (k + 1) := by
  unfold OV
  rw [US_succ hq]
  unfold useStep
  simp only
  have hl := US_fst (l := l) (qs := qs) (k := k) (by omega)
  rw [List.set_append_right _ _ (by omega), hl, Nat.sub_self, show qs.length - k = (qs.length - (k + 1)) + 1 by omega, List.replicate_succ, List.set_cons_zero, List.append_assoc]
  rfl
theorem OV_same {l : List Pas} {qs : List Rq} {k : Nat} (h : k < qs.length) : (OV l qs k).set k (-1) = OV l qs k := by
  have := OV_get (l := l) h
  obtain ⟨h1, h2⟩ := List.getElem?_eq_some_iff.1 this
  rw [← h2]
  exact List.set_getElem_self h1
theorem OV_cnt {l : List Pas} {qs : List Rq} {k : Int} (hk : 0 ≤ k) (d : Int) {n : Nat} (hn : n ≤ qs.length) : cntU (OV l qs n) qs k d = paidN (US l qs n).2 k d := by
  unfold OV
  rw [cntU_append, cntU_minus hk, US_cnt hk d n hn, Nat.add_zero]
theorem OV_full {l : List Pas} {qs : List Rq} : OV l qs qs.length = (useS l qs).1 := by
  unfold OV US
  rw [Nat.sub_self, List.take_length]; simp
theorem OV_zero {l : List Pas} {qs : List Rq} : OV l qs 0 = List.replicate qs.length (-1) := by
  unfold OV US; rfl
/-- which rides are done -/
def dnB (m k : Nat) : List Bool := List.replicate k true ++ List.replicate (m - k) false
theorem dnB_len {m k : Nat} (h : k ≤ m) : (dnB m k).length = m := by unfold dnB; rw [List.length_append, List.length_replicate, List.length_replicate]; omega
theorem dnB_get {m k i : Nat} (hi : i < m) : (dnB m k)[i]? = some (decide (i < k)) := by
  unfold dnB
  by_cases h : i < k
  · rw [List.getElem?_append_left (by rw [List.length_replicate]; exact h), List.getElem?_replicate, if_pos h]; simp [h]
  · rw [List.getElem?_append_right (by rw [List.length_replicate]; omega), List.getElem?_replicate, List.length_replicate, if_pos (by omega)]; simp [h]
theorem dnB_set {m k : Nat} (h : k < m) : (dnB m k).set k true = dnB m (k + 1) := by
  unfold dnB
  rw [List.set_append_right _ _ (by rw [List.length_replicate]; exact Nat.le_refl _), List.length_replicate, Nat.sub_self, show m - k = (m - (k + 1)) + 1 by omega, List.replicate_succ, List.set_cons_zero, List.replicate_succ']
  simp
theorem dnB_zero (m : Nat) : dnB m 0 = List.replicate m false := by unfold dnB; simp
/-- minus ones so far -/
def mns (m k : Nat) : List Int := List.replicate k (-1) ++ List.replicate (m - k) 0
theorem mns_len {m k : Nat} (h : k ≤ m) : (mns m k).length = m := by unfold mns; rw [List.length_append, List.length_replicate, List.length_replicate]; omega
theorem mns_get {m k : Nat} (h : k < m) : (mns m k)[k]? = some 0 := by
  unfold mns
  rw [List.getElem?_append_right (by rw [List.length_replicate]; exact Nat.le_refl _), List.getElem?_replicate, List.length_replicate, if_pos (by omega)]
theorem mns_set {m k : Nat} (h : k < m) : (mns m k).set k (-1) = mns m (k + 1) := by
  unfold mns
  rw [List.set_append_right _ _ (by rw [List.length_replicate]; exact Nat.le_refl _), List.length_replicate, Nat.sub_self, show m - k = (m - (k + 1)) + 1 by omega, List.replicate_succ, List.set_cons_zero, List.replicate_succ']
  simp
theorem mns_zero (m : Nat) : mns m 0 = List.replicate m 0 := by unfold mns; simp
theorem mns_full (m : Nat) : mns m m = List.replicate m (-1) := by unfold mns; simp

end Go.Proofs.Far

/-
  The walks: the reference's use of passes.
-/
namespace Go.Proofs.Far
open Go Go.RowKit Go.Proofs.E Go.Proofs.Cus Go.Proofs.Rid

set_option maxRecDepth 20000 in
theorem rrides_w (B : Option Addr) (m d : Nat) (rs : List RX) (w : World) (hr : RdsAt w B m rs) (hg : Good (rs.map (·.r))) : Calls Tryz.prog 103 #[.slice B m d] w fun e w' => e = .returned (.int .i64 0) ∧ Bel w w' := by
  have hl := hr.1.1
  have hn := hr.1.2.1
  have hfew := hg.few
  rw [List.length_map] at hfew
  obtain ⟨hnd, _⟩ := twice_nodup _ _ hg.ids
  refine H_enter Tryz.func103 rfl Tryz.ntmps103 rfl (H_seq (R0 (xv (asI rfl) (XN (thenJ_normal (H_seq (H_seq (R0 (xv (mvS rfl) ?_)))))))))
  refine xv (e_len Tryz.underlying36 (q0 rfl)) (xv (e_gt (q0 rfl) (q0 rfl)) (XN (thenJ_normal (H_cond rfl (fun h1 => ?_) (fun h1 => ?_)))))
  · exfalso; simp at h1; omega
  · refine H_skip (thenJ_normal (H_seq (H_seq (R0 (xv (asI rfl) (XN (thenJ_normal (H_block (H_loop [2, 3, 4, 10, 11, 12, 13, 14, 15, 16, 17, 18, 19, 20, 21, 22, 23] (fun k : Nat => [(3, .int .i64 k)]) (fun _ => []) (fun k => k ≤ m) (fun k => m - k) 0 ⟨rfl, trivial⟩ (fun w hw => hw) rfl (Nat.zero_le _) ?_)))))))))
    rintro k g hk
    refine H_seq (H_seq (R0 (xv (mvI rfl) (xv (mvS rfl) (xv (e_len Tryz.underlying36 (q0 rfl)) (xv (e_lt (q0 rfl) (q0 rfl)) (XN (thenJ_normal (H_cond rfl (fun hlt => ?_) (fun hlt => ?_))))))))))
    · have hlt' : k < m := by simpa using hlt
      obtain ⟨b, off, x, rfl, hbl, hxk, hrx⟩ := hr.1.at_ hlt'
      have hxm := List.mem_of_getElem? hxk
      have hc : checkR x.r = 0 := hg.ok x.r (List.mem_map.2 ⟨x, hxm, rfl⟩)
      have hcp := checkR_parts hc
      refine H_skip (thenJ_normal (H_seq (H_block (H_seq (R0 (xv (mvS rfl) (xv (mvI rfl) (xv (e_idx _ Tryz.underlying36 Tryz.sizeOf54 (q0 rfl) (q0 rfl) (fun _ => ⟨rfl, by omega⟩)) (xv (eS Tryz.isAgg54 Tryz.sizeOf54 (q0 rfl)) ?_)))))))))
      refine xC (en Tryz.call100 (ha1 (q0 rfl))) (fun _ w hw => refcheck_w x w ((hr.2 x hxm).mem hw) (by omega)) rfl rfl ?_
      rw [hc]
      refine xv (asI rfl) (XN (thenJ_normal (H_seq (R0 (xv (mvI rfl) (xv (e_ne (q0 rfl) (q0 rfl)) (XN (thenJ_normal (H_cond rfl (fun h2 => ?_) (fun h2 => ?_))))))))))
      · exfalso; simp at h2
      · refine H_skip (blockJ_normal (thenJ_normal (R0 (xv (mvI rfl) (xv (e_add (q0 rfl) (q0 rfl) (fun _ => ⟨rfl, by omega, by omega⟩)) (xv (asI rfl) (XN ?_)))))))
        exact loopJ_normal (k + 1) agr ⟨rfl, trivial⟩ (fun w hw => hw) rfl (by show k + 1 ≤ m; omega) (by show m - (k + 1) < m - k; omega)
    · refine H_exit (thenJ_exit (loopJ_exit (blockJ_hit (thenJ_normal (H_seq (H_seq (R0 (xv (asI rfl) (XN ?_)))))))))
      refine thenJ_normal (H_block (H_loop [2, 5, 6, 24, 25, 26, 27, 28, 29, 30, 31, 32, 33, 34, 35, 36, 37, 38, 39, 40, 41, 42, 43, 44, 45] (fun k : Nat => [(5, .int .i64 k)]) (fun _ => []) (fun k => k ≤ m) (fun k => m - k) 0 ⟨rfl, trivial⟩ (fun w hw => hw) rfl (Nat.zero_le _) ?_))
      rintro i g2 hi
      refine H_seq (H_seq (R0 (xv (mvI rfl) (xv (mvS rfl) (xv (e_len Tryz.underlying36 (q0 rfl)) (xv (e_lt (q0 rfl) (q0 rfl)) (XN (thenJ_normal (H_cond rfl (fun hlt2 => ?_) (fun hlt2 => ?_))))))))))
      · have hlt2' : i < m := by simpa using hlt2
        obtain ⟨b, off, x, rfl, hbl, hxi, hrx⟩ := hr.1.at_ hlt2'
        refine H_skip (thenJ_normal (H_seq (H_block (H_seq (R0 (xv (asI rfl) (XN (thenJ_normal (H_block ?_)))))))))
        refine H_loop [2, 6, 30, 31, 32, 33, 34, 35, 36, 37, 38, 39, 40, 41, 42, 43, 44, 45] (fun k : Nat => [(6, .int .i64 k)]) (fun _ => []) (fun k => k ≤ i) (fun k => i - k) 0 ⟨rfl, trivial⟩ (fun w hw => hw) rfl (Nat.zero_le _) ?_
        rintro j g3 hj
        refine H_seq (H_seq (R0 (xv (mvI rfl) (xv (mvI rfl) (xv (e_lt (q0 rfl) (q0 rfl)) (XN (thenJ_normal (H_cond rfl (fun hlt3 => ?_) (fun hlt3 => ?_)))))))))
        · have hlt3' : j < i := by simpa using hlt3
          obtain ⟨b2, off2, y, hA, hbl2, hyj, hry⟩ := hr.1.at_ (show j < m by omega)
          cases hA
          have hne : ¬ x.r.id = y.r.id := fun h => by
            have h1 : ((rs.map (·.r)).map (·.id))[i]? = some x.r.id := by simp [hxi]
            have h2 : ((rs.map (·.r)).map (·.id))[j]? = some x.r.id := by simp [hyj, h]
            obtain ⟨p1, p2⟩ := List.getElem?_eq_some_iff.1 h1
            obtain ⟨p3, p4⟩ := List.getElem?_eq_some_iff.1 h2
            exact List.pairwise_iff_getElem.1 hnd j i p3 p1 hlt3' (p4.trans p2.symm)
          refine H_skip (thenJ_normal (H_seq (H_block (H_seq (R1 rfl (by decide +kernel) (xv (mvS rfl) (xv (mvI rfl) (xv (e_idx i Tryz.underlying36 Tryz.sizeOf54 (q0 rfl) (q0 rfl) (fun _ => ⟨rfl, hlt2'⟩)) (xv (e_fld Tryz.underlying54 rfl Tryz.sizeOf3 rfl (q0 rfl)) ?_)))))))))
          refine xv (e_ld (v := .int .i64 x.r.id) Tryz.isAgg3 (q0 rfl) (by exact rc0 hrx hbl rfl)) ?_
          refine xv (mvS rfl) (xv (mvI rfl) (xv (e_idx j Tryz.underlying36 Tryz.sizeOf54 (q0 rfl) (q0 rfl) (fun _ => ⟨rfl, by omega⟩)) (xv (e_fld Tryz.underlying54 rfl Tryz.sizeOf3 rfl (q0 rfl)) (xv (e_ld (v := .int .i64 y.r.id) Tryz.isAgg3 (q0 rfl) (by exact rc0 hry hbl rfl)) ?_))))
          refine xv (e_eq (q0 rfl) (q0 rfl)) (XN (thenJ_normal (H_cond rfl (fun h4 => ?_) (fun h4 => ?_))))
          · exfalso; exact hne (of_decide_eq_true h4)
          · refine H_skip (blockJ_normal (thenJ_normal (R0 (xv (mvI rfl) (xv (e_add (q0 rfl) (q0 rfl) (fun _ => ⟨rfl, by omega, by omega⟩)) (xv (asI rfl) (XN ?_)))))))
            exact loopJ_normal (j + 1) agr ⟨rfl, trivial⟩ (fun w hw => hw) rfl (by show j + 1 ≤ i; omega) (by show i - (j + 1) < i - j; omega)
        · refine H_exit (thenJ_exit (loopJ_exit (blockJ_hit (blockJ_normal (thenJ_normal (R0 (xv (mvI rfl) (xv (e_add (q0 rfl) (q0 rfl) (fun _ => ⟨rfl, by omega, by omega⟩)) (xv (asI rfl) ?_)))))))))
          refine XN ?_
          exact loopJ_normal (i + 1) agr ⟨rfl, trivial⟩ (fun w hw => hw) rfl (by show i + 1 ≤ m; omega) (by show m - (i + 1) < m - i; omega)
      · refine H_exit (thenJ_exit (loopJ_exit (blockJ_hit (thenJ_normal (H_seq (R0 (xv (asI rfl) (XN (thenJ_normal ?_)))))))))
        refine H_ret ?_
        exact ret1 (v := .int _ _) rfl rfl rfl fun w' hw => ⟨rfl, hw.1⟩
set_option maxRecDepth 20000 in
theorem rbefore_w (x y : RX) (w : World) : Calls Tryz.prog 158 #[.agg x.cells.toArray, .agg y.cells.toArray] w fun e w' => e = .returned (.bool (rideLt x.r y.r)) ∧ Bel w w' := by
  refine H_enter Tryz.func158 rfl Tryz.ntmps158 rfl (H_seq (R0 (X_box (v := .agg _) rfl rfl fun b2 => (X_box (v := .agg _) rfl rfl fun b3 => (xv (asB rfl) (XN (thenJ_normal (H_seq (H_seq ?_)))))))))
  refine R0 (xv (e_fld Tryz.underlying54 rfl Tryz.sizeOf50 rfl (q0 rfl)) (xv (e_fld Tryz.underlying50 rfl Tryz.sizeOf3 rfl (q0 rfl)) (xv (eL Tryz.isAgg3 (q0 rfl)) ?_)))
  refine xv (e_fld Tryz.underlying54 rfl Tryz.sizeOf50 rfl (q0 rfl)) (xv (e_fld Tryz.underlying50 rfl Tryz.sizeOf3 rfl (q0 rfl)) (xv (eL Tryz.isAgg3 (q0 rfl)) ?_))
  refine xv (e_ne (q0 rfl) (q0 rfl)) (XN (thenJ_normal (H_cond rfl (fun h1 => ?_) (fun h1 => ?_))))
  · have h1' : ¬ x.r.start.lo = y.r.start.lo := by simpa using h1
    refine H_seq (R0 (xv (e_fld Tryz.underlying54 rfl Tryz.sizeOf50 rfl (q0 rfl)) (xv (e_fld Tryz.underlying50 rfl Tryz.sizeOf3 rfl (q0 rfl)) (xv (eL Tryz.isAgg3 (q0 rfl)) ?_))))
    refine xv (e_fld Tryz.underlying54 rfl Tryz.sizeOf50 rfl (q0 rfl)) (xv (e_fld Tryz.underlying50 rfl Tryz.sizeOf3 rfl (q0 rfl)) (xv (eL Tryz.isAgg3 (q0 rfl)) ?_))
    refine xv (e_lt (q0 rfl) (q0 rfl)) (xv (asB rfl) (XN (thenJ_normal (H_ret (thenJ_ret ?_)))))
    exact ret1 (v := .bool _) rfl rfl rfl fun w' hw => ⟨ret_bool (by unfold rideLt; simp [h1']), hw.1⟩
  · have h1' : x.r.start.lo = y.r.start.lo := by simpa using h1
    refine H_skip (thenJ_normal (H_seq (R0 (xv (e_fld Tryz.underlying54 rfl Tryz.sizeOf50 rfl (q0 rfl)) (xv (e_fld Tryz.underlying50 rfl Tryz.sizeOf3 rfl (q0 rfl)) (xv (eL Tryz.isAgg3 (q0 rfl)) ?_))))))
    refine xv (e_fld Tryz.underlying54 rfl Tryz.sizeOf50 rfl (q0 rfl)) (xv (e_fld Tryz.underlying50 rfl Tryz.sizeOf3 rfl (q0 rfl)) (xv (eL Tryz.isAgg3 (q0 rfl)) ?_))
    refine xv (e_lt (q0 rfl) (q0 rfl)) (xv (mvB rfl) (xf (e_fld Tryz.underlying54 rfl Tryz.sizeOf50 rfl (q0 rfl)) rfl rfl (xf (e_fld Tryz.underlying50 rfl Tryz.sizeOf3 rfl (q1 rfl)) rfl rfl (xf (eL Tryz.isAgg3 (q1 rfl)) rfl rfl ?_))))
    refine xf (e_fld Tryz.underlying54 rfl Tryz.sizeOf50 rfl (q0 rfl)) rfl rfl (xf (e_fld Tryz.underlying50 rfl Tryz.sizeOf3 rfl (q1 rfl)) rfl rfl (xf (eL Tryz.isAgg3 (q1 rfl)) rfl rfl ?_))
    refine xf (e_eq (q1 rfl) (q1 rfl)) rfl rfl (xf (e_mv (v := .bool _) (q1 rfl)) rfl rfl (xVT2 (e_fld Tryz.underlying54 rfl Tryz.sizeOf3 rfl (q0 rfl)) rfl rfl rfl rfl (xVT2 (eL Tryz.isAgg3 (q1 rfl)) rfl rfl rfl rfl ?_)))
    refine xVT2 (e_fld Tryz.underlying54 rfl Tryz.sizeOf3 rfl (q0 rfl)) rfl rfl rfl rfl (xVT2 (eL Tryz.isAgg3 (q1 rfl)) rfl rfl rfl rfl ?_)
    refine xVT2 (e_lt (q1 rfl) (q1 rfl)) rfl rfl rfl rfl (xf (e_and (q1 rfl) rfl (fun h => by first | rfl | (rw [h]; rfl))) rfl rfl ?_)
    refine xv (e_or (q0 rfl) rfl (fun h => by first | rfl | (rw [h]; rfl))) ?_
    refine xv (asB rfl) (XN (thenJ_normal (H_ret ?_)))
    exact ret1 (v := .bool _) rfl rfl rfl fun w' hw => ⟨ret_bool (by unfold rideLt; simp [h1']), hw.1⟩
set_option maxRecDepth 20000 in
theorem rvalidP_w (p : Pas) (x : RX) (w : World) (h : checkR x.r = 0) : Calls Tryz.prog 105 #[.agg p.cells.toArray, .agg x.cells.toArray] w fun e w' => e = .returned (.bool (validP p (reqR x.r))) ∧ Bel w w' := by
  have hs := spOk_iff.1 (checkR_parts h).1
  refine H_enter Tryz.func105 rfl Tryz.ntmps105 rfl (H_seq (R0 (X_box (v := .agg _) rfl rfl fun b2 => (X_box (v := .agg _) rfl rfl fun b3 => (xv (asB rfl) (XN (thenJ_normal (H_seq (R0 ?_)))))))))
  refine xv (e_fld Tryz.underlying54 rfl Tryz.sizeOf50 rfl (q0 rfl)) (xv (e_fld Tryz.underlying50 rfl Tryz.sizeOf3 rfl (q0 rfl)) (xv (eL Tryz.isAgg3 (q0 rfl)) ?_))
  refine xv (e_quo (q0 rfl) (q0 rfl) (fun _ => ⟨by omega, by omega, by omega⟩)) (xv (asI rfl) (XN (thenJ_normal (H_seq (R0 (xv (e_fld Tryz.underlying81 rfl Tryz.sizeOf3 rfl (q0 rfl)) (xv (eL Tryz.isAgg3 (q0 rfl)) ?_)))))))
  refine xv (e_fld Tryz.underlying54 rfl Tryz.sizeOf3 rfl (q0 rfl)) (xv (eL Tryz.isAgg3 (q0 rfl)) ?_)
  refine xv (e_eq (q0 rfl) (q0 rfl)) (xv (mvB rfl) (xt (e_fld Tryz.underlying81 rfl Tryz.sizeOf79 rfl (q0 rfl)) rfl rfl (xt (e_fld Tryz.underlying79 rfl Tryz.sizeOf3 rfl (q1 rfl)) rfl rfl (xt (eL Tryz.isAgg3 (q1 rfl)) rfl rfl ?_))))
  refine xt (mvI rfl) rfl rfl (xt (e_le (q1 rfl) (q1 rfl)) rfl rfl (xv (e_and (q0 rfl) rfl (fun h => by first | rfl | (rw [h]; rfl))) ?_))
  refine xv (mvB rfl) (xt (mvI rfl) rfl rfl (xt (e_fld Tryz.underlying81 rfl Tryz.sizeOf79 rfl (q0 rfl)) rfl rfl (xt (e_fld Tryz.underlying79 rfl Tryz.sizeOf3 rfl (q1 rfl)) rfl rfl (xt (eL Tryz.isAgg3 (q1 rfl)) rfl rfl ?_))))
  refine xt (e_lt (q1 rfl) (q1 rfl)) rfl rfl (xv (e_and (q0 rfl) rfl (fun h => by first | rfl | (rw [h]; rfl))) ?_)
  refine xv (asB rfl) (XN (thenJ_normal (H_ret ?_)))
  exact ret1 (v := .bool _) rfl rfl rfl fun w' hw => ⟨ret_bool (by unfold validP reqR; rw [Bool.and_assoc]), hw.1⟩
set_option maxRecDepth 20000 in
theorem rpaid_w (B : Option Addr) (m d : Nat) (rs : List RX) (U : Option Addr) (e : Nat) (us : List Int) (k day : Int) (w : World) (hr : RdsAt w B m rs) (hu : IntsAt w U m us) (hg : ∀ r ∈ rs, checkR r.r = 0) : Calls Tryz.prog 106 #[.slice B m d, .slice U m e, .int .i64 k, .int .i64 day] w fun e w' => e = .returned (.int .i64 (cntU us (rs.map fun x => reqR x.r) k day : Nat)) ∧ Bel w w' := by
  have hl := hr.1.1
  have hn := hr.1.2.1
  have hul := hu.1
  obtain ⟨qs, hqs⟩ : ∃ qs : List Rq, qs = rs.map fun x => reqR x.r := ⟨_, rfl⟩
  rw [← hqs]
  refine H_enter Tryz.func106 rfl Tryz.ntmps106 rfl (H_seq (R0 (xv (asI rfl) (XN (thenJ_normal (H_seq (R0 (xv (asI rfl) (XN ?_)))))))))
  refine thenJ_normal (H_seq (H_seq (R0 (xv (asI rfl) (XN (thenJ_normal (H_block (H_loop [9, 10, 11, 12, 13, 14, 15, 16, 17, 18, 19, 20, 21, 22, 23, 24, 25, 26, 27, 28, 29, 30, 31, 32, 33, 34, 35] (fun i : Nat => [(10, .int .i64 i), (9, .int .i64 (cntU (us.take i) qs k day : Nat))]) (fun _ => []) (fun i => i ≤ m) (fun i => m - i) 0 ⟨rfl, rfl, trivial⟩ (fun w hw => hw) rfl (Nat.zero_le _) ?_))))))))
  rintro i g hi
  have hle := cntU_le (us.take i) qs k day
  rw [List.length_take] at hle
  refine H_seq (H_seq (R0 (xv (mvI rfl) (xv (mvS rfl) (xv (e_len Tryz.underlying36 (q0 rfl)) (xv (e_lt (q0 rfl) (q0 rfl)) (XN (thenJ_normal (H_cond rfl (fun hlt => ?_) (fun hlt => ?_))))))))))
  · have hlt' : i < m := by simpa using hlt
    obtain ⟨b, off, x, rfl, hbl, hxi, hrx⟩ := hr.1.at_ hlt'
    obtain ⟨ub, uoff, u, rfl, hubl, hui, hru⟩ := hu.at_ hlt'
    have hxm := List.mem_of_getElem? hxi
    have hs := spOk_iff.1 (checkR_parts (hg x hxm)).1
    have hqi : qs[i]? = some (reqR x.r) := by rw [hqs]; simp [hxi]
    have hst := cntU_snoc hui hqi k day
    refine H_skip (thenJ_normal (H_seq (H_block (H_seq (R0 (xv (mvS rfl) (xv (mvI rfl) (xv (e_idx i Tryz.underlying22 Tryz.sizeOf3 (q0 rfl) (q0 rfl) (fun _ => ⟨rfl, hlt'⟩)) (xv (e_ld (v := .int .i64 u) Tryz.isAgg3 (q0 rfl) (by exact rc0 hru hubl rfl)) ?_)))))))))
    refine xv (mvI rfl) (xv (e_eq (q0 rfl) (q0 rfl)) (xv (mvB rfl) (xt (mvS rfl) rfl rfl (xt (mvI rfl) rfl rfl (xt (e_idx i Tryz.underlying36 Tryz.sizeOf54 (q1 rfl) (q1 rfl) (fun _ => ⟨rfl, hlt'⟩)) rfl rfl (xt (e_fld Tryz.underlying54 rfl Tryz.sizeOf50 rfl (q1 rfl)) rfl rfl (xt (e_fld Tryz.underlying50 rfl Tryz.sizeOf3 rfl (q1 rfl)) rfl rfl (xt (e_ld (v := .int .i64 x.r.start.lo) Tryz.isAgg3 (q1 rfl) (by exact rc (j := 2) hrx hbl rfl)) rfl rfl ?_))))))))
    refine xt (e_quo (q1 rfl) (q0 rfl) (fun _ => ⟨by omega, by omega, by omega⟩)) rfl rfl (xt (mvI rfl) rfl rfl (xt (e_eq (q1 rfl) (q1 rfl)) rfl rfl (xv (e_and (q0 rfl) rfl (fun h => by first | rfl | (rw [h]; rfl))) ?_)))
    refine XN (thenJ_normal (H_cond rfl (fun hc => ?_) (fun hc => ?_)))
    · have hc' : u = k ∧ (reqR x.r).day = day := by unfold reqR; simpa using hc
      rw [if_pos hc'] at hst
      refine R0 (xv (mvI rfl) (xv (e_add (q0 rfl) (q0 rfl) (fun _ => ⟨rfl, by omega, by omega⟩)) (xv (asI rfl) (XN (blockJ_normal (thenJ_normal (R0 (xv (mvI rfl) (xv (e_add (q0 rfl) (q0 rfl) (fun _ => ⟨rfl, by omega, by omega⟩)) ?_)))))))))
      refine xv (asI rfl) (XN ?_)
      exact loopJ_normal (i + 1) agr ⟨rfl, by rw [hst]; rfl, trivial⟩ (fun w hw => hw) rfl (by show i + 1 ≤ m; omega) (by show m - (i + 1) < m - i; omega)
    · have hc' : ¬ (u = k ∧ (reqR x.r).day = day) := by unfold reqR; simpa using hc
      rw [if_neg hc', Nat.add_zero] at hst
      refine H_skip (blockJ_normal (thenJ_normal (R0 (xv (mvI rfl) (xv (e_add (q0 rfl) (q0 rfl) (fun _ => ⟨rfl, by omega, by omega⟩)) (xv (asI rfl) (XN ?_)))))))
      exact loopJ_normal (i + 1) agr ⟨rfl, by rw [hst]; rfl, trivial⟩ (fun w hw => hw) rfl (by show i + 1 ≤ m; omega) (by show m - (i + 1) < m - i; omega)
  · have hend : i = m := by simp at hlt; omega
    rw [hend, ← hul, List.take_length]
    refine H_exit (thenJ_exit (loopJ_exit (blockJ_hit (thenJ_normal (H_seq (R0 (xv (mvI rfl) (xv (asI rfl) (XN ?_)))))))))
    refine thenJ_normal (H_ret ?_)
    exact ret1 (v := .int _ _) rfl rfl rfl fun w' hw => ⟨rfl, hw.1⟩
set_option maxRecDepth 20000 in
theorem rnext_w (B : Option Addr) (m d : Nat) (rs : List RX) (D : Option Addr) (e n : Nat) (w : World) (hr : RdsAt w B m rs) (hd : SlAt w 1 encB D m (dnB m n)) (hn : n < m) (hs : rs.Pairwise fun x y => rideLt x.r y.r = true) : Calls Tryz.prog 104 #[.slice B m d, .slice D m e] w fun e w' => e = .returned (.int .i64 n) ∧ Bel w w' := by
  have hl := hr.1.1
  have hn2 := hr.1.2.1
  refine H_enter Tryz.func104 rfl Tryz.ntmps104 rfl (H_seq (R0 (xv (asI rfl) (XN (thenJ_normal (H_seq (R0 (xv (asI rfl) (XN ?_)))))))))
  refine thenJ_normal (H_seq (H_seq (R0 (xv (asI rfl) (XN (thenJ_normal (H_block (H_loop [5, 6, 7, 8, 9, 10, 11, 12, 13, 14, 15, 16, 17, 18, 19, 20, 21, 22, 23, 24, 25, 26, 27, 28, 29, 30, 31, 32, 33] (fun i : Nat => [(6, .int .i64 i), (5, .int .i64 (if i ≤ n then -1 else (n : Int)))]) (fun _ => []) (fun i => i ≤ m) (fun i => m - i) 0 ⟨rfl, by rw [if_pos (Nat.zero_le _)]; rfl, trivial⟩ (fun w hw => hw) rfl (Nat.zero_le _) ?_))))))))
  rintro i g hi
  obtain ⟨bv, hbv⟩ : ∃ bv : Int, bv = if i ≤ n then -1 else (n : Int) := ⟨_, rfl⟩
  rw [← hbv]
  refine H_seq (H_seq (R0 (xv (mvI rfl) (xv (mvS rfl) (xv (e_len Tryz.underlying36 (q0 rfl)) (xv (e_lt (q0 rfl) (q0 rfl)) (XN (thenJ_normal (H_cond rfl (fun hlt => ?_) (fun hlt => ?_))))))))))
  · have hlt' : i < m := by simpa using hlt
    obtain ⟨b, off, x, rfl, hbl, hxi, hrx⟩ := hr.1.at_ hlt'
    obtain ⟨b2, off2, y, hA, hbl2, hyn, hry⟩ := hr.1.at_ hn
    cases hA
    obtain ⟨db, doff, dv, rfl, hdbl, hdi, hrd⟩ := hd.at_ hlt'
    rw [dnB_get hlt'] at hdi
    cases hdi
    have hord : n < i → rideLt x.r y.r = false := fun h => by
      have h1 := List.pairwise_iff_getElem.1 hs n i (by omega) (by omega) h
      rw [(List.getElem?_eq_some_iff.1 hyn).2, (List.getElem?_eq_some_iff.1 hxi).2] at h1
      cases h2 : rideLt x.r y.r with
      | false => rfl
      | true =>
        have := rideLt_trans h1 h2
        unfold rideLt at this
        simp at this
    refine H_skip (thenJ_normal (H_seq (H_block (H_seq (R1 rfl (by decide +kernel) (xv (mvS rfl) (xv (mvI rfl) (xv (e_idx i Tryz.underlying151 Tryz.sizeOf4 (q0 rfl) (q0 rfl) (fun _ => ⟨rfl, hlt'⟩)) (xv (e_ld (v := .bool (decide (i < n))) Tryz.isAgg4 (q0 rfl) (by exact rc0 hrd hdbl rfl)) ?_)))))))))
    refine xv (e_not (q0 rfl)) (xv (mvB rfl) (xt (mvI rfl) rfl rfl (xt (e_lt (q1 rfl) (q0 rfl)) rfl rfl (xt (e_mv (v := .bool _) (q1 rfl)) rfl rfl (xVF2 (mvS rfl) rfl rfl rfl rfl (xVF2 (mvI rfl) rfl rfl rfl rfl (xVF2 (e_idx i Tryz.underlying36 Tryz.sizeOf54 (q1 rfl) (q1 rfl) (fun _ => ⟨rfl, hlt'⟩)) rfl rfl rfl rfl (xVF2 (e_lds (vs := x.cells) Tryz.isAgg54 Tryz.sizeOf54 (q1 rfl) (rcs hrx hbl) rfl) rfl rfl rfl rfl (xVF2 (mvS rfl) rfl rfl rfl rfl ?_)))))))))
    refine xVF2 (mvI rfl) rfl rfl rfl rfl (xVF2 (e_idx n Tryz.underlying36 Tryz.sizeOf54 (q1 rfl) (q1 rfl) (fun hg => by simp at hg; split at hbv <;> exact ⟨by omega, hn⟩)) rfl rfl rfl rfl (xVF2 (e_lds (vs := y.cells) Tryz.isAgg54 Tryz.sizeOf54 (q1 rfl) (rcs hry hbl) rfl) rfl rfl rfl rfl (xCF2 (en Tryz.call158 (ha2 (q1 (v := .agg _) rfl) (q1 (v := .agg _) rfl))) (fun _ w _ => rbefore_w x y w) rfl rfl rfl rfl (xt (e_or (q1 rfl) rfl (fun h => by first | rfl | (rw [h]; rfl))) rfl rfl ?_))))
    refine xv (e_and (q0 rfl) rfl (fun h => by first | rfl | (rw [h]; rfl))) ?_
    refine XN (thenJ_normal (H_cond rfl (fun hc => ?_) (fun hc => ?_)))
    · have hin : i = n := by
        simp at hc
        rcases Nat.lt_trichotomy i n with h | h | h
        · omega
        · exact h
        · rw [hord h] at hc
          rw [if_neg (by omega)] at hbv
          simp at hc
          omega
      refine R0 (xv (mvI rfl) (xv (asI rfl) (XN (blockJ_normal (thenJ_normal (R0 (xv (mvI rfl) (xv (e_add (q0 rfl) (q0 rfl) (fun _ => ⟨rfl, by omega, by omega⟩)) (xv (asI rfl) ?_)))))))))
      refine XN ?_
      exact loopJ_normal (i + 1) agr ⟨rfl, by rw [if_neg (by omega), hin]; rfl, trivial⟩ (fun w hw => hw) rfl (by show i + 1 ≤ m; omega) (by show m - (i + 1) < m - i; omega)
    · have hin : i ≠ n := fun h => by
        subst h
        rw [if_pos (Nat.le_refl _)] at hbv
        rw [hbv] at hc
        simp at hc
      refine H_skip (blockJ_normal (thenJ_normal (R0 (xv (mvI rfl) (xv (e_add (q0 rfl) (q0 rfl) (fun _ => ⟨rfl, by omega, by omega⟩)) (xv (asI rfl) (XN ?_)))))))
      exact loopJ_normal (i + 1) agr ⟨rfl, by rw [show (if i + 1 ≤ n then (-1 : Int) else (n : Int)) = bv by rw [hbv]; split <;> split <;> first | rfl | omega]; rfl, trivial⟩ (fun w hw => hw) rfl (by show i + 1 ≤ m; omega) (by show m - (i + 1) < m - i; omega)
  · have hend : i = m := by simp at hlt; omega
    rw [hend, if_neg (by omega)] at hbv
    rw [hbv]
    refine H_exit (thenJ_exit (loopJ_exit (blockJ_hit (thenJ_normal (H_seq (R0 (xv (mvI rfl) (xv (asI rfl) (XN ?_)))))))))
    refine thenJ_normal (H_ret ?_)
    exact ret1 (v := .int _ _) rfl rfl rfl fun w' hw => ⟨rfl, hw.1⟩

end Go.Proofs.Far

/-
  The walks: the reference's Use of passes, all rides.
-/
namespace Go.Proofs.Far
open Go Go.RowKit Go.Proofs.E Go.Proofs.Cus Go.Proofs.Rid

attribute [local irreducible] OV US cntU paidN dnB mns condP validP pickP
set_option maxHeartbeats 2000000 in
set_option maxRecDepth 20000 in
theorem ruse_w (A : Option Addr) (n c : Nat) (l : List Pas) (B : Option Addr) (m d : Nat) (rs : List RX) (w : World) (hp : PassAt w A n l) (hr : RdsAt w B m rs) (hpe : pasErr l = 0) (hg : Good (rs.map (·.r))) (hs : rs.Pairwise fun x y => rideLt x.r y.r = true) :
    Calls Tryz.prog 60 #[.slice A n c, .slice B m d] w fun e w' => ∃ z : Nat, e = .returned (.tuple #[.slice (some ⟨z, 0, none⟩) m m, .int .i64 0]) ∧ Mem w [intRow (some ⟨z, 0, none⟩) m (useS l (rs.map fun x => reqR x.r)).1] w' := by
  have hl := hr.1.1
  have hn := hr.1.2.1
  have hln := hp.1
  have hln2 := hp.2.1
  have hfew := hg.few
  rw [List.length_map] at hfew
  have hgr : ∀ r ∈ rs, checkR r.r = 0 := fun r hr => hg.ok r.r (List.mem_map.2 ⟨r, hr, rfl⟩)
  obtain ⟨qs, hqs⟩ : ∃ qs : List Rq, qs = rs.map fun x => reqR x.r := ⟨_, rfl⟩
  have hql : qs.length = m := by rw [hqs, List.length_map, hl]
  rw [← hqs, ← OV_full, hql]
  refine H_enter Tryz.func60 rfl Tryz.ntmps60 rfl (H_seq (R0 (xv (asS rfl) (xv (asI rfl) (XN (thenJ_normal (H_seq (R0 (xv (mvS rfl) ?_)))))))))
  refine xC (en Tryz.call36 (ha1 (q0 rfl))) (fun _ w hw => rpcheck_w A n c l w (hp.mem hw)) rfl rfl ?_
  rw [hpe]
  refine xv (asI rfl) (XN (thenJ_normal (H_seq (H_seq (R0 (xv (mvI rfl) (xv (e_eq (q0 rfl) (q0 rfl)) (XN (thenJ_normal ?_)))))))))
  refine H_cond rfl (fun h1 => ?_) (fun h1 => ?_)
  · refine R0 (xv (mvS rfl) (xC (en Tryz.call103 (ha1 (q0 rfl))) (fun _ w hw => rrides_w B m d rs w (hr.mem hw) hg) rfl rfl (xv (asI rfl) (XN (thenJ_normal (H_seq (H_seq (R0 (xv (mvI rfl) ?_)))))))))
    refine xv (e_ne (q0 rfl) (q0 rfl)) (XN (thenJ_normal (H_cond rfl (fun h2 => ?_) (fun h2 => ?_))))
    · exfalso; simp at h2
    · have _ht : True := trivial
      refine H_skip (thenJ_normal (H_seq (H_cut [7, 8, 22, 23, 24, 25, 26, 27] (fun s : Nat × Nat => [(7, .slice (some ⟨s.1, 0, none⟩) m m), (8, .slice (some ⟨s.2, 0, none⟩) m m)]) (fun s => [intRow (some ⟨s.1, 0, none⟩) m (mns m 0), blRow (some ⟨s.2, 0, none⟩) m (dnB m 0)]) (fun _ => True) ?_ ?_)))
      · refine RA rfl (by decide +kernel) (aV 0 (by decide +kernel) rfl (mvS rfl) rfl (aV 1 (by decide +kernel) rfl (e_len Tryz.underlying36 (q0 rfl)) rfl (aV 3 (by decide +kernel) rfl (mvS rfl) rfl (aV 4 (by decide +kernel) rfl (e_len Tryz.underlying36 (q0 rfl)) rfl (rdy2 (i := 2) (j := 5) (by decide +kernel) (sub_drop 0) ?_ ?_)))))
        · refine aL rfl (f_make (i := Tryz.t3) (k := 1) (n := m) (m := m) encInt (0 : Int) Tryz.underlying22 (by kernel_rfl) rfl rfl rfl rfl rfl ⟨⟨Nat.le_refl _, by omega⟩, by decide⟩ rfl fun b24 => (aV 6 (by decide +kernel) rfl (asS rfl) rfl (rdy1 (i := 5) (by decide +kernel) (sub_drop 1) (aL rfl (f_make (i := Tryz.t4) (k := 1) (n := m) (m := m) encB false Tryz.underlying151 (by kernel_rfl) rfl rfl rfl rfl rfl ⟨⟨Nat.le_refl _, by omega⟩, by decide⟩ rfl fun b27 => (aI 1 (aRL (sub_drop 2) (aV 7 (by decide +kernel) rfl (asS rfl) rfl (aZ (by decide +kernel) (sub_drop 0) ?_)))))))))
          exact cutJ_normal ((b24, b27) : Nat × Nat) agr ⟨rfl, rfl, trivial⟩ (fun w hw => by rw [mns_zero, dnB_zero]; exact hw) rfl trivial
        · refine aL rfl (f_make (i := Tryz.t4) (k := 1) (n := m) (m := m) encB false Tryz.underlying151 (by kernel_rfl) rfl rfl rfl rfl rfl ⟨⟨Nat.le_refl _, by omega⟩, by decide⟩ rfl fun b27 => (rdy1 (i := 2) (by decide +kernel) (sub_drop 1) (aL rfl (f_make (i := Tryz.t3) (k := 1) (n := m) (m := m) encInt (0 : Int) Tryz.underlying22 (by kernel_rfl) rfl rfl rfl rfl rfl ⟨⟨Nat.le_refl _, by omega⟩, by decide⟩ rfl fun b24 => (aRL (sub_drop 2) (aV 6 (by decide +kernel) rfl (asS rfl) rfl (aV 7 (by decide +kernel) rfl (asS rfl) rfl (aZ (by decide +kernel) (sub_drop 0) ?_))))))))
          exact cutJ_normal ((b24, b27) : Nat × Nat) agr ⟨rfl, rfl, trivial⟩ (fun w hw => by rw [mns_zero, dnB_zero]; exact hw) rfl trivial
      · rintro ⟨ub, db⟩ g0 _
        refine thenJ_normal (H_seq (H_seq (R0 (xv (asI rfl) (XN (thenJ_normal (H_block (H_loop [9, 28, 29, 30, 31, 32, 33, 34, 35, 36] (fun k : Nat => [(9, .int .i64 k)]) (fun k => [intRow (some ⟨ub, 0, none⟩) m (mns m k), blRow (some ⟨db, 0, none⟩) m (dnB m 0)]) (fun k => k ≤ m) (fun k => m - k) 0 ⟨rfl, trivial⟩ (fun w hw => hw) rfl (Nat.zero_le _) ?_))))))))
        rintro k g hk
        refine H_seq (H_seq (R0 (xv (mvI rfl) (xv (mvS rfl) (xv (e_len Tryz.underlying36 (q0 rfl)) (xv (e_lt (q0 rfl) (q0 rfl)) (XN (thenJ_normal (H_cond rfl (fun hlt => ?_) (fun hlt => ?_))))))))))
        · have hlt' : k < m := by simpa using hlt
          have hget := mns_get hlt'
          refine H_skip (thenJ_normal (H_seq (H_block (R0 (xv (mvS rfl) (xv (mvI rfl) (xv (e_idx k Tryz.underlying22 Tryz.sizeOf3 (q0 rfl) (q0 rfl) (fun _ => ⟨rfl, hlt'⟩)) (X_eff (f_storeR0 0 (k := 1) (enc := encInt) (-1 : Int) rfl rfl Tryz.sizeOf3 rfl rfl rfl hget rfl rfl (XN ?_))))))))))
          refine blockJ_normal (thenJ_normal (R0 (xv (mvI rfl) (xv (e_add (q0 rfl) (q0 rfl) (fun _ => ⟨rfl, by omega, by omega⟩)) (xv (asI rfl) (XN ?_))))))
          exact loopJ_normal (k + 1) agr ⟨rfl, trivial⟩ (fun w hw => by rw [← mns_set hlt']; exact hw) rfl (by show k + 1 ≤ m; omega) (by show m - (k + 1) < m - k; omega)
        · have hend : k = m := by simp at hlt; omega
          rw [hend]
          refine H_exit (thenJ_exit (loopJ_exit (blockJ_hit (thenJ_normal (H_seq (H_seq (R0 (xv (asI rfl) (XN ?_)))))))))
          refine thenJ_normal (H_block (H_loop [10, 11, 12, 37, 38, 39, 40, 41, 42, 43, 44, 45, 46, 47, 48, 49, 50, 51, 52, 53, 54, 55, 56, 57, 58, 59, 60, 61, 62, 63, 64, 65, 66, 67, 68, 69, 70, 71, 72, 73, 74, 75, 76, 77, 78, 79, 80, 81, 82, 83, 84, 85, 86, 87, 88, 89, 90, 91, 92, 93] (fun i : Nat => [(10, .int .i64 i)]) (fun i => [intRow (some ⟨ub, 0, none⟩) m (OV l qs i), blRow (some ⟨db, 0, none⟩) m (dnB m i)]) (fun i => i ≤ m) (fun i => m - i) 0 ⟨rfl, trivial⟩ (fun w hw => by rw [OV_zero, hql, ← mns_full]; exact hw) rfl (Nat.zero_le _) ?_))
          rintro i g2 hi
          refine H_seq (H_seq (R0 (xv (mvI rfl) (xv (mvS rfl) (xv (e_len Tryz.underlying36 (q0 rfl)) (xv (e_lt (q0 rfl) (q0 rfl)) (XN (thenJ_normal (H_cond rfl (fun hlt2 => ?_) (fun hlt2 => ?_))))))))))
          · have hlt2' : i < m := by simpa using hlt2
            obtain ⟨rb, off, x, rfl, hrbl, hxi, hrx⟩ := hr.1.at_ hlt2'
            have hxm := List.mem_of_getElem? hxi
            have hc := hgr x hxm
            have hsx := spOk_iff.1 (checkR_parts hc).1
            have hqi : qs[i]? = some (reqR x.r) := by rw [hqs]; simp [hxi]
            have hog := OV_get (l := l) (qs := qs) (k := i) (by omega)
            have hol := OV_len (l := l) (qs := qs) (k := i) (by omega)
            have hsame := OV_same (l := l) (qs := qs) (k := i) (by omega)
            have hset := OV_set (l := l) (k := i) (by omega) hqi
            have hdl := dnB_len (m := m) (k := i) hi
            have hdg := dnB_get (m := m) (k := i) (i := i) hlt2'
            have hds := dnB_set hlt2'
            have hlo : ∀ u : Int, ((OV l qs i).set i u).length = m := fun u => by rw [List.length_set, hol, hql]
            refine H_skip (thenJ_normal (H_seq (H_block (H_seq (R0 (xv (mvS rfl) (xv (mvS rfl) (xC (en Tryz.call104 (ha2 (q0 rfl) (q0 rfl))) (fun _ w hw => rnext_w _ m d rs _ _ i w (hr.mem hw) (by have h := slAt_row hw (j := 1) rfl (fun _ => rfl) (by omega); rw [hdl] at h; exact h) hlt2' hs) rfl rfl (xv (asI rfl) ?_)))))))))
            refine XN (thenJ_normal (H_seq (R0 (xv (mvS rfl) (xv (mvI rfl) (xv (e_idx i Tryz.underlying151 Tryz.sizeOf4 (q0 rfl) (q0 rfl) (fun _ => ⟨rfl, hlt2'⟩)) (X_eff (f_storeR0 1 (k := 1) (enc := encB) true rfl rfl Tryz.sizeOf4 rfl rfl rfl hdg rfl rfl (XN (thenJ_normal ?_))))))))))
            refine H_seq (R0 (xv (asI rfl) (XN (thenJ_normal (H_block (H_loop [12, 49, 50, 51, 52, 53, 54, 55, 56, 57, 58, 59, 60, 61, 62, 63, 64, 65, 66, 67, 68, 69, 70, 71, 72, 73, 74, 75, 76, 77, 78, 79, 80, 81, 82, 83, 84, 85, 86, 87, 88, 89, 90, 91, 92, 93] (fun s : Nat × Int => [(12, .int .i64 s.1)]) (fun s => [intRow (some ⟨ub, 0, none⟩) m ((OV l qs i).set i s.2), blRow (some ⟨db, 0, none⟩) m ((dnB m i).set i true)]) (fun s => s.1 ≤ n ∧ ((s.2 = -1 ∧ ∀ j, j < s.1 → condP l (US l qs i).2 (reqR x.r) j = false) ∨ (0 ≤ s.2 ∧ s.2 = pickP l (US l qs i).2 (reqR x.r)))) (fun s => n - s.1) (0, -1) ⟨rfl, trivial⟩ (fun w hw => by rw [hsame]; exact hw) rfl ⟨Nat.zero_le _, .inl ⟨rfl, fun j hj => by omega⟩⟩ ?_))))))
            rintro ⟨j, u⟩ g3 ⟨hj, hu⟩
            simp only at hj hu
            have hgu : ((OV l qs i).set i u)[i]? = some u := List.getElem?_set_self (by omega)
            refine H_seq (H_seq (R0 (xv (mvI rfl) (xv (mvS rfl) (xv (e_len Tryz.underlying26 (q0 rfl)) (xv (e_lt (q0 rfl) (q0 rfl)) (xv (mvB rfl) (xt (mvS rfl) rfl rfl (xt (mvI rfl) rfl rfl ?_)))))))))
            refine xt (e_idx i Tryz.underlying22 Tryz.sizeOf3 (q1 rfl) (q1 rfl) (fun _ => ⟨rfl, hlt2'⟩)) rfl rfl (xt (e_ld (v := .int .i64 u) Tryz.isAgg3 (q1 rfl) (by exact rr0 0 (enc := encInt) rfl hgu rfl)) rfl rfl ?_)
            refine xt (e_lt (q1 rfl) (q0 rfl)) rfl rfl (xv (e_and (q0 rfl) rfl (fun h => by first | rfl | (rw [h]; rfl))) ?_)
            refine XN (thenJ_normal (H_cond rfl (fun h3 => ?_) (fun h3 => ?_)))
            · have h3' : j < n ∧ u < 0 := by simp at h3; omega
              have hun : u = -1 ∧ ∀ k, k < j → condP l (US l qs i).2 (reqR x.r) k = false := by
                rcases hu with h | h
                · exact h
                · omega
              obtain ⟨rfl, hbef⟩ := hun
              rw [hsame]
              obtain ⟨pb, poff, p, rfl, hpbl, hpj, hrp⟩ := hp.at_ h3'.1
              have hpd : l.getD j default = p := by rw [List.getD_eq_getElem?_getD, hpj]; rfl
              have hcnt := OV_cnt (l := l) (qs := qs) (k := (j : Int)) (by omega) (x.r.start.lo / 86400) (n := i) (by omega)
              have hcd : condP l (US l qs i).2 (reqR x.r) j = (validP p (reqR x.r) && decide ((cntU (OV l qs i) qs (j : Int) (x.r.start.lo / 86400) : Int) < p.perDay)) := by
                unfold condP
                rw [hpd, hcnt]; rfl
              refine H_skip (thenJ_normal (H_seq (H_block (H_seq (R1 rfl (by decide +kernel) (xv (mvS rfl) (xv (mvI rfl) (xv (e_idx j Tryz.underlying26 Tryz.sizeOf81 (q0 rfl) (q0 rfl) (fun _ => ⟨rfl, h3'.1⟩)) (xv (e_lds (vs := p.cells) Tryz.isAgg81 Tryz.sizeOf81 (q0 rfl) (rcs hrp hpbl) rfl) ?_)))))))))
              refine xv (mvS rfl) (xv (mvI rfl) (xv (e_idx i Tryz.underlying36 Tryz.sizeOf54 (q0 rfl) (q0 rfl) (fun _ => ⟨rfl, hlt2'⟩)) (xv (e_lds (vs := x.cells) Tryz.isAgg54 Tryz.sizeOf54 (q0 rfl) (rcs hrx hrbl) rfl) (xC (en Tryz.call105 (ha2 (q0 rfl) (q0 rfl))) (fun _ w _ => rvalidP_w p x w hc) rfl rfl (xv (mvB rfl) (xt (mvS rfl) rfl rfl (xt (mvS rfl) rfl rfl (xt (mvI rfl) rfl rfl (xt (mvS rfl) rfl rfl ?_)))))))))
              refine xt (mvI rfl) rfl rfl (xt (e_idx i Tryz.underlying36 Tryz.sizeOf54 (q1 rfl) (q1 rfl) (fun _ => ⟨rfl, hlt2'⟩)) rfl rfl (xt (e_fld Tryz.underlying54 rfl Tryz.sizeOf50 rfl (q1 rfl)) rfl rfl (xt (e_fld Tryz.underlying50 rfl Tryz.sizeOf3 rfl (q1 rfl)) rfl rfl (xt (e_ld (v := .int .i64 x.r.start.lo) Tryz.isAgg3 (q1 rfl) (by exact rc (j := 2) hrx hrbl rfl)) rfl rfl ?_))))
              refine xt (e_quo (q1 rfl) (q0 rfl) (fun _ => ⟨by omega, by omega, by omega⟩)) rfl rfl (xCT (en Tryz.call106 (ha4 (q1 (v := .slice _ _ _) rfl) (q1 (v := .slice _ _ _) rfl) (q1 (v := .int _ _) rfl) (q1 (v := .int _ _) rfl))) (fun _ w hw => hqs ▸ rpaid_w _ m d rs _ _ (OV l qs i) (j : Int) (x.r.start.lo / 86400) w (hr.mem hw) (by have h := slAt_row hw (j := 0) rfl (fun _ => rfl) (by omega); rw [hol, hql] at h; exact h) hgr) rfl rfl rfl rfl (xt (mvS rfl) rfl rfl (xt (mvI rfl) rfl rfl (xt (e_idx j Tryz.underlying26 Tryz.sizeOf81 (q1 rfl) (q1 rfl) (fun _ => ⟨rfl, h3'.1⟩)) rfl rfl (xt (e_fld Tryz.underlying81 rfl Tryz.sizeOf3 rfl (q1 rfl)) rfl rfl (xt (e_ld (v := .int .i64 p.perDay) Tryz.isAgg3 (q1 rfl) (by exact rc (j := 4) hrp hpbl rfl)) rfl rfl ?_))))))
              refine xt (e_lt (q1 rfl) (q1 rfl)) rfl rfl (xv (e_and (q0 rfl) rfl (fun h => by first | rfl | (rw [h]; rfl))) ?_)
              refine XN (thenJ_normal (H_cond rfl (fun h4 => ?_) (fun h4 => ?_)))
              · have h4' : condP l (US l qs i).2 (reqR x.r) j = true := by rw [hcd]; rw [← hqs] at h4; exact h4
                have hpk := pick_at (l := l) (used := (US l qs i).2) (q := reqR x.r) (by omega) h4' hbef
                refine R0 (xv (mvS rfl) (xv (mvI rfl) (xv (mvI rfl) (xv (e_idx i Tryz.underlying22 Tryz.sizeOf3 (q0 rfl) (q0 rfl) (fun _ => ⟨rfl, hlt2'⟩)) (X_eff (f_storeR0 0 (k := 1) (enc := encInt) (j : Int) rfl rfl Tryz.sizeOf3 rfl rfl rfl hog rfl rfl (XN (blockJ_normal (thenJ_normal (R0 ?_))))))))))
                refine xv (mvI rfl) (xv (e_add (q0 rfl) (q0 rfl) (fun _ => ⟨rfl, by omega, by omega⟩)) (xv (asI rfl) (XN ?_)))
                exact loopJ_normal (j + 1, (j : Int)) agr ⟨rfl, trivial⟩ (fun w hw => hw) rfl ⟨by show j + 1 ≤ n; omega, .inr ⟨by simp only; omega, hpk.symm⟩⟩ (by show n - (j + 1) < n - j; omega)
              · have h4' : condP l (US l qs i).2 (reqR x.r) j = false := by rw [hcd]; rw [← hqs] at h4; exact h4
                refine H_skip (blockJ_normal (thenJ_normal (R0 (xv (mvI rfl) (xv (e_add (q0 rfl) (q0 rfl) (fun _ => ⟨rfl, by omega, by omega⟩)) (xv (asI rfl) (XN ?_)))))))
                exact loopJ_normal (j + 1, -1) agr ⟨rfl, trivial⟩ (fun w hw => by rw [hsame]; exact hw) rfl ⟨by show j + 1 ≤ n; omega, .inl ⟨rfl, fun k hk => by
                  by_cases hkj : k = j
                  · rw [hkj]; exact h4'
                  · exact hbef k (by simp only at hk; omega)⟩⟩ (by show n - (j + 1) < n - j; omega)
            · have h3' : ¬ (j < n ∧ u < 0) := fun h => by simp [h.1, h.2] at h3
              have hup : u = pickP l (US l qs i).2 (reqR x.r) := by
                rcases hu with ⟨h, hh⟩ | ⟨h, hh⟩
                · rw [h, pick_none fun k hk => hh k (by omega)]
                · exact hh
              rw [hup, hset, hds]
              refine H_exit (thenJ_exit (loopJ_exit (blockJ_hit (blockJ_normal (thenJ_normal (R0 (xv (mvI rfl) (xv (e_add (q0 rfl) (q0 rfl) (fun _ => ⟨rfl, by omega, by omega⟩)) (xv (asI rfl) ?_)))))))))
              refine XN ?_
              exact loopJ_normal (i + 1) agr ⟨rfl, trivial⟩ (fun w hw => hw) rfl (by show i + 1 ≤ m; omega) (by show m - (i + 1) < m - i; omega)
          · have hend2 : i = m := by simp at hlt2; omega
            rw [hend2]
            refine H_exit (thenJ_exit (loopJ_exit (blockJ_hit (thenJ_normal (H_seq (R0 (xv (mvS rfl) (xv (asS rfl) (xv (asI rfl) ?_)))))))))
            refine XN (thenJ_normal (H_ret ?_))
            exact ret2 (v := .slice _ _ _) (x := .int _ _) rfl rfl rfl rfl fun w' hw => ⟨ub, rfl, hw.pick [0] (by decide)⟩
  · exfalso; simp at h1

end Go.Proofs.Far

/-
  The walks: the reference's limit of the day.
-/
namespace Go.Proofs.Far
open Go Go.RowKit Go.Proofs.E Go.Proofs.Cus Go.Proofs.Rid

theorem rfrom_w (n hi : Int) (w : World) : Calls Tryz.prog 163 #[.int .i64 n, .int .i64 hi] w fun e w' => e = .returned (.bool (inI n 0 hi)) ∧ Bel w w' := by
  refine H_enter Tryz.func163 rfl Tryz.ntmps163 rfl (H_seq (R0 (xv (asB rfl) (XN (thenJ_normal (H_seq (R0 (xv (mvI rfl) (xv (e_ge (q0 rfl) (q0 rfl)) ?_)))))))))
  refine xv (mvB rfl) (xt (mvI rfl) rfl rfl (xt (mvI rfl) rfl rfl (xt (e_le (q1 rfl) (q1 rfl)) rfl rfl (xv (e_and (q0 rfl) rfl (fun h => by first | rfl | (rw [h]; rfl))) ?_))))
  refine xv (asB rfl) (XN (thenJ_normal (H_ret ?_)))
  exact ret1 (v := .bool _) rfl rfl rfl fun w' hw => ⟨rfl, hw.1⟩
set_option maxHeartbeats 1000000 in
set_option maxRecDepth 20000 in
theorem rdcheck_w (limit : Int) (A : Option Addr) (a : Nat) (B : Option Addr) (b : Nat) (C : Option Addr) (c n : Nat) (xs : List Dy) (w : World) (hx : DyAt w A B C n xs) (he : dyErr limit xs = 0) : Calls Tryz.prog 112 #[.int .i64 limit, .slice A n a, .slice B n b, .slice C n c] w fun e w' => e = .returned (.int .i64 0) ∧ Bel w w' := by
  obtain ⟨hlim, hlen, hgood⟩ := dyErr_parts he
  have hl : xs.length = n := by have := hx.r.1; rw [List.length_map] at this; exact this
  have hin : inI limit 0 1000000000000 = true := inI_iff.2 hlim
  refine H_enter Tryz.func112 rfl Tryz.ntmps112 rfl (H_seq (R0 (xv (asI rfl) (XN (thenJ_normal (H_seq (H_seq (R0 (xv (mvI rfl) ?_)))))))))
  refine xC (en Tryz.call163 (ha2 (q0 rfl) (q0 rfl))) (fun _ w _ => rfrom_w limit 1000000000000 w) rfl rfl ?_
  rw [hin]
  refine xv (e_not (q0 rfl)) (XN (thenJ_normal (H_cond rfl (fun h1 => ?_) (fun h1 => ?_))))
  · exfalso; cases h1
  · refine H_skip (thenJ_normal (H_seq (H_seq (R0 (xv (mvS rfl) (xv (e_len Tryz.underlying22 (q0 rfl)) (xv (mvS rfl) (xv (e_len Tryz.underlying22 (q0 rfl)) (xv (e_ne (q0 rfl) (q0 rfl)) ?_)))))))))
    refine xv (mvB rfl) (xf (mvS rfl) rfl rfl (xf (e_len Tryz.underlying22 (q1 rfl)) rfl rfl (xf (mvS rfl) rfl rfl (xf (e_len Tryz.underlying22 (q1 rfl)) rfl rfl (xf (e_ne (q1 rfl) (q1 rfl)) rfl rfl (xv (e_or (q0 rfl) rfl (fun h => by first | rfl | (rw [h]; rfl))) ?_))))))
    refine XN (thenJ_normal (H_cond rfl (fun h2 => ?_) (fun h2 => ?_)))
    · exfalso; simp at h2
    · refine H_skip (thenJ_normal (H_seq (H_seq (R0 (xv (mvS rfl) (xv (e_len Tryz.underlying22 (q0 rfl)) (xv (e_gt (q0 rfl) (q0 rfl)) (XN (thenJ_normal ?_)))))))))
      refine H_cond rfl (fun h3 => ?_) (fun h3 => ?_)
      · exfalso; simp at h3; omega
      · refine H_skip (thenJ_normal (H_seq (H_seq (R0 (xv (asI rfl) (XN (thenJ_normal (H_block (H_loop [8, 9, 28, 29, 30, 31, 32, 33, 34, 35, 36, 37, 38, 39, 40, 41, 42, 43, 44, 45, 46, 47, 48, 49, 50, 51, 52, 53, 54, 55] (fun k : Nat => [(9, .int .i64 k)]) (fun _ => []) (fun k => k ≤ n) (fun k => n - k) 0 ⟨rfl, trivial⟩ (fun w hw => hw) rfl (Nat.zero_le _) ?_)))))))))
        rintro k g hk
        refine H_seq (H_seq (R0 (xv (mvI rfl) (xv (mvS rfl) (xv (e_len Tryz.underlying22 (q0 rfl)) (xv (e_lt (q0 rfl) (q0 rfl)) (XN (thenJ_normal (H_cond rfl (fun hlt => ?_) (fun hlt => ?_))))))))))
        · have hlt' : k < n := by simpa using hlt
          obtain ⟨x, hxk⟩ : ∃ x, xs[k]? = some x := ⟨_, List.getElem?_eq_getElem (by omega)⟩
          have hb := dyBad_parts (hgood x (List.mem_of_getElem? hxk))
          obtain ⟨ab, aoff, v1, rfl, habl, hv1, hra⟩ := hx.r.at_ hlt'
          obtain ⟨bb, boff, v2, rfl, hbbl, hv2, hrb⟩ := hx.d.at_ hlt'
          obtain ⟨cb, coff, v3, rfl, hcbl, hv3, hrc⟩ := hx.a.at_ hlt'
          have e1 : v1 = x.rider := by simpa [hxk] using hv1.symm
          have e2 : v2 = x.day := by simpa [hxk] using hv2.symm
          have e3 : v3 = x.amount := by simpa [hxk] using hv3.symm
          subst e1 e2 e3
          have i1 : inI x.rider 0 127 = true := inI_iff.2 hb.1
          have i2 : inI x.day 0 49709 = true := inI_iff.2 hb.2.1
          have i3 : inI x.amount 0 1000000000000 = true := inI_iff.2 hb.2.2
          refine H_skip (thenJ_normal (H_seq (H_block (H_seq (R0 (xv (mvS rfl) (xv (mvI rfl) (xv (e_idx _ Tryz.underlying22 Tryz.sizeOf3 (q0 rfl) (q0 rfl) (fun _ => ⟨rfl, by omega⟩)) (xv (e_ld (v := .int .i64 x.rider) Tryz.isAgg3 (q0 rfl) (by exact rc0 hra habl rfl)) ?_)))))))))
          refine xC (en Tryz.call163 (ha2 (q0 rfl) (q0 rfl))) (fun _ w _ => rfrom_w x.rider 127 w) rfl rfl (xv (e_not (q0 rfl)) (xv (mvB rfl) (xf (mvS rfl) rfl rfl (xf (mvI rfl) rfl rfl (xf (e_idx _ Tryz.underlying22 Tryz.sizeOf3 (q1 rfl) (q1 rfl) (fun _ => ⟨rfl, by omega⟩)) rfl rfl (xf (e_ld (v := .int .i64 x.day) Tryz.isAgg3 (q1 rfl) (by exact rc0 hrb hbbl rfl)) rfl rfl ?_))))))
          refine xCF (en Tryz.call163 (ha2 (q1 (v := .int _ _) rfl) (q0 rfl))) (fun _ w _ => rfrom_w x.day 49709 w) rfl rfl rfl rfl (xf (e_not (q1 rfl)) rfl rfl (xv (e_or (q0 rfl) rfl (fun h => by first | rfl | (rw [h]; rfl))) ?_))
          refine xv (mvB rfl) (xf (mvS rfl) rfl rfl (xf (mvI rfl) rfl rfl (xf (e_idx _ Tryz.underlying22 Tryz.sizeOf3 (q1 rfl) (q1 rfl) (fun _ => ⟨rfl, by omega⟩)) rfl rfl (xf (e_ld (v := .int .i64 x.amount) Tryz.isAgg3 (q1 rfl) (by exact rc0 hrc hcbl rfl)) rfl rfl ?_))))
          refine xCF (en Tryz.call163 (ha2 (q1 (v := .int _ _) rfl) (q0 rfl))) (fun _ w _ => rfrom_w x.amount 1000000000000 w) rfl rfl rfl rfl (xf (e_not (q1 rfl)) rfl rfl (xv (e_or (q0 rfl) rfl (fun h => by first | rfl | (rw [h]; rfl))) ?_))
          refine XN (thenJ_normal (H_cond rfl (fun h5 => ?_) (fun h5 => ?_)))
          · exfalso
            have h : ((!inI x.rider 0 127) || (!inI x.day 0 49709)) || (!inI x.amount 0 1000000000000) = true := by simpa using h5
            rw [i1, i2, i3] at h
            simp at h
          · refine H_skip (blockJ_normal (thenJ_normal (R0 (xv (mvI rfl) (xv (e_add (q0 rfl) (q0 rfl) (fun _ => ⟨rfl, by omega, by omega⟩)) (xv (asI rfl) (XN ?_)))))))
            exact loopJ_normal (k + 1) agr ⟨rfl, trivial⟩ (fun w hw => hw) rfl (by show k + 1 ≤ n; omega) (by show n - (k + 1) < n - k; omega)
        · refine H_exit (thenJ_exit (loopJ_exit (blockJ_hit (thenJ_normal (H_seq (R0 (xv (asI rfl) (XN (thenJ_normal ?_)))))))))
          refine H_ret ?_
          exact ret1 (v := .int _ _) rfl rfl rfl fun w' hw => ⟨rfl, hw.1⟩
theorem sumD_bound {M : Int} (hM : 0 ≤ M) (r d : Int) : ∀ l : List (Dy × Int), (∀ y ∈ l, 0 ≤ y.2 ∧ y.2 ≤ M) → 0 ≤ sumD l r d ∧ sumD l r d ≤ M * (l.length : Int)
  | [], _ => by unfold sumD; simp
  | y :: l, h => by
    have ih := sumD_bound hM r d l fun z hz => h z (List.mem_cons_of_mem _ hz)
    have hy := h y (by simp)
    have e1 : sumD (y :: l) r d = (if y.1.rider = r ∧ y.1.day = d then y.2 else 0) + sumD l r d := by
      unfold sumD
      rw [List.filter_cons]
      by_cases hb : y.1.rider = r ∧ y.1.day = d
      · rw [if_pos (by simp [hb.1, hb.2]), if_pos hb]; simp
      · have : (y.1.rider == r && y.1.day == d) = false := by
          cases hc : (y.1.rider == r && y.1.day == d) with
          | false => rfl
          | true => simp at hc; exact absurd hc hb
        rw [if_neg (by rw [this]; decide), if_neg hb]; simp
    have e2 : M * ((y :: l).length : Int) = M * (l.length : Int) + M := by
      rw [List.length_cons, Int.natCast_succ, Int.mul_add, Int.mul_one]
    rw [e1, e2]
    split <;> omega
attribute [local irreducible] DS payD sumD
set_option maxHeartbeats 1000000 in
set_option maxRecDepth 20000 in
theorem rdApply_w (limit : Int) (A : Option Addr) (a : Nat) (B : Option Addr) (b : Nat) (C : Option Addr) (c n : Nat) (xs : List Dy) (w : World) (hx : DyAt w A B C n xs) (he : dyErr limit xs = 0) : Calls Tryz.prog 64 #[.int .i64 limit, .slice A n a, .slice B n b, .slice C n c] w fun e w' => ∃ z : Option Addr × Nat, e = .returned (.tuple #[.slice z.1 ((dayS limit xs).map (·.2)).length z.2, .int .i64 0]) ∧ Mem w [intRow z.1 z.2 ((dayS limit xs).map (·.2))] w' := by
  obtain ⟨hlim, hlen, hgood⟩ := dyErr_parts he
  have hl : xs.length = n := by have := hx.r.1; rw [List.length_map] at this; exact this
  have hok := DS_ok hlim.1 (fun x hx => (dyBad_parts (hgood x hx)).2.2)
  have hdl := DS_len limit xs
  refine H_enter Tryz.func64 rfl Tryz.ntmps64 rfl (H_seq (R0 (xv (asS rfl) (xv (asI rfl) (XN (thenJ_normal (H_seq (H_seq (R0 ?_)))))))))
  refine xv (mvI rfl) (xv (mvS rfl) (xv (mvS rfl) (xv (mvS rfl) (xC (en Tryz.call112 (ha4 (q0 rfl) (q0 rfl) (q0 rfl) (q0 rfl))) (fun _ w hw => rdcheck_w limit A a B b C c n xs w (hx.mem hw) he) rfl rfl (xv (asI rfl) (XN (thenJ_normal (H_seq (R0 ?_)))))))))
  refine xv (mvI rfl) (xv (e_ne (q0 rfl) (q0 rfl)) (XN (thenJ_normal (H_cond rfl (fun h1 => ?_) (fun h1 => ?_)))))
  · exfalso; simp at h1
  · refine H_skip (thenJ_normal (H_seq (H_mem (L' := [intRow none 0 []]) (fun w hw => hw.nilRow 3 1 encInt rfl) rfl (R0 (xv (asS rfl) (XN (thenJ_normal (H_seq (H_seq ?_)))))))))
    refine R0 (xv (asI rfl) (XN (thenJ_normal (H_block (H_loop [11, 12, 13, 14, 15, 24, 25, 26, 27, 28, 29, 30, 31, 32, 33, 34, 35, 36, 37, 38, 39, 40, 41, 42, 43, 44, 45, 46, 47, 48, 49, 50, 51, 52, 53, 54, 55, 56, 57, 58, 59, 60, 61, 62, 63, 64, 65, 66, 67, 68, 69, 70, 71, 72, 73, 74, 75] (fun q : Nat × (Option Addr × Nat) => [(12, .int .i64 q.1), (11, .slice q.2.1 ((DS limit xs q.1).map (·.2)).length q.2.2)]) (fun q => [intRow q.2.1 q.2.2 ((DS limit xs q.1).map (·.2))]) (fun q => q.1 ≤ n) (fun q => n - q.1) (0, (none, 0)) ⟨rfl, by unfold DS; rfl, trivial⟩ (fun w hw => by unfold DS; exact hw) rfl (Nat.zero_le _) ?_)))))
    rintro ⟨i, ⟨oA, oc⟩⟩ g hi
    simp only at hi
    refine H_seq (H_seq (R0 (xv (mvI rfl) (xv (mvS rfl) (xv (e_len Tryz.underlying22 (q0 rfl)) (xv (e_lt (q0 rfl) (q0 rfl)) (XN (thenJ_normal (H_cond rfl (fun hlt => ?_) (fun hlt => ?_))))))))))
    · have hlt' : i < n := by simpa using hlt
      obtain ⟨x, hxi⟩ : ∃ x, xs[i]? = some x := ⟨_, List.getElem?_eq_getElem (by omega)⟩
      have hb := dyBad_parts (hgood x (List.mem_of_getElem? hxi))
      obtain ⟨ab, aoff, v1, rfl, habl, hv1, hra⟩ := hx.r.at_ hlt'
      obtain ⟨bb, boff, v2, rfl, hbbl, hv2, hrb⟩ := hx.d.at_ hlt'
      obtain ⟨cb, coff, v3, rfl, hcbl, hv3, hrc⟩ := hx.a.at_ hlt'
      have e1 : v1 = x.rider := by simpa [hxi] using hv1.symm
      have e2 : v2 = x.day := by simpa [hxi] using hv2.symm
      have e3 : v3 = x.amount := by simpa [hxi] using hv3.symm
      subst e1 e2 e3
      have hsucc := DS_succ (limit := limit) hxi
      have hO := hok i (by omega)
      have hpr := payD_range hO hb.2.2
      have hkl := hdl i (by omega)
      have hml : ((DS limit xs i).map (·.2)).length = i := by rw [List.length_map, hkl]
      have hfst : (DS limit xs i).map (·.1) = xs.take i := by unfold DS; exact dayS_fst limit (xs.take i)
      obtain ⟨l, hll⟩ : ∃ l, l = DS limit xs i := ⟨_, rfl⟩
      have hlp : ∀ y ∈ l, 0 ≤ y.2 ∧ y.2 ≤ 1000000000000 := fun y hy => by
        rw [hll] at hy
        have h1 := hO.pay y hy
        have h2 : y.1 ∈ xs.take i := by rw [← hfst]; exact List.mem_map.2 ⟨y, hy, rfl⟩
        have h3 := dyBad_parts (hgood y.1 (List.mem_of_mem_take h2))
        omega
      rw [← hll] at hkl hml hfst hpr hsucc
      rw [← hll]
      refine H_skip (thenJ_normal (H_seq (H_block (H_seq (R0 (xv (asI rfl) (XN (thenJ_normal (H_seq ?_)))))))))
      refine H_seq (R0 (xv (asI rfl) (XN (thenJ_normal (H_block (H_loop [13, 14, 30, 31, 32, 33, 34, 35, 36, 37, 38, 39, 40, 41, 42, 43, 44, 45, 46, 47, 48, 49, 50, 51, 52, 53, 54, 55, 56, 57, 58, 59, 60] (fun k : Nat => [(14, .int .i64 k), (13, .int .i64 (sumD (l.take k) x.rider x.day))]) (fun _ => [intRow oA oc (l.map (·.2))]) (fun k => k ≤ i) (fun k => i - k) 0 ⟨rfl, by unfold sumD; rfl, trivial⟩ (fun w hw => hw) rfl (Nat.zero_le _) ?_))))))
      rintro k g2 hk
      have hbd := sumD_bound (M := 1000000000000) (by omega) x.rider x.day (l.take k) fun y hy => hlp y (List.mem_of_mem_take hy)
      rw [List.length_take] at hbd
      refine H_seq (H_seq (R0 (xv (mvI rfl) (xv (mvI rfl) (xv (e_lt (q0 rfl) (q0 rfl)) (XN (thenJ_normal (H_cond rfl (fun hlt2 => ?_) (fun hlt2 => ?_)))))))))
      · have hlt2' : k < i := by simpa using hlt2
        obtain ⟨y, hyk⟩ : ∃ y, l[k]? = some y := ⟨_, List.getElem?_eq_getElem (by omega)⟩
        have hxk : xs[k]? = some y.1 := by
          have h : (l.map (·.1))[k]? = some y.1 := by simp [hyk]
          rw [hfst, List.getElem?_take, if_pos hlt2'] at h
          exact h
        have hok2 : (l.map (·.2))[k]? = some y.2 := by simp [hyk]
        have hyp := hlp y (List.mem_of_getElem? hyk)
        obtain ⟨b1, o1, u1, hA1, hbl1, hu1, hr1⟩ := hx.r.at_ (show k < n by omega)
        cases hA1
        obtain ⟨b2, o2, u2, hA2, hbl2, hu2, hr2⟩ := hx.d.at_ (show k < n by omega)
        cases hA2
        have f1 : u1 = y.1.rider := by simpa [hxk] using hu1.symm
        have f2 : u2 = y.1.day := by simpa [hxk] using hu2.symm
        subst f1 f2
        have hst : sumD (l.take (k + 1)) x.rider x.day = sumD (l.take k) x.rider x.day + if y.1.rider = x.rider ∧ y.1.day = x.day then y.2 else 0 := by
          rw [snocT _ _ _ hyk]
          exact sumD_snoc (l.take k) y.1 y.2 x.rider x.day
        refine H_know (fun w hw => rowT_at (j := 0) hw rfl (by omega)) fun ⟨ob, hob⟩ => ?_
        subst hob
        refine H_skip (thenJ_normal (H_seq (H_block (H_seq (R1 rfl (by decide +kernel) (xv (mvS rfl) (xv (mvI rfl) (xv (e_idx k Tryz.underlying22 Tryz.sizeOf3 (q0 rfl) (q0 rfl) (fun _ => ⟨rfl, by omega⟩)) (xv (e_ld (v := .int .i64 y.1.rider) Tryz.isAgg3 (q0 rfl) (by exact rc0 hr1 habl rfl)) ?_)))))))))
        refine xv (mvS rfl) (xv (mvI rfl) (xv (e_idx i Tryz.underlying22 Tryz.sizeOf3 (q0 rfl) (q0 rfl) (fun _ => ⟨rfl, hlt'⟩)) (xv (e_ld (v := .int .i64 x.rider) Tryz.isAgg3 (q0 rfl) (by exact rc0 hra habl rfl)) ?_)))
        refine xv (e_eq (q0 rfl) (q0 rfl)) (xv (mvB rfl) (xt (mvS rfl) rfl rfl (xt (mvI rfl) rfl rfl (xt (e_idx k Tryz.underlying22 Tryz.sizeOf3 (q1 rfl) (q1 rfl) (fun _ => ⟨rfl, by omega⟩)) rfl rfl (xt (e_ld (v := .int .i64 y.1.day) Tryz.isAgg3 (q1 rfl) (by exact rc0 hr2 hbbl rfl)) rfl rfl ?_)))))
        refine xt (mvS rfl) rfl rfl (xt (mvI rfl) rfl rfl (xt (e_idx i Tryz.underlying22 Tryz.sizeOf3 (q1 rfl) (q1 rfl) (fun _ => ⟨rfl, hlt'⟩)) rfl rfl (xt (e_ld (v := .int .i64 x.day) Tryz.isAgg3 (q1 rfl) (by exact rc0 hrb hbbl rfl)) rfl rfl ?_)))
        refine xt (e_eq (q1 rfl) (q1 rfl)) rfl rfl (xv (e_and (q0 rfl) rfl (fun h => by first | rfl | (rw [h]; rfl))) ?_)
        refine XN (thenJ_normal (H_cond rfl (fun hc => ?_) (fun hc => ?_)))
        · have hc' : y.1.rider = x.rider ∧ y.1.day = x.day := by simpa using hc
          rw [if_pos hc'] at hst
          refine R0 (xv (mvI rfl) (xv (mvS rfl) (xv (mvI rfl) (xv (e_idx k Tryz.underlying22 Tryz.sizeOf3 (q0 rfl) (q0 rfl) (fun _ => ⟨rfl, by omega⟩)) (xv (e_ld (v := .int .i64 y.2) Tryz.isAgg3 (q0 rfl) (by exact rr0 0 (enc := encInt) rfl hok2 rfl)) ?_)))))
          refine xv (e_add (r := sumD (l.take k) x.rider x.day + y.2) (q0 rfl) (q0 rfl) (fun _ => ⟨rfl, by omega, by omega⟩)) (xv (asI rfl) (XN (blockJ_normal (thenJ_normal (R0 (xv (mvI rfl) (xv (e_add (q0 rfl) (q0 rfl) (fun _ => ⟨rfl, by omega, by omega⟩)) (xv (asI rfl) (XN ?_)))))))))
          exact loopJ_normal (k + 1) agr ⟨rfl, by rw [hst]; rfl, trivial⟩ (fun w hw => hw) rfl (by show k + 1 ≤ i; omega) (by show i - (k + 1) < i - k; omega)
        · have hc' : ¬ (y.1.rider = x.rider ∧ y.1.day = x.day) := by simpa using hc
          rw [if_neg hc', Int.add_zero] at hst
          refine H_skip (blockJ_normal (thenJ_normal (R0 (xv (mvI rfl) (xv (e_add (q0 rfl) (q0 rfl) (fun _ => ⟨rfl, by omega, by omega⟩)) (xv (asI rfl) (XN ?_)))))))
          exact loopJ_normal (k + 1) agr ⟨rfl, by rw [hst]; rfl, trivial⟩ (fun w hw => hw) rfl (by show k + 1 ≤ i; omega) (by show i - (k + 1) < i - k; omega)
      · have hend : k = i := by simp at hlt2; omega
        subst hend
        have hlt : l.take k = l := by rw [← hkl, List.take_length]
        rw [hlt] at hbd
        rw [hlt]
        have hmap : (DS limit xs (k + 1)).map (·.2) = l.map (·.2) ++ [payD limit l x] := by rw [hsucc, List.map_append]; rfl
        refine H_exit (thenJ_exit (loopJ_exit (blockJ_hit (thenJ_normal (H_seq (R0 (xv (mvS rfl) (xv (mvI rfl) (xv (e_idx k Tryz.underlying22 Tryz.sizeOf3 (q0 rfl) (q0 rfl) (fun _ => ⟨rfl, hlt'⟩)) ?_)))))))))
        refine xv (e_ld (v := .int .i64 x.amount) Tryz.isAgg3 (q0 rfl) (by exact rc0 hrc hcbl rfl)) ?_
        refine xv (asI rfl) (XN (thenJ_normal (H_seq (H_seq (R0 (xv (mvI rfl) (xv (e_gt (q0 rfl) (q0 rfl)) (XN (thenJ_normal ?_)))))))))
        refine H_cut [15, 67, 68, 69, 70, 71] (fun _ : Unit => [(15, .int .i64 (payD limit l x))]) (fun _ => [intRow oA oc (l.map (·.2))]) (fun _ => True) ?_ ?_
        · refine H_cond rfl (fun h2 => ?_) (fun h2 => ?_)
          · have h2' : 0 < limit := by simpa using h2
            have hpay : payD limit l x = min x.amount (limit - sumD l x.rider x.day) := by unfold payD; rw [if_pos h2']
            refine R0 (xv (mvI rfl) (xv (mvI rfl) (xv (mvI rfl) (xv (e_sub (r := limit - sumD l x.rider x.day) (q0 rfl) (q0 rfl) (fun _ => ⟨rfl, by omega, by omega⟩)) (xv (e_minM (q0 rfl) (q0 rfl)) (xv (asI rfl) (XN ?_)))))))
            exact cutJ_normal () agr ⟨by rw [hpay]; rfl, trivial⟩ (fun w hw => hw) rfl trivial
          · have h2' : ¬ 0 < limit := by simpa using h2
            have hpay : payD limit l x = x.amount := by unfold payD; rw [if_neg h2']
            refine H_skip ?_
            exact cutJ_normal () agr ⟨by rw [hpay]; rfl, trivial⟩ (fun w hw => hw) rfl trivial
        · intro _ g5 _
          refine thenJ_normal (R0 (xv (mvS rfl) (xv (mvI rfl) (X_push (k := 1) (i := Tryz.t3) 0 ((payD limit l x)) Tryz.underlying22 (by kernel_rfl) rfl rfl rfl rfl Tryz.sizeOf3 Tryz.zeroValue3 rfl rfl rfl rfl rfl rfl ⟨by omega, by decide⟩ rfl rfl fun B0 A1 c1 => (xv (asS rfl) (XN (blockJ_normal (thenJ_normal (R0 ?_)))))))))
          refine xv (mvI rfl) (xv (e_add (q0 rfl) (q0 rfl) (fun _ => ⟨rfl, by omega, by omega⟩)) (xv (asI rfl) (XN ?_)))
          exact loopJ_normal (k + 1, (A1, c1)) agr ⟨rfl, by rw [hmap]; rfl, trivial⟩ (fun w hw => by rw [hmap]; exact hw) rfl (by show k + 1 ≤ n; omega) (by show n - (k + 1) < n - k; omega)
    · have hend : i = n := by simp at hlt; omega
      have hfull : DS limit xs i = dayS limit xs := by unfold DS; rw [List.take_of_length_le (by omega)]; rfl
      rw [hfull]
      refine H_exit (thenJ_exit (loopJ_exit (blockJ_hit (thenJ_normal (H_seq (R0 (xv (mvS rfl) (xv (asS rfl) (xv (asI rfl) ?_)))))))))
      refine XN (thenJ_normal (H_ret ?_))
      exact ret2 (v := .slice _ _ _) (x := .int _ _) rfl rfl rfl rfl fun w' hw => ⟨(oA, oc), rfl, hw.pick [0] (by decide)⟩

end Go.Proofs.Far

/-
  The engine: an append to a slice that is full copies it.
-/
namespace Go.Proofs.E
open Go Go.RowKit

section
variable {α : Type} {e t : TypeId} {k : Nat} {enc : α → List Value} {A B : Option Addr} {xs ys : List α} {c : Cx} {w0 : World} {L : List Item} {f : Fr} {K : List Item → Fr → Prop} {d : Nat} {ty : TypeId} {pos : String} {af : Array Edge} {x y : Operand}
theorem f_appendF {n cB m : Nat} {i : TypeInfo} {z : Value} (ht : c.P.underlying t = some (.slice e)) (hi : c.P.info? e = some i) (hz : i.zero = some z) (hsize : i.size = k) (hzs : z.cells.size = k)
    (he : ∀ x, (enc x).length = k) (hx : ev f x = .slice A n n) (hy : ev f y = .slice B m cB) (hrx : ∀ w, Mem w0 L w → SlAt w k enc A n xs) (hry : ∀ w, Mem w0 L w → SlAt w k enc B m ys) (hm0 : 0 < m)
    (hlen : xs.length + ys.length ≤ 1000000 ∧ i.bytes ≤ 100000) (hd : Nat.blt d c.N = true) (next : ∀ A' c', K (rowT e k enc A' c' (xs ++ ys) :: L) (upd f d (.slice A' (xs ++ ys).length c'))) :
    Eff c w0 L f ⟨some d, .call { callee := .builtin .append, args := #[x, y], argTypes := #[t, t] }, ty, pos, af, none⟩ K :=
  ⟨rfl, rfl, hd, fun w hw => by
    have hX := hrx w hw
    have hY := hry w hw
    have hxl : xs.length = n := hX.1
    have hyl : ys.length = m := hY.1
    subst hsize
    have hby : (n + m) * i.bytes ≤ 140737488355328 := by
      have := Nat.mul_le_mul (show n + m ≤ 1000000 by omega) hlen.2
      omega
    have hnl : (ys.flatMap enc).length = m * i.size := by rw [flat_len he, hyl]
    have hol : (xs.flatMap enc).length = n * i.size := by rw [flat_len he, hxl]
    obtain ⟨bb, bo, hBv, _, hBc⟩ := hY.2.2 hm0
    subst hBv
    have hnews : ∀ j u, (ys.flatMap enc)[j]? = some u → w.cell? ((⟨bb, bo, none⟩ : Addr).add j) = some u := fun j u hu => by
      obtain ⟨q, v, r, hq, hv, rfl⟩ := flat_inv he ys j u hu
      have := hBc q v hq r u hv
      rw [add_none rfl]
      rw [Nat.add_assoc] at this
      exact this
    have hex : ∀ v' w', (Builtin.append_ #[t, t] ty #[.slice A n n, .slice (some ⟨bb, bo, none⟩) m cB]).run c.P w = .ok v' w' → (execOp (ev f) ⟨some d, .call { callee := .builtin .append, args := #[x, y], argTypes := #[t, t] }, ty, pos, af, none⟩).run c.P w = .ok (.value v') w' := fun v' w' h => by
      simp [execOp, resolve, invoke, builtin, hx, hy, h]
    have hlen2 : (xs.flatMap enc ++ ys.flatMap enc).length = (n + m) * i.size := by rw [List.length_append, hol, hnl, Nat.add_mul]
    have grown : ∀ old : Nat, (w.drew.alloc (.cells ((xs.flatMap enc).toArray ++ (ys.flatMap enc).toArray ++ Builtin.zeroCells z.cells (grownCap w (n + m) old e - (n + m))) e)).ownsRow 0 e i.size (.slice (some ⟨w.heap.size, 0, none⟩) (n + m) (grownCap w (n + m) old e)) (n + m) (xs.flatMap enc ++ ys.flatMap enc) := fun old => by
      have hge := grownCap_ge w (n + m) old e
      have hcm : grownCap w (n + m) old e ≤ maxLen := grownCap_le_maxLen w (n + m) old e (by simp only [maxLen]; omega)
      refine ⟨hlen2, .inr ⟨w.heap.size, _, _, rfl, Nat.zero_le _, heap_alloc_new w.drew _, hge, hcm, ?_, ?_⟩⟩
      · simp only [Array.size_append, List.size_toArray, size_zeroCells, hzs, hol, hnl, ← Nat.add_mul]
        congr 1
        omega
      · simp only [Array.toList_append, List.append_assoc]
        rw [← List.append_assoc, ← hlen2]
        exact List.take_left
    have fin : ∀ old : Nat, (Builtin.append_ #[t, t] ty #[.slice A n n, .slice (some ⟨bb, bo, none⟩) m cB]).run c.P w = .ok (.slice (some ⟨w.heap.size, 0, none⟩) (n + m) (grownCap w (n + m) old e)) (w.drew.alloc (.cells ((xs.flatMap enc).toArray ++ (ys.flatMap enc).toArray ++ Builtin.zeroCells z.cells (grownCap w (n + m) old e - (n + m))) e)) →
        EffR c w0 L f (some d) w K ((execOp (ev f) ⟨some d, .call { callee := .builtin .append, args := #[x, y], argTypes := #[t, t] }, ty, pos, af, none⟩).run c.P w) := fun old h => by
      rw [hex _ _ h]
      have hxy : (xs ++ ys).length = n + m := by rw [List.length_append, hxl, hyl]
      refine ⟨rowT e i.size enc (some ⟨w.heap.size, 0, none⟩) (grownCap w (n + m) old e) (xs ++ ys) :: L, Mem.new (w := w.drew) hw.drew _ _ (fun b hb => by cases hb; rfl) ?_, rfl, ?_⟩
      · have := grown old
        show World.ownsRow _ 0 e i.size (.slice _ (xs ++ ys).length _) (xs ++ ys).length ((xs ++ ys).flatMap enc)
        rw [hxy, List.flatMap_append]
        exact this
      · rw [← hxy]
        exact next _ _
    cases A with
    | none =>
      have hn0 : n = 0 := by
        rcases Nat.eq_zero_or_pos n with h | h
        · exact h
        · obtain ⟨b, off, hb, _⟩ := hX.2.2 h; cases hb
      subst hn0
      have hx0 : xs = [] := List.eq_nil_of_length_eq_zero hxl
      subst hx0
      refine fin 0 ?_
      have := run_append_nil (P := c.P) w t ty e i z ht hi hz ⟨bb, bo, none⟩ m cB (ys.flatMap enc) hnl hnews hm0 (by omega) (by have hb := hby; simp only [Nat.zero_add] at hb; omega)
      simpa using this
    | some a =>
      refine fin n ?_
      have hcells : ∀ j u, (xs.flatMap enc)[j]? = some u → w.cell? (a.add j) = some u := fun j u hu => by
        obtain ⟨q, v, r, hq, hv, rfl⟩ := flat_inv he xs j u hu
        have hq' : 0 < n := by have := (List.getElem?_eq_some_iff.1 hq).1; omega
        obtain ⟨b, off, hb, _, hc⟩ := hX.2.2 hq'
        cases hb
        have := hc q v hq r u hv
        rw [add_none rfl]
        rw [Nat.add_assoc] at this
        exact this
      exact run_append_grow (P := c.P) w t ty e i z ht hi hz a n n (xs.flatMap enc) hol hcells ⟨bb, bo, none⟩ m cB (ys.flatMap enc) hnl hnews (by omega) (by omega) (growslice_fits (by omega) hby)⟩
theorem e_slHi3 {el : TypeId} {g : Bool} {n cp sz : Nat} {p q : Int} (j : Nat) {y2 : Operand} (ht : c.P.underlying t = some (.slice el)) (hs : ∀ w, (sizeOf el).run c.P w = .ok sz w) (hx : OpV g f x (.slice A n cp)) (hy : OpV g f y (.int .i64 p)) (hy2 : OpV g f y2 (.int .i64 q)) (hm : g = true → p = (j : Int) ∧ q = (j : Int) ∧ j ≤ cp) :
    EvG g c w0 L f (.slice t x none (some y) (some y2)) ty (.slice A j j) := fun e _ _ _ _ w _ => by
  obtain ⟨rfl, rfl, hj⟩ := hm e
  have ha : A.map (·.add (0 * sz)) = A := by
    cases A with
    | none => rfl
    | some a => simp [Addr.add]
  simp only [Nat.zero_mul] at ha
  simp [execOp, hx e, hy e, hy2 e, Instr.sliceAt, Instr.slice, Instr.sliceBounds, Instr.sliceBound, asIntOf, run_underlying ht, hs, Result.andThen, hj, ha]
end

end Go.Proofs.E

/-
  The walks: the reference's items of a ride.
-/
namespace Go.Proofs.Far
open Go Go.RowKit Go.Proofs.E Go.Proofs.Cus Go.Proofs.Rid

def withI (l : List Itm) (k r a : Int) : List Itm := if a = 0 then l else l ++ [⟨k, r, a⟩]
theorem addB_items (b : Bil) (k r a : Int) : (addB b k r a).items = withI b.items k r a := by
  unfold addB withI
  split <;> rfl
def totI (l : List Itm) : Int := (l.map (·.amount)).sum
theorem totI_with (l : List Itm) (k r a : Int) : totI (withI l k r a) = totI l + a := by
  unfold withI
  split
  · omega
  · unfold totI; simp
/-- items that a machine adds up -/
structure Ib (l : List Itm) : Prop where
  few : l.length ≤ 100
  small : ∀ i ∈ l, -10000000000000 ≤ i.amount ∧ i.amount ≤ 10000000000000
theorem Ib.nil : Ib [] := ⟨by simp, fun i hi => by cases hi⟩
theorem withI_len (l : List Itm) (k r a : Int) : (withI l k r a).length ≤ l.length + 1 := by
  unfold withI
  split <;> simp
theorem Ib.with {l : List Itm} (h : Ib l) {k r a : Int} (hl : l.length ≤ 99) (ha : -10000000000000 ≤ a ∧ a ≤ 10000000000000) : Ib (withI l k r a) := by
  refine ⟨by have := withI_len l k r a; omega, fun i hi => ?_⟩
  unfold withI at hi
  split at hi
  · exact h.small i hi
  · rcases List.mem_append.1 hi with hi | hi
    · exact h.small i hi
    · simp at hi; subst hi; exact ha
def tI (l : List Itm) (k : Nat) : Int := totI (l.take k)
theorem tI_succ {l : List Itm} {k : Nat} {x : Itm} (h : l[k]? = some x) : tI l (k + 1) = tI l k + x.amount := by
  unfold tI totI
  rw [snocT _ _ _ h, List.map_append, List.sum_append]; simp
theorem tI_bound {l : List Itm} (h : Ib l) : ∀ k, k ≤ l.length → -10000000000000 * (k : Int) ≤ tI l k ∧ tI l k ≤ 10000000000000 * (k : Int)
  | 0, _ => by unfold tI totI; simp
  | k + 1, hk => by
    obtain ⟨x, hx⟩ : ∃ x, l[k]? = some x := ⟨_, List.getElem?_eq_getElem (by omega)⟩
    have ih := tI_bound h k (by omega)
    have := h.small x (List.mem_of_getElem? hx)
    rw [tI_succ hx]
    omega
section
variable {w0 w : World} {L : List E.Item}
set_option maxRecDepth 20000 in
theorem with_w (k r a : Int) {A : Option Addr} {c : Nat} {l : List Itm} (hw : Mem w0 (itRow A c l :: L) w) (hmk : marks L = []) (hl : l.length ≤ 100) :
    Calls Tryz.prog 65 #[.slice A l.length c, .int .i64 k, .int .i64 r, .int .i64 a] w fun e w' => ∃ z : Option Addr × Nat, e = .returned (.slice z.1 (withI l k r a).length z.2) ∧ Mem w0 (itRow z.1 z.2 (withI l k r a) :: L) w' := by
  refine H_enterM hw hmk Tryz.func65 rfl Tryz.ntmps65 rfl (H_seq (R0 (xv (asS rfl) (XN (thenJ_normal (H_seq (H_seq (R0 (xv (mvI rfl) ?_)))))))))
  refine xv (e_eq (q0 rfl) (q0 rfl)) (XN (thenJ_normal (H_cond rfl (fun h1 => ?_) (fun h1 => ?_))))
  · have h1' : a = 0 := by simpa using h1
    rw [show withI l k r a = l by unfold withI; rw [if_pos h1']]
    refine H_seq (R0 (xv (mvS rfl) (xv (asS rfl) (XN (thenJ_normal (H_ret (thenJ_ret ?_)))))))
    exact ret1 (v := .slice _ _ _) rfl rfl hmk fun w' hw => ⟨(A, c), rfl, hw⟩
  · have h1' : ¬ a = 0 := by simpa using h1
    rw [show withI l k r a = l ++ [⟨k, r, a⟩] by unfold withI; rw [if_neg h1']]
    refine H_skip (thenJ_normal (H_seq (R0 (X_eff (f_slit0 Itm.cells Tryz.underlying42 Tryz.sizeOf69 rfl fun A2 c2 => (xv (mvS rfl) (X_append (f_append (k := 3) (i := Tryz.t69) (enc := Itm.cells) 0 Tryz.underlying42 (by kernel_rfl) rfl rfl rfl rfl (fun _ => rfl) (fun _ => rfl) rfl rfl rfl (fun w hw => slAt_row hw (j := 1) rfl (fun _ => rfl) (by omega)) ⟨by simp; omega, by decide⟩ rfl fun A3 c3 => (xv (mvI rfl) (xv (mvI rfl) (xv (mvI rfl) ?_)))))))))))
    refine xv (e_build Tryz.underlying69 fl69 Tryz.zeroValue69 (pt (v := .int _ _) rfl (pt (v := .int _ _) rfl (pt (v := .int _ _) rfl E.p0))) rfl) (X_push (k := 3) (i := Tryz.t69) 0 ((⟨k, r, a⟩ : Itm)) Tryz.underlying42 (by kernel_rfl) rfl rfl rfl rfl Tryz.sizeOf69 Tryz.zeroValue69 rfl rfl rfl rfl rfl rfl ⟨by simp; omega, by decide⟩ rfl rfl fun B0 A1 c1 => (xv (asS rfl) (XN (thenJ_normal (H_ret ?_)))))
    exact ret1 (v := .slice _ _ _) rfl rfl hmk fun w' hw => ⟨(A1, c1), by simp, by simpa using hw.pickN 2 [0] (by decide) (by decide)⟩
end
attribute [local irreducible] tI
set_option maxRecDepth 20000 in
theorem rtotal_w (A : Option Addr) (n c : Nat) (l : List Itm) (w : World) (hx : ItsAt w A n l) (hb : Ib l) : Calls Tryz.prog 63 #[.slice A n c] w fun e w' => e = .returned (.int .i64 (totI l)) ∧ Bel w w' := by
  have hl := hx.1
  have hf := hb.few
  have ht : totI l = tI l n := by rw [← hl]; unfold tI; rw [List.take_length]
  rw [ht]
  refine H_enter Tryz.func63 rfl Tryz.ntmps63 rfl (H_seq (R0 (xv (asI rfl) (XN (thenJ_normal (H_seq (R0 (xv (asI rfl) (XN ?_)))))))))
  refine thenJ_normal (H_seq (H_seq (R0 (xv (asI rfl) (XN (thenJ_normal (H_block (H_loop [3, 4, 5, 6, 7, 8, 9, 10, 11, 12, 13, 14, 15, 16, 17] (fun k : Nat => [(4, .int .i64 k), (3, .int .i64 (tI l k))]) (fun _ => []) (fun k => k ≤ n) (fun k => n - k) 0 ⟨rfl, by unfold tI; rfl, trivial⟩ (fun w hw => hw) rfl (Nat.zero_le _) ?_))))))))
  rintro k g hk
  have hbd := tI_bound hb k (by omega)
  refine H_seq (H_seq (R0 (xv (mvI rfl) (xv (mvS rfl) (xv (e_len Tryz.underlying42 (q0 rfl)) (xv (e_lt (q0 rfl) (q0 rfl)) (XN (thenJ_normal (H_cond rfl (fun hlt => ?_) (fun hlt => ?_))))))))))
  · have hlt' : k < n := by simpa using hlt
    obtain ⟨b, off, x, rfl, hbl, hxk, hrx⟩ := hx.at_ hlt'
    have hs := tI_succ hxk
    have hxb := hb.small x (List.mem_of_getElem? hxk)
    refine H_skip (thenJ_normal (H_seq (H_block (R0 (xv (mvI rfl) (xv (mvS rfl) (xv (mvI rfl) (xv (e_idx _ Tryz.underlying42 Tryz.sizeOf69 (q0 rfl) (q0 rfl) (fun _ => ⟨rfl, by omega⟩)) (xv (e_fld Tryz.underlying69 rfl Tryz.sizeOf3 rfl (q0 rfl)) ?_)))))))))
    refine xv (e_ld (v := .int .i64 x.amount) Tryz.isAgg3 (q0 rfl) (by exact rc (j := 2) hrx hbl rfl)) ?_
    refine xv (e_add (r := tI l (k + 1)) (q0 rfl) (q0 rfl) (fun _ => ⟨by rw [hs], by omega, by omega⟩)) (xv (asI rfl) (XN (blockJ_normal (thenJ_normal (R0 (xv (mvI rfl) (xv (e_add (q0 rfl) (q0 rfl) (fun _ => ⟨rfl, by omega, by omega⟩)) (xv (asI rfl) (XN ?_)))))))))
    exact loopJ_normal (k + 1) agr ⟨rfl, rfl, trivial⟩ (fun w hw => hw) rfl (by show k + 1 ≤ n; omega) (by show n - (k + 1) < n - k; omega)
  · have hend : k = n := by simp at hlt; omega
    rw [hend]
    refine H_exit (thenJ_exit (loopJ_exit (blockJ_hit (thenJ_normal (H_seq (R0 (xv (mvI rfl) (xv (asI rfl) (XN ?_)))))))))
    refine thenJ_normal (H_ret ?_)
    exact ret1 (v := .int _ _) rfl rfl rfl fun w' hw => ⟨rfl, hw.1⟩
set_option maxRecDepth 20000 in
theorem rplace_w (p : Pr) (a : PrA) (x : RX) (w : World) (hp : PrAt w p a) (hpl : x.r.pl ≤ 9223372036854775807) : Calls Tryz.prog 111 #[.agg (p.cells a).toArray, .agg x.cells.toArray] w fun e w' => e = .returned (.tuple #[.int .i64 (placeP p x.r).2, .int .i64 (placeP p x.r).1]) ∧ Bel w w' := by
  have hl1 := hp.pl.1
  have hl2 := hp.dk.1
  refine H_enter Tryz.func111 rfl Tryz.ntmps111 rfl (H_seq (R0 (X_box (v := .agg _) rfl rfl fun b2 => (X_box (v := .agg _) rfl rfl fun b3 => (xv (asI rfl) (xv (asI rfl) (XN (thenJ_normal (H_seq ?_)))))))))
  refine H_seq (R0 (xv (e_fld Tryz.underlying54 rfl Tryz.sizeOf3 rfl (q0 rfl)) (xv (eL Tryz.isAgg3 (q0 rfl)) ?_)))
  refine xv (e_eq (q0 rfl) (q0 rfl)) (xv (mvB rfl) (xt (e_fld Tryz.underlying54 rfl Tryz.sizeOf3 rfl (q0 rfl)) rfl rfl (xt (eL Tryz.isAgg3 (q1 rfl)) rfl rfl ?_)))
  refine xt (e_ge (q1 rfl) (q0 rfl)) rfl rfl (xv (e_and (q0 rfl) rfl (fun h => by first | rfl | (rw [h]; rfl))) ?_)
  refine xv (mvB rfl) (xt (e_fld Tryz.underlying54 rfl Tryz.sizeOf3 rfl (q0 rfl)) rfl rfl (xt (eL Tryz.isAgg3 (q1 rfl)) rfl rfl ?_))
  refine xt (e_fld Tryz.underlying28 rfl Tryz.sizeOf22 rfl (q0 rfl)) rfl rfl (xt (eL Tryz.isAgg22 (q1 rfl)) rfl rfl ?_)
  refine xt (e_len Tryz.underlying22 (q1 rfl)) rfl rfl (xt (e_lt (q1 rfl) (q1 rfl)) rfl rfl (xv (e_and (q0 rfl) rfl (fun h => by first | rfl | (rw [h]; rfl))) ?_))
  refine XN (thenJ_normal (H_cond rfl (fun h1 => ?_) (fun h1 => ?_)))
  · have h1' : x.r.wh = 2 ∧ 0 ≤ x.r.pl ∧ x.r.pl < p.places.length := by
      have h : (((decide (x.r.wh = 2)) && decide (0 ≤ x.r.pl)) && decide (x.r.pl < (a.pl.n : Int))) = true := h1
      simp at h; omega
    obtain ⟨k, hk⟩ : ∃ k : Nat, x.r.pl = (k : Int) := ⟨x.r.pl.toNat, by omega⟩
    have hkn : k < a.pl.n := by omega
    obtain ⟨b, off, v, hA, hbl, hv, hrv⟩ := hp.pl.at_ hkn
    have hpe : placeP p x.r = (v, x.r.pl) := by
      unfold placeP
      rw [if_pos h1', hk, Int.toNat_natCast, List.getD_eq_getElem?_getD, hv]; rfl
    rw [hpe]
    refine H_seq (R1 rfl (by decide +kernel) (xv (e_fld Tryz.underlying54 rfl Tryz.sizeOf3 rfl (q0 rfl)) (xv (eL Tryz.isAgg3 (q0 rfl)) ?_)))
    refine xv (e_fld Tryz.underlying28 rfl Tryz.sizeOf22 rfl (q0 rfl)) (xv (e_ld (v := .slice (some ⟨b, off, none⟩) a.pl.n a.pl.c) Tryz.isAgg22 (q0 rfl) (by rw [← hA]; exact bx 1 rfl rfl)) (xv (e_fld Tryz.underlying54 rfl Tryz.sizeOf3 rfl (q0 rfl)) (xv (eL Tryz.isAgg3 (q0 rfl)) ?_)))
    refine xv (e_idx k Tryz.underlying22 Tryz.sizeOf3 (q0 rfl) (q0 rfl) (fun _ => ⟨hk, hkn⟩)) (xv (eL Tryz.isAgg3 (q0 rfl)) ?_)
    refine xv (asI rfl) (xv (asI rfl) (XN (thenJ_normal (H_ret (thenJ_ret ?_)))))
    exact ret2 (v := .int _ _) (x := .int _ _) rfl rfl rfl rfl fun w' hw => ⟨rfl, hw.1⟩
  · have h1' : ¬ (x.r.wh = 2 ∧ 0 ≤ x.r.pl ∧ x.r.pl < p.places.length) := by
      have h : (((decide (x.r.wh = 2)) && decide (0 ≤ x.r.pl)) && decide (x.r.pl < (a.pl.n : Int))) = false := h1
      simp at h; omega
    refine H_skip (thenJ_normal (H_seq (H_seq (R0 (xv (e_fld Tryz.underlying54 rfl Tryz.sizeOf3 rfl (q0 rfl)) (xv (eL Tryz.isAgg3 (q0 rfl)) ?_))))))
    refine xv (e_eq (q0 rfl) (q0 rfl)) (xv (mvB rfl) (xt (e_fld Tryz.underlying54 rfl Tryz.sizeOf3 rfl (q0 rfl)) rfl rfl (xt (eL Tryz.isAgg3 (q1 rfl)) rfl rfl ?_)))
    refine xt (e_ge (q1 rfl) (q0 rfl)) rfl rfl (xv (e_and (q0 rfl) rfl (fun h => by first | rfl | (rw [h]; rfl))) ?_)
    refine xv (mvB rfl) (xt (e_fld Tryz.underlying54 rfl Tryz.sizeOf3 rfl (q0 rfl)) rfl rfl (xt (eL Tryz.isAgg3 (q1 rfl)) rfl rfl ?_))
    refine xt (e_quo (q1 rfl) (q0 rfl) (fun hg => by simp at hg; exact ⟨by omega, by omega, by omega⟩)) rfl rfl (xt (e_fld Tryz.underlying28 rfl Tryz.sizeOf22 rfl (q0 rfl)) rfl rfl (xt (eL Tryz.isAgg22 (q1 rfl)) rfl rfl ?_))
    refine xt (e_len Tryz.underlying22 (q1 rfl)) rfl rfl (xt (e_lt (q1 rfl) (q1 rfl)) rfl rfl (xv (e_and (q0 rfl) rfl (fun h => by first | rfl | (rw [h]; rfl))) ?_))
    refine XN (thenJ_normal (H_cond rfl (fun h2 => ?_) (fun h2 => ?_)))
    · have h2' : x.r.wh = 1 ∧ 0 ≤ x.r.pl ∧ x.r.pl / 32 < p.docks.length := by
        have h : (((decide (x.r.wh = 1)) && decide (0 ≤ x.r.pl)) && decide (x.r.pl / 32 < (a.d.n : Int))) = true := h2
        simp at h; omega
      obtain ⟨k, hk⟩ : ∃ k : Nat, x.r.pl / 32 = (k : Int) := ⟨(x.r.pl / 32).toNat, by omega⟩
      have hkn : k < a.d.n := by omega
      obtain ⟨b, off, v, hA, hbl, hv, hrv⟩ := hp.dk.at_ hkn
      have hpe : placeP p x.r = (v, 64 + x.r.pl / 32) := by
        unfold placeP
        rw [if_neg h1', if_pos h2', hk, Int.toNat_natCast, List.getD_eq_getElem?_getD, hv]; rfl
      rw [hpe]
      refine H_seq (R0 (xv (e_fld Tryz.underlying54 rfl Tryz.sizeOf3 rfl (q0 rfl)) (xv (eL Tryz.isAgg3 (q0 rfl)) ?_)))
      refine xv (e_quo (q0 rfl) (q0 rfl) (fun _ => ⟨by omega, by omega, by omega⟩)) (xv (asI rfl) (XN (thenJ_normal (H_seq (R1 rfl (by decide +kernel) (xv (mvI rfl) (xv (e_add (r := 64 + x.r.pl / 32) (q0 rfl) (q0 rfl) (fun _ => ⟨rfl, by omega, by omega⟩)) (xv (e_fld Tryz.underlying28 rfl Tryz.sizeOf22 rfl (q0 rfl)) (xv (e_ld (v := .slice (some ⟨b, off, none⟩) a.d.n a.d.c) Tryz.isAgg22 (q0 rfl) (by rw [← hA]; exact bx 1 rfl rfl)) ?_)))))))))
      refine xv (mvI rfl) (xv (e_idx k Tryz.underlying22 Tryz.sizeOf3 (q0 rfl) (q0 rfl) (fun _ => ⟨hk, hkn⟩)) (xv (eL Tryz.isAgg3 (q0 rfl)) ?_))
      refine xv (asI rfl) (xv (asI rfl) (XN (thenJ_normal (H_ret (thenJ_ret ?_)))))
      exact ret2 (v := .int _ _) (x := .int _ _) rfl rfl rfl rfl fun w' hw => ⟨rfl, hw.1⟩
    · have h2' : ¬ (x.r.wh = 1 ∧ 0 ≤ x.r.pl ∧ x.r.pl / 32 < p.docks.length) := by
        have h : (((decide (x.r.wh = 1)) && decide (0 ≤ x.r.pl)) && decide (x.r.pl / 32 < (a.d.n : Int))) = false := h2
        simp at h; omega
      refine H_skip (thenJ_normal (H_seq (R0 (xv (asI rfl) (xv (asI rfl) (XN (thenJ_normal (H_ret ?_))))))))
      exact ret2 (v := .int _ _) (x := .int _ _) rfl rfl rfl rfl fun w' hw => ⟨by unfold placeP; rw [if_neg h1', if_neg h2'], hw.1⟩
set_option maxRecDepth 20000 in
theorem rverdict_w (A : Option Addr) (n c : Nat) (vs : List Pen.V) (ride : Int) (w : World) (hx : Pen.VsAt w A n vs) : Calls Tryz.prog 66 #[.slice A n c, .int .i64 ride] w fun e w' => e = .returned (.int .i64 (vIdx vs ride)) ∧ Bel w w' := by
  have hl := hx.1
  have hn := hx.2.1
  refine H_enter Tryz.func66 rfl Tryz.ntmps66 rfl (H_seq (R0 (xv (asI rfl) (XN (thenJ_normal (H_seq (H_seq (R0 (xv (asI rfl) ?_)))))))))
  refine XN (thenJ_normal (H_block (H_loop [4, 5, 6, 7, 8, 9, 10, 11, 12, 13, 14, 15, 16, 17, 18, 19] (fun k : Nat => [(5, .int .i64 k)]) (fun _ => []) (fun k => k ≤ n ∧ (List.range k).find? (fun k => (vs.getD k Pen.V.zero).ride == ride) = none) (fun k => n - k) 0 ⟨rfl, trivial⟩ (fun w hw => hw) rfl ⟨Nat.zero_le _, rfl⟩ ?_)))
  rintro k g ⟨hk, hall⟩
  refine H_seq (H_seq (R0 (xv (mvI rfl) (xv (mvS rfl) (xv (e_len Tryz.underlying37 (q0 rfl)) (xv (e_lt (q0 rfl) (q0 rfl)) (XN (thenJ_normal (H_cond rfl (fun hlt => ?_) (fun hlt => ?_))))))))))
  · have hlt' : k < n := by simpa using hlt
    obtain ⟨pb, off, v, rfl, hpbl, hpk, hrp⟩ := hx.at_ hlt'
    have hpd : vs.getD k Pen.V.zero = v := by rw [List.getD_eq_getElem?_getD, hpk]; rfl
    refine H_skip (thenJ_normal (H_seq (H_block (H_seq (R0 (xv (mvS rfl) (xv (mvI rfl) (xv (e_idx _ Tryz.underlying37 Tryz.sizeOf83 (q0 rfl) (q0 rfl) (fun _ => ⟨rfl, by omega⟩)) (xv (e_fld Tryz.underlying83 rfl Tryz.sizeOf3 rfl (q0 rfl)) ?_)))))))))
    refine xv (e_ld (v := .int .i64 v.ride) Tryz.isAgg3 (q0 rfl) (by exact rc0 hrp hpbl rfl)) ?_
    refine xv (mvI rfl) (xv (e_eq (q0 rfl) (q0 rfl)) (XN (thenJ_normal (H_cond rfl (fun hv => ?_) (fun hv => ?_)))))
    · have hv' : v.ride = ride := of_decide_eq_true hv
      have hf : (List.range n).find? (fun k => (vs.getD k Pen.V.zero).ride == ride) = some k := by
        obtain ⟨j, rfl⟩ : ∃ j, n = k + 1 + j := ⟨n - (k + 1), by omega⟩
        rw [List.range_add, List.range_succ, List.find?_append, List.find?_append, hall]
        simp [hpk, hv']
      rw [show vIdx vs ride = (k : Int) by unfold vIdx; rw [hl, hf]]
      refine H_seq (R0 (xv (mvI rfl) (xv (asI rfl) (XN (thenJ_normal (H_ret (blockJ_ret (thenJ_ret (loopJ_ret ?_)))))))))
      refine blockJ_ret (thenJ_ret ?_)
      exact ret1 (v := .int _ _) rfl rfl rfl fun w' hw => ⟨rfl, hw.1⟩
    · have hv' : ¬ v.ride = ride := of_decide_eq_false hv
      refine H_skip (blockJ_normal (thenJ_normal (R0 (xv (mvI rfl) (xv (e_add (q0 rfl) (q0 rfl) (fun _ => ⟨rfl, by omega, by omega⟩)) (xv (asI rfl) (XN ?_)))))))
      exact loopJ_normal (k + 1) agr ⟨rfl, trivial⟩ (fun w hw => hw) rfl ⟨by omega, by rw [List.range_succ, List.find?_append, hall]; simp [hpk, hv']⟩ (by show n - (k + 1) < n - k; omega)
  · have hend : k = n := by simp at hlt; omega
    subst hend
    rw [show vIdx vs ride = -1 by unfold vIdx; rw [hl, hall]]
    refine H_exit (thenJ_exit (loopJ_exit (blockJ_hit (thenJ_normal (H_seq (R0 (xv (asI rfl) (XN (thenJ_normal ?_)))))))))
    refine H_ret ?_
    exact ret1 (v := .int _ _) rfl rfl rfl fun w' hw => ⟨rfl, hw.1⟩

/-! the items before the limit -/
theorem steps_mono {t : Tf} (h : 1 ≤ t.step) {a b : Int} (hab : a ≤ b) : stepsP t a ≤ stepsP t b := by
  unfold stepsP
  exact Int.ediv_le_ediv (by omega) (by omega)
theorem ridP_mono {t : Tf} (h : tfOk t = true) {a b : Int} (hab : a ≤ b) : ridP t a ≤ ridP t b := by
  have h2 := tfOk_iff.1 h
  unfold ridP
  exact Int.mul_le_mul_of_nonneg_left (steps_mono h2.2.2.2.2.1.1 (by omega)) h2.2.2.1.1
/-- each fare on the way adds up -/
theorem addB_tot {b : Bil} (h : totI b.items = b.total) (k r a : Int) : totI (addB b k r a).items = (addB b k r a).total := by rw [addB_items, totI_with, addB_total, h]
theorem addB_Ib {b : Bil} (h : Ib b.items) {k r a : Int} (hl : b.items.length ≤ 99) (ha : -10000000000000 ≤ a ∧ a ≤ 10000000000000) : Ib (addB b k r a).items := by
  rw [addB_items]
  exact h.with hl ha
def rfVal (o : Option Bil) (z : Option Addr × Nat) : Value := match o with | some b => .tuple #[.slice z.1 b.items.length z.2, .int .i64 0] | none => .tuple #[.slice none 0 0, .int .i64 2]
def rfItems (o : Option Bil) (z : Option Addr × Nat) : List E.Item := match o with | some b => [itRow z.1 z.2 b.items] | none => []
theorem rfItems_marks (o : Option Bil) (z : Option Addr × Nat) : marks (rfItems o z) = [] := by cases o <;> rfl

end Go.Proofs.Far

/-
  The walks: the reference's items of a ride before the limit of the day.
-/
namespace Go.Proofs.Far
open Go Go.RowKit Go.Proofs.E Go.Proofs.Cus Go.Proofs.Rid

theorem rtot_w (b : Bil) (hb : Ib b.items) (ht : totI b.items = b.total) (A : Option Addr) (n c : Nat) (w : World) (hx : ItsAt w A n b.items) : Calls Tryz.prog 63 #[.slice A n c] w fun e w' => e = .returned (.int .i64 b.total) ∧ Bel w w' := by
  have h := rtotal_w A n c b.items w hx hb
  rw [ht] at h
  exact h
theorem money_ok2 {n : Int} (h : ¬ 1000000000000 < n) : money n = (n, 0) := by unfold money; rw [if_neg h]
attribute [local irreducible] ridP pauP ridS pauS money placeP atR partP withI
set_option maxHeartbeats 2000000 in
set_option maxRecDepth 20000 in
theorem rfirst_w (f : Fl) (p : Pr) (a : PrA) (x : RX) (by_ : Int) (w : World) (hp : PrAt w p a) (hx : RdAt w x) (he : prErr f p = 0) (hc : checkR x.r = 0) (ho : x.r.open_ = false) (hpl : x.r.pl ≤ 9223372036854775807) (hby : -1 ≤ by_ ∧ by_ < p.passes.length) :
    Calls Tryz.prog 61 #[.agg (p.cells a).toArray, .agg x.cells.toArray, .int .i64 by_] w fun e w' => ∃ z : Option Addr × Nat, e = .returned (rfVal (firstP p x.r by_) z) ∧ Mem w (rfItems (firstP p x.r by_) z) w' := by
  obtain ⟨_, htf, hpe, _, _, _, _, _, _⟩ := prErr_parts he
  have hs := spOk_iff.1 (checkR_parts hc).1
  have hat : atR p.tariffs x.r.start.lo = (((verO p x.r : Nat) : Int), 0) := by unfold atR; rw [if_neg (by omega), if_neg (by omega)]; rfl
  obtain ⟨hvk, hvt⟩ := ver_ok (r := x.r) htf
  have hvi := tfOk_iff.1 hvt
  have hrs := ridS_range hc
  have hps := pauS_range hc
  have hrn := ridP_nn hvt (s := ridS x.r) hrs.2
  have hpn := pauP_nn hvt (s := pauS x.r) hps.2
  have hfee := place_fee he x.r
  have hbt := base_total p x.r
  have hplt := plc_total p x.r
  have hpat := pass_total p x.r by_
  have hvn : verO p x.r < a.t.n := by
    have := (List.getElem?_eq_some_iff.1 hvk).1
    have := hp.tf.1
    omega
  obtain ⟨tb, toff, t0, htA, htbl, ht0, hrt⟩ := hp.tf.at_ hvn
  rw [hvk] at ht0
  cases ht0
  have hfst : firstP p x.r by_ = if 1000000000000 < ridP (verT p x.r) (ridS x.r) then none else if 1000000000000 < pauP (verT p x.r) (pauS x.r) then none else if 0 ≤ by_ ∧ 1000000000000 < partP p x.r by_ then none else if 1000000000000 < (passB p x.r by_).total then none else some (passB p x.r by_) := rfl
  have hT : ∀ s : Int, 0 ≤ s ∧ s ≤ 4294944000 → ∀ w, Calls Tryz.prog 109 #[.agg (verT p x.r).zero.cells.toArray, .int .i64 s] w fun e w' => e = .returned (.tuple #[.int .i64 (money (ridP (verT p x.r) s)).1, .int .i64 (money (ridP (verT p x.r) s)).2]) ∧ Bel w w' := fun s hs w => by
    have h := rtime_w (verT p x.r).zero (zero_ok hvt) s hs w
    rw [show ridP (verT p x.r).zero s = ridP (verT p x.r) s by unfold ridP; rfl] at h
    exact h
  have hP : ∀ s : Int, 0 ≤ s ∧ s ≤ 4294944000 → ∀ w, Calls Tryz.prog 110 #[.agg (verT p x.r).zero.cells.toArray, .int .i64 s] w fun e w' => e = .returned (.tuple #[.int .i64 (money (pauP (verT p x.r) s)).1, .int .i64 (money (pauP (verT p x.r) s)).2]) ∧ Bel w w' := fun s hs w => by
    have h := rpauses_w (verT p x.r).zero (zero_ok hvt) s hs w
    rw [show pauP (verT p x.r).zero s = pauP (verT p x.r) s by unfold pauP; rfl] at h
    exact h
  refine H_enter Tryz.func61 rfl Tryz.ntmps61 rfl (H_seq (R0 (X_box (v := .agg _) rfl rfl fun b3 => (X_box (v := .agg _) rfl rfl fun b4 => (xv (asS rfl) (xv (asI rfl) (XN (thenJ_normal (H_seq ?_)))))))))
  refine R0 (xv (e_fld Tryz.underlying28 rfl Tryz.sizeOf25 rfl (q0 rfl)) (xv (eL Tryz.isAgg25 (q0 rfl)) ?_))
  refine xv (e_fld Tryz.underlying54 rfl Tryz.sizeOf50 rfl (q0 rfl)) (xv (e_fld Tryz.underlying50 rfl Tryz.sizeOf3 rfl (q0 rfl)) (xv (eL Tryz.isAgg3 (q0 rfl)) ?_))
  refine xC (en Tryz.call107 (ha2 (q0 rfl) (q0 rfl))) (fun _ w hw => rtat_w a.t.A a.t.n a.t.c p.tariffs x.r.start.lo w (hp.tf.mem hw)) rfl rfl ?_
  rw [hat]
  refine xv (e_mv (q0 rfl)) (xv (e_ext (q0 rfl) rfl) (xv (e_ext (q0 rfl) rfl) (xv (asI rfl) (xv (asI rfl) (XN (thenJ_normal (H_seq (R0 (xv (e_fld Tryz.underlying28 rfl Tryz.sizeOf25 rfl (q0 rfl)) ?_)))))))))
  refine xv (e_ld (v := .slice (some ⟨tb, toff, none⟩) a.t.n a.t.c) Tryz.isAgg25 (q0 rfl) (by rw [← htA]; exact bx 1 rfl rfl)) (xv (mvI rfl) (xv (e_idx (verO p x.r) Tryz.underlying25 Tryz.sizeOf63 (q0 rfl) (q0 rfl) (fun _ => ⟨rfl, hvn⟩)) (xv (e_lds (vs := (verT p x.r).cells) Tryz.isAgg63 Tryz.sizeOf63 (q0 rfl) (rcs hrt htbl) rfl) (X_alloc Tryz.zeroValue63 rfl fun b10 => (X_st (v := .agg _) rfl rfl Tryz.sizeOf63 ?_)))))
  refine XN (thenJ_normal (H_seq (R0 (xv (eS Tryz.isAgg54 Tryz.sizeOf54 (q0 rfl)) ?_))))
  refine xC (en Tryz.call108 (ha1 (q0 rfl))) (fun _ w hw => rseconds_w x w (hx.mem hw) hc ho) rfl rfl (xv (e_mv (q0 rfl)) (xv (e_ext (q0 rfl) rfl) (xv (e_ext (q0 rfl) rfl) (xv (e_ext (q0 rfl) rfl) (xv (asI rfl) (xv (asI rfl) (xv (asI rfl) (XN (thenJ_normal ?_)))))))))
  refine H_seq (R0 (xv (e_fld Tryz.underlying63 rfl Tryz.sizeOf3 rfl (q0 rfl)) (X_st (v := .int _ _) rfl rfl Tryz.sizeOf3 ?_)))
  refine XN (thenJ_normal (H_seq (H_mem (L' := [box b10 63 (verT p x.r).zero.cells, box b4 54 x.cells, box b3 28 (p.cells a)]) (fun w hw => hw) rfl (R0 (xv (eS Tryz.isAgg63 Tryz.sizeOf63 (q0 rfl)) ?_)))))
  refine xv (mvI rfl) (xC (en Tryz.call109 (ha2 (q0 rfl) (q0 rfl))) (fun _ w _ => hT (ridS x.r) hrs w) rfl rfl (xv (e_mv (q0 rfl)) (xv (e_ext (q0 rfl) rfl) (xv (e_ext (q0 rfl) rfl) (xv (asI rfl) (xv (asI rfl) (XN (thenJ_normal (H_seq ?_)))))))))
  refine H_seq (R0 (xv (mvI rfl) (xv (e_ne (q0 rfl) (q0 rfl)) (XN (thenJ_normal (H_cond rfl (fun h1 => ?_) (fun h1 => ?_)))))))
  · have h1' : 1000000000000 < ridP (verT p x.r) (ridS x.r) := by
      apply Classical.byContradiction
      intro hn
      have h : (!decide ((money (ridP (verT p x.r) (ridS x.r))).2 = 0)) = true := h1
      rw [money_ok2 hn] at h
      simp at h
    rw [hfst, if_pos h1']
    refine H_seq (R0 (xv (asS rfl) (xv (asI rfl) (XN (thenJ_normal (H_ret (thenJ_ret ?_)))))))
    exact ret2 (v := .slice _ _ _) (x := .int _ _) rfl rfl rfl rfl fun w' hw => ⟨(none, 0), rfl, mem_nil.2 hw.1⟩
  · have h1' : ¬ 1000000000000 < ridP (verT p x.r) (ridS x.r) := fun hn => by
      have h : (!decide ((money (ridP (verT p x.r) (ridS x.r))).2 = 0)) = false := h1
      have hm : money (ridP (verT p x.r) (ridS x.r)) = (0, 2) := by unfold money; rw [if_pos hn]
      rw [hm] at h
      simp at h
    rw [if_neg h1'] at hfst
    rw [money_ok2 h1']
    refine H_skip (thenJ_normal (H_seq (R0 (xv (eS Tryz.isAgg63 Tryz.sizeOf63 (q0 rfl)) ?_))))
    refine xv (mvI rfl) (xC (en Tryz.call110 (ha2 (q0 rfl) (q0 rfl))) (fun _ w _ => hP (pauS x.r) hps w) rfl rfl (xv (e_mv (q0 rfl)) (xv (e_ext (q0 rfl) rfl) (xv (e_ext (q0 rfl) rfl) (xv (asI rfl) (xv (asI rfl) (XN (thenJ_normal (H_seq ?_)))))))))
    refine H_seq (R0 (xv (mvI rfl) (xv (e_ne (q0 rfl) (q0 rfl)) (XN (thenJ_normal (H_cond rfl (fun h2 => ?_) (fun h2 => ?_)))))))
    · have h2' : 1000000000000 < pauP (verT p x.r) (pauS x.r) := by
        apply Classical.byContradiction
        intro hn
        have h : (!decide ((money (pauP (verT p x.r) (pauS x.r))).2 = 0)) = true := h2
        rw [money_ok2 hn] at h
        simp at h
      rw [hfst, if_pos h2']
      refine H_seq (R0 (xv (asS rfl) (xv (asI rfl) (XN (thenJ_normal (H_ret (thenJ_ret ?_)))))))
      exact ret2 (v := .slice _ _ _) (x := .int _ _) rfl rfl rfl rfl fun w' hw => ⟨(none, 0), rfl, mem_nil.2 hw.1⟩
    · have h2' : ¬ 1000000000000 < pauP (verT p x.r) (pauS x.r) := fun hn => by
        have h : (!decide ((money (pauP (verT p x.r) (pauS x.r))).2 = 0)) = false := h2
        have hm : money (pauP (verT p x.r) (pauS x.r)) = (0, 2) := by unfold money; rw [if_pos hn]
        rw [hm] at h
        simp at h
      rw [if_neg h2'] at hfst
      rw [money_ok2 h2']
      have hpart : ∀ k : Int, 0 ≤ partP p x.r k ∧ partP p x.r k ≤ 1000000000000 ∨ (p.passes.getD k.toNat default).secs < 0 := fun k => by
        by_cases hneg : (p.passes.getD k.toNat default).secs < 0
        · exact .inr hneg
        · left
          unfold partP
          have hmn : min (ridS x.r) (p.passes.getD k.toNat default).secs ≤ ridS x.r := by omega
          have h3 := ridP_mono hvt hmn
          have h4 := ridP_nn hvt (s := min (ridS x.r) (p.passes.getD k.toNat default).secs) (by omega)
          omega
      obtain ⟨B1, hB1⟩ : ∃ B1, B1 = addB ⟨x.r.id, x.r.rider, [], 0⟩ 1 (verO p x.r) (verT p x.r).unlock := ⟨_, rfl⟩
      obtain ⟨B2, hB2⟩ : ∃ B2, B2 = addB B1 2 (verO p x.r) (ridP (verT p x.r) (ridS x.r)) := ⟨_, rfl⟩
      obtain ⟨B3, hB3⟩ : ∃ B3, B3 = addB B2 3 (verO p x.r) (pauP (verT p x.r) (pauS x.r)) := ⟨_, rfl⟩
      obtain ⟨B4, hB4⟩ : ∃ B4, B4 = plcB p x.r := ⟨_, rfl⟩
      have hB3b : B3 = baseB p x.r := by rw [hB3, hB2, hB1]; rfl
      have hB4e : B4 = addB B3 4 (placeP p x.r).2 (max (placeP p x.r).1 (-B3.total)) := by rw [hB4, hB3b]; rfl
      have t1 : B1.total = (verT p x.r).unlock := by rw [hB1, addB_total]; simp
      have t2 : B2.total = B1.total + ridP (verT p x.r) (ridS x.r) := by rw [hB2, addB_total]
      have t3 : B3.total = B2.total + pauP (verT p x.r) (pauS x.r) := by rw [hB3, addB_total]
      have t4 : B4.total = B3.total + max (placeP p x.r).1 (-B3.total) := by rw [hB4e, addB_total]
      have l1 : B1.items.length ≤ 1 := by have := addB_len ⟨x.r.id, x.r.rider, [], 0⟩ 1 (verO p x.r) (verT p x.r).unlock; rw [← hB1] at this; simpa using this
      have l2 : B2.items.length ≤ 2 := by have := addB_len B1 2 (verO p x.r) (ridP (verT p x.r) (ridS x.r)); rw [← hB2] at this; omega
      have l3 : B3.items.length ≤ 3 := by have := addB_len B2 3 (verO p x.r) (pauP (verT p x.r) (pauS x.r)); rw [← hB3] at this; omega
      have l4 : B4.items.length ≤ 4 := by have := addB_len B3 4 (placeP p x.r).2 (max (placeP p x.r).1 (-B3.total)); rw [← hB4e] at this; omega
      have n1 : Ib B1.items := by rw [hB1]; exact addB_Ib Ib.nil (by simp) (by omega)
      have n2 : Ib B2.items := by rw [hB2]; exact addB_Ib n1 (by omega) (by omega)
      have n3 : Ib B3.items := by rw [hB3]; exact addB_Ib n2 (by omega) (by omega)
      have n4 : Ib B4.items := by rw [hB4e]; exact addB_Ib n3 (by omega) (by omega)
      have s1 : totI B1.items = B1.total := by rw [hB1]; exact addB_tot rfl _ _ _
      have s2 : totI B2.items = B2.total := by rw [hB2]; exact addB_tot s1 _ _ _
      have s3 : totI B3.items = B3.total := by rw [hB3]; exact addB_tot s2 _ _ _
      have s4 : totI B4.items = B4.total := by rw [hB4e]; exact addB_tot s3 _ _ _
      have e1 : withI [] 1 (verO p x.r) (verT p x.r).unlock = B1.items := by rw [hB1, addB_items]
      have e2 : withI B1.items 2 (verO p x.r) (ridP (verT p x.r) (ridS x.r)) = B2.items := by rw [hB2, addB_items]
      have e3 : withI B2.items 3 (verO p x.r) (pauP (verT p x.r) (pauS x.r)) = B3.items := by rw [hB3, addB_items]
      have e4 : withI B3.items 4 (placeP p x.r).2 (max (placeP p x.r).1 (-B3.total)) = B4.items := by rw [hB4e, addB_items]
      refine H_skip (thenJ_normal (H_seq (H_mem (L' := [itRow none 0 [], box b10 63 (verT p x.r).zero.cells, box b4 54 x.cells, box b3 28 (p.cells a)]) (fun w hw => hw.nilRow 69 3 Itm.cells rfl) rfl (R0 (xv (mvI rfl) (xv (e_fld Tryz.underlying63 rfl Tryz.sizeOf3 rfl (q0 rfl)) (xv (eL Tryz.isAgg3 (q0 rfl)) ?_)))))))
      refine X_eff (f_callM (en Tryz.call65 (ha4 (q0 rfl) (q0 rfl) (q0 rfl) (q0 rfl))) (fun w hw => with_w (A := none) (c := 0) (l := []) 1 (verO p x.r) (verT p x.r).unlock hw rfl (by simp)) rfl (fun _ => rfl) fun z1 => ?_)
      rw [e1]
      refine xv (asS rfl) (XN (thenJ_normal (H_seq (R0 (xv (mvS rfl) (xv (mvI rfl) (xv (mvI rfl) (X_eff (f_callM (en Tryz.call65 (ha4 (q0 rfl) (q0 rfl) (q0 rfl) (q0 rfl))) (fun w hw => with_w 2 (verO p x.r) (ridP (verT p x.r) (ridS x.r)) hw rfl (by omega)) rfl (fun _ => rfl) fun z2 => ?_)))))))))
      rw [e2]
      refine xv (asS rfl) (XN (thenJ_normal (H_seq (R0 (xv (mvS rfl) (xv (mvI rfl) (xv (mvI rfl) (X_eff (f_callM (en Tryz.call65 (ha4 (q0 rfl) (q0 rfl) (q0 rfl) (q0 rfl))) (fun w hw => with_w 3 (verO p x.r) (pauP (verT p x.r) (pauS x.r)) hw rfl (by omega)) rfl (fun _ => rfl) fun z3 => ?_)))))))))
      rw [e3]
      refine xv (asS rfl) (XN (thenJ_normal (H_seq (R0 (xv (eS Tryz.isAgg28 Tryz.sizeOf28 (q0 rfl)) ?_)))))
      refine xv (eS Tryz.isAgg54 Tryz.sizeOf54 (q0 rfl)) ?_
      refine xC (en Tryz.call111 (ha2 (q0 rfl) (q0 rfl))) (fun _ w hw => rplace_w p a x w (hp.mem hw) hpl) rfl rfl (xv (e_mv (q0 rfl)) (xv (e_ext (q0 rfl) rfl) (xv (e_ext (q0 rfl) rfl) (xv (asI rfl) (xv (asI rfl) (XN (thenJ_normal (H_seq (R0 ?_)))))))))
      refine xv (mvS rfl) (xv (mvI rfl) (xv (mvI rfl) (xv (mvS rfl) (xC (en Tryz.call63 (ha1 (q0 rfl))) (fun _ w hw => rtot_w B3 n3 s3 _ _ _ w (slAt_row hw (j := 0) rfl (fun _ => rfl) (by omega))) rfl rfl (xv (e_neg (r := -B3.total) (q0 rfl) (fun _ => ⟨rfl, by omega, by omega⟩)) (xv (e_maxM (q0 rfl) (q0 rfl)) (X_eff (f_callM (en Tryz.call65 (ha4 (q0 rfl) (q0 rfl) (q0 rfl) (q0 rfl))) (fun w hw => with_w 4 (placeP p x.r).2 (max (placeP p x.r).1 (-B3.total)) hw rfl (by omega)) rfl (fun _ => rfl) fun z4 => ?_))))))))
      rw [e4]
      refine xv (asS rfl) (XN (thenJ_normal (H_seq (H_seq (R0 (xv (mvI rfl) (xv (e_ge (q0 rfl) (q0 rfl)) (XN (thenJ_normal ?_)))))))))
      refine H_cond rfl (fun h5 => ?_) (fun h5 => ?_)
      · have h5' : 0 ≤ by_ := of_decide_eq_true h5
        obtain ⟨k, hk⟩ : ∃ k : Nat, by_ = (k : Int) := ⟨by_.toNat, by omega⟩
        subst hk
        have hkl : k < a.p.n := by have := hp.ps.1; omega
        obtain ⟨pb, poff, q, hpA, hpbl, hq, hrq⟩ := hp.ps.at_ hkl
        have hqd : p.passes.getD ((k : Int)).toNat default = q := by rw [Int.toNat_natCast, List.getD_eq_getElem?_getD, hq]; rfl
        have hqs : 0 ≤ q.secs := by
          unfold pasErr at hpe
          split at hpe
          · cases hpe
          · split at hpe
            · cases hpe
            · rename_i h8
              have h9 : p.passes.any pasBad = false := by simpa using h8
              rw [List.any_eq_false] at h9
              have h10 := h9 q (List.mem_of_getElem? hq)
              unfold pasBad pasBad1 at h10
              simp only [Bool.or_eq_true, not_or, Bool.not_eq_true, Bool.not_eq_true', Bool.not_eq_false, inI_iff] at h10
              exact h10.1.2.1
        have hpr : 0 ≤ partP p x.r (k : Int) ∧ partP p x.r (k : Int) ≤ 1000000000000 := by
          rcases hpart (k : Int) with h | h
          · exact h
          · rw [hqd] at h; omega
        have hpe2 : partP p x.r (k : Int) = ridP (verT p x.r) (min (ridS x.r) q.secs) := by unfold partP; rw [hqd]
        rw [if_neg (fun h => by omega)] at hfst
        obtain ⟨B5, hB5⟩ : ∃ B5, B5 = passB p x.r (k : Int) := ⟨_, rfl⟩
        have hB5e : B5 = addB B4 5 (k : Int) (-(min B4.total ((verT p x.r).unlock + partP p x.r (k : Int)))) := by rw [hB5]; unfold passB; rw [if_pos h5', ← hB4]
        rw [← hB5] at hfst
        have n5 : Ib B5.items := by rw [hB5e]; exact addB_Ib n4 (by omega) (by omega)
        have s5 : totI B5.items = B5.total := by rw [hB5e]; exact addB_tot s4 _ _ _
        have e5 : withI B4.items 5 (k : Int) (-(min B4.total ((verT p x.r).unlock + partP p x.r (k : Int)))) = B5.items := by rw [hB5e, addB_items]
        have l5 : B5.items.length ≤ 5 := by have := addB_len B4 5 (k : Int) (-(min B4.total ((verT p x.r).unlock + partP p x.r (k : Int)))); rw [← hB5e] at this; omega
        refine H_seq (R1 rfl (by decide +kernel) (xv (eS Tryz.isAgg63 Tryz.sizeOf63 (q0 rfl)) ?_))
        refine xv (mvI rfl) (xv (e_fld Tryz.underlying28 rfl Tryz.sizeOf26 rfl (q0 rfl)) (xv (e_ld (v := .slice (some ⟨pb, poff, none⟩) a.p.n a.p.c) Tryz.isAgg26 (q0 rfl) (by rw [← hpA]; exact bx 3 rfl rfl)) (xv (mvI rfl) (xv (e_idx k Tryz.underlying26 Tryz.sizeOf81 (q0 rfl) (q0 rfl) (fun _ => ⟨rfl, hkl⟩)) (xv (e_fld Tryz.underlying81 rfl Tryz.sizeOf3 rfl (q0 rfl)) (xv (e_ld (v := .int .i64 q.secs) Tryz.isAgg3 (q0 rfl) (by exact rc (j := 5) hrq hpbl rfl)) ?_))))))
        refine xv (e_minM (q0 rfl) (q0 rfl)) (xC (en Tryz.call109 (ha2 (q0 rfl) (q0 rfl))) (fun _ w _ => hT (min (ridS x.r) q.secs) (by omega) w) rfl rfl ?_)
        rw [← hpe2, money_ok2 (by omega)]
        refine xv (e_mv (q0 rfl)) (xv (e_ext (q0 rfl) rfl) (xv (e_ext (q0 rfl) rfl) (xv (asI rfl) (xv (asI rfl) (XN (thenJ_normal (RAd 1 rfl (by decide +kernel) (aV 0 (by decide +kernel) rfl (mvS rfl) rfl (aV 1 (by decide +kernel) rfl (mvI rfl) rfl ?_)))))))))
        refine aV 2 (by decide +kernel) rfl (mvS rfl) rfl (aV 4 (by decide +kernel) rfl (e_fld Tryz.underlying63 rfl Tryz.sizeOf3 rfl (q0 rfl)) rfl (aV 5 (by decide +kernel) rfl (eL Tryz.isAgg3 (q0 rfl)) rfl ?_))
        refine aV 6 (by decide +kernel) rfl (mvI rfl) rfl (aV 7 (by decide +kernel) rfl (e_add (r := (verT p x.r).unlock + partP p x.r (k : Int)) (q0 rfl) (q0 rfl) (fun _ => ⟨rfl, by omega, by omega⟩)) rfl (rdy1 (i := 3) (by decide +kernel) (sub_drop 1) (aL rfl (f_callx (en Tryz.call63 (ha1 (q0 rfl))) (fun w hw => toU1 (rtot_w B4 n4 s4 _ _ _ w (slAt_row hw (j := 0) rfl (fun _ => rfl) (by omega)))) rfl (fun _ => rfl) fun u3 => (aV 8 (by decide +kernel) rfl (e_minM (q0 rfl) (q0 rfl)) rfl (aV 9 (by decide +kernel) rfl (e_neg (r := -(min B4.total ((verT p x.r).unlock + partP p x.r (k : Int)))) (q0 rfl) (fun _ => ⟨rfl, by omega, by omega⟩)) rfl (rdy1 (i := 10) (by decide +kernel) (sub_drop 1) (aL rfl (f_callM (en Tryz.call65 (ha4 (q0 rfl) (q0 rfl) (q0 rfl) (q0 rfl))) (fun w hw => with_w 5 (k : Int) (-(min B4.total ((verT p x.r).unlock + partP p x.r (k : Int)))) hw rfl (by omega)) rfl (fun _ => rfl) fun z5 => (aV 11 (by decide +kernel) rfl (asS rfl) rfl (aZ (by decide +kernel) (sub_drop 1) ?_)))))))))))
        refine thenJ_normal (H_seq (H_seq ?_))
        rw [e5]
        refine R0 (xv (mvS rfl) (xC (en Tryz.call63 (ha1 (q0 rfl))) (fun _ w hw => rtot_w B5 n5 s5 _ _ _ w (slAt_row hw (j := 0) rfl (fun _ => rfl) (by omega))) rfl rfl (xv (e_gt (q0 rfl) (q0 rfl)) (XN (thenJ_normal (H_cond rfl (fun h8 => ?_) (fun h8 => ?_)))))))
        · have h8' : 1000000000000 < B5.total := of_decide_eq_true h8
          rw [hfst, if_pos h8']
          refine H_seq (R0 (xv (asS rfl) (xv (asI rfl) (XN (thenJ_normal (H_ret (thenJ_ret ?_)))))))
          exact ret2 (v := .slice _ _ _) (x := .int _ _) rfl rfl rfl rfl fun w' hw => ⟨(none, 0), rfl, mem_nil.2 hw.1⟩
        · have h8' : ¬ 1000000000000 < B5.total := of_decide_eq_false h8
          rw [hfst, if_neg h8']
          refine H_skip (thenJ_normal (H_seq (R0 (xv (mvS rfl) (xv (asS rfl) (xv (asI rfl) (XN (thenJ_normal (H_ret ?_)))))))))
          exact ret2 (v := .slice _ _ _) (x := .int _ _) rfl rfl rfl rfl fun w' hw => ⟨z5, rfl, hw.pick [0] (by decide)⟩
      · have h5' : ¬ 0 ≤ by_ := of_decide_eq_false h5
        have hpB : passB p x.r by_ = B4 := by unfold passB; rw [if_neg h5', hB4]
        rw [if_neg (fun h => h5' h.1), hpB] at hfst
        refine H_skip (thenJ_normal (H_seq (H_seq (R0 (xv (mvS rfl) (xC (en Tryz.call63 (ha1 (q0 rfl))) (fun _ w hw => rtot_w B4 n4 s4 _ _ _ w (slAt_row hw (j := 0) rfl (fun _ => rfl) (by omega))) rfl rfl (xv (e_gt (q0 rfl) (q0 rfl)) (XN (thenJ_normal ?_)))))))))
        refine H_cond rfl (fun h6 => ?_) (fun h6 => ?_)
        · have h6' : 1000000000000 < B4.total := of_decide_eq_true h6
          rw [hfst, if_pos h6']
          refine H_seq (R0 (xv (asS rfl) (xv (asI rfl) (XN (thenJ_normal (H_ret (thenJ_ret ?_)))))))
          exact ret2 (v := .slice _ _ _) (x := .int _ _) rfl rfl rfl rfl fun w' hw => ⟨(none, 0), rfl, mem_nil.2 hw.1⟩
        · have h6' : ¬ 1000000000000 < B4.total := of_decide_eq_false h6
          rw [hfst, if_neg h6']
          refine H_skip (thenJ_normal (H_seq (R0 (xv (mvS rfl) (xv (asS rfl) (xv (asI rfl) (XN (thenJ_normal (H_ret ?_)))))))))
          exact ret2 (v := .slice _ _ _) (x := .int _ _) rfl rfl rfl rfl fun w' hw => ⟨z4, rfl, hw.pick [0] (by decide)⟩

end Go.Proofs.Far

/-
  The walks: what the reference checks; the rides that count.
-/
namespace Go.Proofs.Far
open Go Go.RowKit Go.Proofs.E Go.Proofs.Cus Go.Proofs.Rid

theorem twice_app : ∀ (a b seen : List Int), twiceI seen a = true → twiceI seen (a ++ b) = true
  | [], _, _, h => by cases h
  | x :: a, b, seen, h => by
    rw [List.cons_append]
    unfold twiceI at h ⊢
    rw [Bool.or_eq_true] at h ⊢
    rcases h with h | h
    · exact .inl h
    · exact .inr (twice_app a b _ h)
theorem tw_mono {ids : List Int} {i n : Nat} (h : tw ids i = true) (hi : i ≤ n) : tw ids n = true := by
  unfold tw at *
  have : ids.take n = ids.take i ++ (ids.take n).drop i := by
    have h2 := List.take_append_drop i (ids.take n)
    rw [List.take_take, show min i n = i by omega] at h2
    exact h2.symm
  rw [this]
  exact twice_app _ _ _ h
def ckErr (f : Fl) (p : Pr) (rs : List Rd) (vs : List Pen.V) : Int := if prErr f p ≠ 0 then prErr f p else if rdsErr rs ≠ 0 then rdsErr rs else Pen.vErr vs
attribute [local irreducible] tw
set_option maxHeartbeats 1000000 in
set_option maxRecDepth 20000 in
theorem rchecked_w (f : Fl) (fa : FA) (p : Pr) (a : PrA) (A : Option Addr) (n c : Nat) (rs : List RX) (V : Option Addr) (vn vc : Nat) (vs : List Pen.V) (w : World) (hf : FlAt w f fa) (hp : PrAt w p a) (hr : RdsAt w A n rs) (hs : ∀ x ∈ rs, x.r.pauses.length ≤ 1000) (hv : Pen.VsAt w V vn vs) :
    Calls Tryz.prog 58 #[.agg (f.cells fa).toArray, .agg (p.cells a).toArray, .slice A n c, .slice V vn vc] w fun e w' => e = .returned (.int .i64 (ckErr f p (rs.map (·.r)) vs)) ∧ Bel w w' := by
  have hl := hr.1.1
  have hn := hr.1.2.1
  obtain ⟨ids, hids⟩ : ∃ ids : List Int, ids = (rs.map (·.r)).map (·.id) := ⟨_, rfl⟩
  have hidl : ids.length = n := by rw [hids, List.length_map, List.length_map, hl]
  refine H_enter Tryz.func58 rfl Tryz.ntmps58 rfl (H_seq (R0 (X_box (v := .agg _) rfl rfl fun b4 => (X_box (v := .agg _) rfl rfl fun b5 => (xv (asI rfl) (XN (thenJ_normal (H_seq (H_seq ?_)))))))))
  refine R0 (xv (eS Tryz.isAgg24 Tryz.sizeOf24 (q0 rfl)) ?_)
  refine xv (eS Tryz.isAgg28 Tryz.sizeOf28 (q0 rfl)) ?_
  refine xC (en Tryz.call13 (ha2 (q0 rfl) (q0 rfl))) (fun _ w hw => rfcheck_w f fa p a w (hf.mem hw) (hp.mem hw)) rfl rfl (xv (asI rfl) (XN (thenJ_normal (H_seq (R0 (xv (mvI rfl) (xv (e_ne (q0 rfl) (q0 rfl)) (XN (thenJ_normal ?_)))))))))
  refine H_cond rfl (fun h1 => ?_) (fun h1 => ?_)
  · have h1' : prErr f p ≠ 0 := by simpa using h1
    refine H_seq (R0 (xv (mvI rfl) (xv (asI rfl) (XN (thenJ_normal (H_ret (thenJ_ret ?_)))))))
    exact ret1 (v := .int _ _) rfl rfl rfl fun w' hw => ⟨ret_int (by unfold ckErr; rw [if_pos h1']), hw.1⟩
  · have h1' : prErr f p = 0 := by simpa using h1
    have hck : ckErr f p (rs.map (·.r)) vs = if rdsErr (rs.map (·.r)) ≠ 0 then rdsErr (rs.map (·.r)) else Pen.vErr vs := by unfold ckErr; rw [if_neg (by omega)]
    rw [hck]
    refine H_skip (thenJ_normal (H_seq (H_seq (R0 (xv (mvS rfl) (xv (e_len Tryz.underlying36 (q0 rfl)) (xv (e_gt (q0 rfl) (q0 rfl)) (XN (thenJ_normal ?_)))))))))
    refine H_cond rfl (fun h2 => ?_) (fun h2 => ?_)
    · have h2' : 256 < n := by
        have h : (256 : Int) < (n : Int) := of_decide_eq_true h2
        omega
      have he : rdsErr (rs.map (·.r)) = 8 := by unfold rdsErr; rw [if_pos (by rw [List.length_map]; omega)]
      rw [he]
      refine H_seq (R0 (xv (asI rfl) (XN (thenJ_normal (H_ret (thenJ_ret ?_))))))
      exact ret1 (v := .int _ _) rfl rfl rfl fun w' hw => ⟨ret_int (by rw [if_pos (by decide)]), hw.1⟩
    · have h2' : ¬ 256 < n := by
        have h : ¬ (256 : Int) < (n : Int) := of_decide_eq_false h2
        omega
      have herr : rdsErr (rs.map (·.r)) = if rdsErrL (rs.map (·.r)) ≠ 0 then rdsErrL (rs.map (·.r)) else if tw ids n = true then 6 else 0 := by
        unfold rdsErr tw
        rw [if_neg (by rw [List.length_map]; omega), hids, List.take_of_length_le (by rw [List.length_map, List.length_map]; omega)]
      refine H_skip (thenJ_normal (H_seq (H_seq (R0 (xv (asI rfl) (XN (thenJ_normal (H_block (H_loop [8, 10, 11, 23, 24, 25, 26, 27, 28, 29, 30, 31, 32, 33, 34, 35, 36] (fun k : Nat => [(10, .int .i64 k)]) (fun _ => []) (fun k => k ≤ n ∧ rdsErrL (rs.map (·.r)) = rdsErrL ((rs.map (·.r)).drop k)) (fun k => n - k) 0 ⟨rfl, trivial⟩ (fun w hw => mem_nil.2 hw.1) rfl ⟨Nat.zero_le _, rfl⟩ ?_)))))))))
      rintro k g ⟨hk, hall⟩
      refine H_seq (H_seq (R0 (xv (mvI rfl) (xv (mvS rfl) (xv (e_len Tryz.underlying36 (q0 rfl)) (xv (e_lt (q0 rfl) (q0 rfl)) (XN (thenJ_normal (H_cond rfl (fun hlt => ?_) (fun hlt => ?_))))))))))
      · have hlt' : k < n := by simpa using hlt
        obtain ⟨b, off, x, rfl, hbl, hxk, hrx⟩ := hr.1.at_ hlt'
        have hxm := List.mem_of_getElem? hxk
        have hxr : (rs.map (·.r))[k]? = some x.r := by simp [hxk]
        rw [rdsErrL_at hxr] at hall
        refine H_skip (thenJ_normal (H_seq (H_block (H_seq (R0 (xv (mvS rfl) (xv (mvI rfl) (xv (e_idx _ Tryz.underlying36 Tryz.sizeOf54 (q0 rfl) (q0 rfl) (fun _ => ⟨rfl, by omega⟩)) (xv (eS Tryz.isAgg54 Tryz.sizeOf54 (q0 rfl)) ?_)))))))))
        refine xC (en Tryz.call100 (ha1 (q0 rfl))) (fun _ w hw => refcheck_w x w ((hr.2 x hxm).mem hw) (hs x hxm)) rfl rfl (xv (asI rfl) (XN (thenJ_normal (H_seq (R0 (xv (mvI rfl) (xv (e_ne (q0 rfl) (q0 rfl)) (XN (thenJ_normal ?_)))))))))
        refine H_cond rfl (fun h3 => ?_) (fun h3 => ?_)
        · have h3' : checkR x.r ≠ 0 := by simpa using h3
          rw [if_pos h3'] at hall
          rw [hall, if_pos h3'] at herr
          refine H_seq (R0 (xv (mvI rfl) (xv (asI rfl) (XN (thenJ_normal (H_ret (blockJ_ret (thenJ_ret (loopJ_ret ?_)))))))))
          refine blockJ_ret (thenJ_ret ?_)
          exact ret1 (v := .int _ _) rfl rfl rfl fun w' hw => ⟨ret_int (by rw [herr, if_pos h3']), hw.1⟩
        · have h3' : ¬ checkR x.r ≠ 0 := by simpa using h3
          rw [if_neg h3'] at hall
          refine H_skip (blockJ_normal (thenJ_normal (R0 (xv (mvI rfl) (xv (e_add (q0 rfl) (q0 rfl) (fun _ => ⟨rfl, by omega, by omega⟩)) (xv (asI rfl) (XN ?_)))))))
          exact loopJ_normal (k + 1) agr ⟨rfl, trivial⟩ (fun w hw => hw) rfl ⟨by omega, hall⟩ (by show n - (k + 1) < n - k; omega)
      · have hend : k = n := by simp at hlt; omega
        have h0 : rdsErrL (rs.map (·.r)) = 0 := by rw [hall, List.drop_of_length_le (by rw [List.length_map]; omega)]; rfl
        rw [h0, if_neg (by omega)] at herr
        refine H_exit (thenJ_exit (loopJ_exit (blockJ_hit (thenJ_normal (H_seq (H_seq (R0 (xv (asI rfl) (XN ?_)))))))))
        refine thenJ_normal (H_block (H_loop [8, 12, 13, 37, 38, 39, 40, 41, 42, 43, 44, 45, 46, 47, 48, 49, 50, 51, 52, 53, 54, 55, 56, 57, 58] (fun i : Nat => [(12, .int .i64 i)]) (fun _ => []) (fun i => i ≤ n ∧ tw ids i = false) (fun i => n - i) 0 ⟨rfl, trivial⟩ (fun w hw => hw) rfl ⟨Nat.zero_le _, by unfold tw; rfl⟩ ?_))
        rintro i g2 ⟨hi, hti⟩
        refine H_seq (H_seq (R0 (xv (mvI rfl) (xv (mvS rfl) (xv (e_len Tryz.underlying36 (q0 rfl)) (xv (e_lt (q0 rfl) (q0 rfl)) (XN (thenJ_normal (H_cond rfl (fun hlt2 => ?_) (fun hlt2 => ?_))))))))))
        · have hlt2' : i < n := by simpa using hlt2
          obtain ⟨b, off, x, rfl, hbl, hxi, hrx⟩ := hr.1.at_ hlt2'
          have hii : ids[i]? = some x.r.id := by rw [hids]; simp [hxi]
          have hts := tw_succ hii
          rw [hti, Bool.false_or] at hts
          refine H_skip (thenJ_normal (H_seq (H_block (H_seq (R0 (xv (asI rfl) (XN (thenJ_normal (H_block ?_)))))))))
          refine H_loop [8, 13, 43, 44, 45, 46, 47, 48, 49, 50, 51, 52, 53, 54, 55, 56, 57, 58] (fun k : Nat => [(13, .int .i64 k)]) (fun _ => []) (fun k => k ≤ i ∧ hasI (ids.take k) x.r.id = false) (fun k => i - k) 0 ⟨rfl, trivial⟩ (fun w hw => hw) rfl ⟨Nat.zero_le _, rfl⟩ ?_
          rintro j g3 ⟨hj, hhj⟩
          refine H_seq (H_seq (R0 (xv (mvI rfl) (xv (mvI rfl) (xv (e_lt (q0 rfl) (q0 rfl)) (XN (thenJ_normal (H_cond rfl (fun hlt3 => ?_) (fun hlt3 => ?_)))))))))
          · have hlt3' : j < i := by simpa using hlt3
            obtain ⟨b2, off2, y, hA, hbl2, hyj, hry⟩ := hr.1.at_ (show j < n by omega)
            cases hA
            have hij : ids[j]? = some y.r.id := by rw [hids]; simp [hyj]
            have hhs : hasI (ids.take (j + 1)) x.r.id = (hasI (ids.take j) x.r.id || (y.r.id == x.r.id)) := by
              rw [snocT _ _ _ hij]
              unfold hasI
              rw [List.any_append]; simp
            refine H_skip (thenJ_normal (H_seq (H_block (H_seq (R1 rfl (by decide +kernel) (xv (mvS rfl) (xv (mvI rfl) (xv (e_idx i Tryz.underlying36 Tryz.sizeOf54 (q0 rfl) (q0 rfl) (fun _ => ⟨rfl, hlt2'⟩)) (xv (e_fld Tryz.underlying54 rfl Tryz.sizeOf3 rfl (q0 rfl)) ?_)))))))))
            refine xv (e_ld (v := .int .i64 x.r.id) Tryz.isAgg3 (q0 rfl) (by exact rc0 hrx hbl rfl)) ?_
            refine xv (mvS rfl) (xv (mvI rfl) (xv (e_idx j Tryz.underlying36 Tryz.sizeOf54 (q0 rfl) (q0 rfl) (fun _ => ⟨rfl, by omega⟩)) (xv (e_fld Tryz.underlying54 rfl Tryz.sizeOf3 rfl (q0 rfl)) (xv (e_ld (v := .int .i64 y.r.id) Tryz.isAgg3 (q0 rfl) (by exact rc0 hry hbl rfl)) ?_))))
            refine xv (e_eq (q0 rfl) (q0 rfl)) (XN (thenJ_normal (H_cond rfl (fun h4 => ?_) (fun h4 => ?_))))
            · have h4' : x.r.id = y.r.id := of_decide_eq_true h4
              have hh : hasI (ids.take i) x.r.id = true := by
                unfold hasI
                rw [List.any_eq_true]
                refine ⟨y.r.id, ?_, by simp [h4']⟩
                exact List.mem_of_getElem? (i := j) (by rw [List.getElem?_take, if_pos hlt3']; exact hij)
              have ht : tw ids n = true := tw_mono (i := i + 1) (hts.trans hh) (by omega)
              rw [if_pos ht] at herr
              rw [herr]
              refine H_seq (R0 (xv (asI rfl) (XN (thenJ_normal (H_ret (blockJ_ret (thenJ_ret (loopJ_ret (blockJ_ret ?_)))))))))
              refine blockJ_ret (thenJ_ret (loopJ_ret (blockJ_ret (thenJ_ret ?_))))
              exact ret1 (v := .int _ _) rfl rfl rfl fun w' hw => ⟨ret_int (by rw [if_pos (by decide)]), hw.1⟩
            · have h4' : ¬ x.r.id = y.r.id := of_decide_eq_false h4
              refine H_skip (blockJ_normal (thenJ_normal (R0 (xv (mvI rfl) (xv (e_add (q0 rfl) (q0 rfl) (fun _ => ⟨rfl, by omega, by omega⟩)) (xv (asI rfl) (XN ?_)))))))
              exact loopJ_normal (j + 1) agr ⟨rfl, trivial⟩ (fun w hw => hw) rfl ⟨by omega, by rw [hhs, hhj]; simp; exact fun h => h4' h.symm⟩ (by show i - (j + 1) < i - j; omega)
          · have hend2 : j = i := by simp at hlt3; omega
            rw [hend2] at hhj
            refine H_exit (thenJ_exit (loopJ_exit (blockJ_hit (blockJ_normal (thenJ_normal (R0 (xv (mvI rfl) (xv (e_add (q0 rfl) (q0 rfl) (fun _ => ⟨rfl, by omega, by omega⟩)) (xv (asI rfl) ?_)))))))))
            refine XN ?_
            exact loopJ_normal (i + 1) agr ⟨rfl, trivial⟩ (fun w hw => hw) rfl ⟨by omega, hts.trans hhj⟩ (by show n - (i + 1) < n - i; omega)
        · have hend2 : i = n := by simp at hlt2; omega
          rw [hend2] at hti
          rw [hti] at herr
          rw [herr]
          refine H_exit (thenJ_exit (loopJ_exit (blockJ_hit (thenJ_normal (H_seq (R0 (xv (mvS rfl) (xC (en Tryz.call101 (ha1 (q0 rfl))) (fun _ w hw => Pen.rverd_w V vn vc vs w (hv.mem hw)) rfl rfl (xv (asI rfl) ?_)))))))))
          refine XN (thenJ_normal (H_ret ?_))
          exact ret1 (v := .int _ _) rfl rfl rfl fun w' hw => ⟨ret_int (by rw [if_neg (by simp)]), hw.1⟩

/-! the rides that count -/
set_option maxRecDepth 20000 in
theorem rbef_w (x y : RX) (w : World) : Calls Tryz.prog 102 #[.agg x.cells.toArray, .agg y.cells.toArray] w fun e w' => e = .returned (.bool (rideLt x.r y.r)) ∧ Bel w w' := by
  refine H_enter Tryz.func102 rfl Tryz.ntmps102 rfl (H_seq (R0 (X_box (v := .agg _) rfl rfl fun b2 => (X_box (v := .agg _) rfl rfl fun b3 => (xv (asB rfl) (XN (thenJ_normal (H_seq (H_seq ?_)))))))))
  refine R0 (xv (e_fld Tryz.underlying54 rfl Tryz.sizeOf50 rfl (q0 rfl)) (xv (e_fld Tryz.underlying50 rfl Tryz.sizeOf3 rfl (q0 rfl)) (xv (eL Tryz.isAgg3 (q0 rfl)) ?_)))
  refine xv (e_fld Tryz.underlying54 rfl Tryz.sizeOf50 rfl (q0 rfl)) (xv (e_fld Tryz.underlying50 rfl Tryz.sizeOf3 rfl (q0 rfl)) (xv (eL Tryz.isAgg3 (q0 rfl)) ?_))
  refine xv (e_ne (q0 rfl) (q0 rfl)) (XN (thenJ_normal (H_cond rfl (fun h1 => ?_) (fun h1 => ?_))))
  · have h1' : ¬ x.r.start.lo = y.r.start.lo := by simpa using h1
    refine H_seq (R0 (xv (e_fld Tryz.underlying54 rfl Tryz.sizeOf50 rfl (q0 rfl)) (xv (e_fld Tryz.underlying50 rfl Tryz.sizeOf3 rfl (q0 rfl)) (xv (eL Tryz.isAgg3 (q0 rfl)) ?_))))
    refine xv (e_fld Tryz.underlying54 rfl Tryz.sizeOf50 rfl (q0 rfl)) (xv (e_fld Tryz.underlying50 rfl Tryz.sizeOf3 rfl (q0 rfl)) (xv (eL Tryz.isAgg3 (q0 rfl)) ?_))
    refine xv (e_lt (q0 rfl) (q0 rfl)) (xv (asB rfl) (XN (thenJ_normal (H_ret (thenJ_ret ?_)))))
    exact ret1 (v := .bool _) rfl rfl rfl fun w' hw => ⟨ret_bool (by unfold rideLt; simp [h1']), hw.1⟩
  · have h1' : x.r.start.lo = y.r.start.lo := by simpa using h1
    refine H_skip (thenJ_normal (H_seq (H_seq (R0 (xv (e_fld Tryz.underlying54 rfl Tryz.sizeOf50 rfl (q0 rfl)) (xv (e_fld Tryz.underlying50 rfl Tryz.sizeOf3 rfl (q0 rfl)) (xv (eL Tryz.isAgg3 (q0 rfl)) ?_)))))))
    refine xv (e_fld Tryz.underlying54 rfl Tryz.sizeOf50 rfl (q0 rfl)) (xv (e_fld Tryz.underlying50 rfl Tryz.sizeOf3 rfl (q0 rfl)) (xv (eL Tryz.isAgg3 (q0 rfl)) ?_))
    refine xv (e_ne (q0 rfl) (q0 rfl)) (XN (thenJ_normal (H_cond rfl (fun h2 => ?_) (fun h2 => ?_))))
    · have h2' : ¬ x.r.end_.lo = y.r.end_.lo := by simpa using h2
      refine H_seq (R0 (xv (e_fld Tryz.underlying54 rfl Tryz.sizeOf50 rfl (q0 rfl)) (xv (e_fld Tryz.underlying50 rfl Tryz.sizeOf3 rfl (q0 rfl)) (xv (eL Tryz.isAgg3 (q0 rfl)) ?_))))
      refine xv (e_fld Tryz.underlying54 rfl Tryz.sizeOf50 rfl (q0 rfl)) (xv (e_fld Tryz.underlying50 rfl Tryz.sizeOf3 rfl (q0 rfl)) (xv (eL Tryz.isAgg3 (q0 rfl)) ?_))
      refine xv (e_lt (q0 rfl) (q0 rfl)) (xv (asB rfl) (XN (thenJ_normal (H_ret (thenJ_ret ?_)))))
      exact ret1 (v := .bool _) rfl rfl rfl fun w' hw => ⟨ret_bool (by unfold rideLt; simp [h1', h2']), hw.1⟩
    · have h2' : x.r.end_.lo = y.r.end_.lo := by simpa using h2
      refine H_skip (thenJ_normal (H_seq (R0 (xv (e_fld Tryz.underlying54 rfl Tryz.sizeOf3 rfl (q0 rfl)) (xv (eL Tryz.isAgg3 (q0 rfl)) ?_)))))
      refine xv (e_fld Tryz.underlying54 rfl Tryz.sizeOf3 rfl (q0 rfl)) (xv (eL Tryz.isAgg3 (q0 rfl)) ?_)
      refine xv (e_lt (q0 rfl) (q0 rfl)) (xv (asB rfl) (XN (thenJ_normal (H_ret ?_))))
      exact ret1 (v := .bool _) rfl rfl rfl fun w' hw => ⟨ret_bool (by unfold rideLt; simp [h1', h2']), hw.1⟩
theorem rideLt_asymm {a b : Rd} (h : rideLt a b = true) : rideLt b a = false := by
  cases h2 : rideLt b a with
  | false => rfl
  | true =>
    have := rideLt_trans h h2
    unfold rideLt at this
    simp at this
theorem rideLe_chain {a b c : Rd} (h1 : rideLt b a = false) (h2 : rideLt c b = false) : rideLt c a = false := by
  have := rideLe_trans a b c (by rw [h1]; rfl) (by rw [h2]; rfl)
  simpa using this
/-- a ride put in its place -/
theorem insC_sorted {s : List RX} {x : RX} {k : Nat} (hs : s.Pairwise fun a b => rideLt b.r a.r = false) (hk : k ≤ s.length) (hb : ∀ y ∈ s.drop k, rideLt x.r y.r = true) (ha : ∀ z, k ≠ 0 → s[k - 1]? = some z → rideLt x.r z.r = false) : (s.take k ++ x :: s.drop k).Pairwise fun a b => rideLt b.r a.r = false := by
  have hall : ∀ y ∈ s.take k, rideLt x.r y.r = false := fun y hy => by
    obtain ⟨i, hi, hiy⟩ := List.getElem_of_mem hy
    rw [List.length_take] at hi
    rw [List.getElem_take] at hiy
    have hk0 : k ≠ 0 := by omega
    have hz := ha s[k - 1] hk0 (List.getElem?_eq_getElem (by omega))
    by_cases hik : i = k - 1
    · subst hik
      rw [← hiy]
      exact hz
    · have := List.pairwise_iff_getElem.1 hs i (k - 1) (by omega) (by omega) (by omega)
      rw [← hiy]
      exact rideLe_chain this hz
  have h2 : (s.take k ++ s.drop k).Pairwise fun a b => rideLt b.r a.r = false := by rw [List.take_append_drop]; exact hs
  obtain ⟨p1, p2, p3⟩ := List.pairwise_append.1 h2
  refine List.pairwise_append.2 ⟨p1, List.pairwise_cons.2 ⟨fun y hy => rideLt_asymm (hb y hy), p2⟩, fun a h b hb2 => ?_⟩
  rcases List.mem_cons.1 hb2 with rfl | hb2
  · exact hall a h
  · exact p3 a h b hb2
theorem ins_perm {α : Type} {s t : List α} {x : α} {j : Nat} (h : s.Perm t) : (s.take j ++ x :: s.drop j).Perm (t ++ [x]) := by
  refine List.perm_middle.trans ?_
  rw [List.take_append_drop]
  exact ((List.perm_append_singleton x s).symm).trans (h.append_right [x])
set_option maxHeartbeats 2000000 in
set_option maxRecDepth 20000 in
theorem rcount_w (A : Option Addr) (n c : Nat) (rs : List RX) (w : World) (hr : SlAt w 13 RX.cells A n rs) (hn : n ≤ 1000) :
    Calls Tryz.prog 59 #[.slice A n c] w fun e w' => ∃ z : { z : List RX × (Option Addr × Nat) // z.1.Perm (rs.filter fun x => !x.r.open_) ∧ z.1.Pairwise fun a b => rideLt b.r a.r = false }, e = .returned (.slice z.1.2.1 z.1.1.length z.1.2.2) ∧ Mem w [rdRow z.1.2.1 z.1.2.2 z.1.1] w' := by
  have hl := hr.1
  obtain ⟨Q, hQ⟩ : ∃ Q : Nat → List RX, ∀ k, Q k = (rs.take k).filter fun x => !x.r.open_ := ⟨_, fun _ => rfl⟩
  have hQ0 : Q 0 = [] := by rw [hQ]; rfl
  have hQn : Q n = rs.filter fun x => !x.r.open_ := by rw [hQ, ← hl, List.take_length]
  have hQl : ∀ k, (Q k).length ≤ n := fun k => by
    rw [hQ]
    exact Nat.le_trans (List.length_filter_le _ _) (by rw [List.length_take]; omega)
  have hQs : ∀ k x, rs[k]? = some x → Q (k + 1) = if (!x.r.open_) = true then Q k ++ [x] else Q k := fun k x h => by
    rw [hQ, hQ, snocT _ _ _ h, List.filter_append]
    split
    · rename_i ho; rw [List.filter_cons_of_pos (p := fun x : RX => !x.r.open_) ho]; rfl
    · rename_i ho; rw [List.filter_cons_of_neg (p := fun x : RX => !x.r.open_) ho]; simp
  refine H_enter Tryz.func59 rfl Tryz.ntmps59 rfl (H_seq (R0 (xv (asS rfl) (XN (thenJ_normal (H_seq (R0 (X_eff (f_slit0 RX.cells Tryz.underlying36 Tryz.sizeOf54 rfl fun A0 c0 => (xv (asS rfl) ?_))))))))))
  refine XN (thenJ_normal (H_seq (H_seq (R0 (xv (asI rfl) (XN (thenJ_normal (H_block (H_loop [3, 4, 5, 6, 8, 9, 10, 11, 12, 13, 14, 15, 16, 17, 18, 19, 20, 21, 22, 23, 24, 25, 26, 27, 28, 29, 30, 31, 32, 33, 34, 35, 36, 37, 38, 39, 40, 41, 42, 43, 44, 45, 46, 47, 48, 49, 50, 51, 52, 53] (fun q : Nat × List RX × (Option Addr × Nat) => [(4, .int .i64 q.1), (3, .slice q.2.2.1 q.2.1.length q.2.2.2)]) (fun q => [rdRow q.2.2.1 q.2.2.2 q.2.1]) (fun q => q.1 ≤ n ∧ q.2.1.Perm (Q q.1) ∧ q.2.1.Pairwise fun a b => rideLt b.r a.r = false) (fun q => n - q.1) (0, [], (A0, c0)) ⟨rfl, rfl, trivial⟩ (fun w hw => hw) rfl ⟨Nat.zero_le _, by rw [hQ0], List.Pairwise.nil⟩ ?_)))))))))
  rintro ⟨i, s, ⟨sA, sc⟩⟩ g ⟨hi, hsp, hso⟩
  simp only at hi hsp hso
  have hsl : s.length ≤ n := by rw [hsp.length_eq]; exact hQl i
  refine H_seq (H_seq (R0 (xv (mvI rfl) (xv (mvS rfl) (xv (e_len Tryz.underlying36 (q0 rfl)) (xv (e_lt (q0 rfl) (q0 rfl)) (XN (thenJ_normal (H_cond rfl (fun hlt => ?_) (fun hlt => ?_))))))))))
  · have hlt' : i < n := by simpa using hlt
    obtain ⟨b, off, x, rfl, hbl, hxi, hrx⟩ := hr.at_ hlt'
    have hst := hQs i x hxi
    refine H_skip (thenJ_normal (H_seq (H_block (H_seq (H_seq (R0 (xv (mvS rfl) (xv (mvI rfl) (xv (e_idx _ Tryz.underlying36 Tryz.sizeOf54 (q0 rfl) (q0 rfl) (fun _ => ⟨rfl, by omega⟩)) ?_)))))))))
    refine xv (e_fld Tryz.underlying54 rfl Tryz.sizeOf4 rfl (q0 rfl)) (xv (e_ld (v := .bool x.r.open_) Tryz.isAgg4 (q0 rfl) (by exact rc (j := 6) hrx hbl rfl)) ?_)
    refine XN (thenJ_normal (H_cond rfl (fun ho => ?_) (fun ho => ?_)))
    · have ho' : (!x.r.open_) = false := by simp; exact ho
      rw [if_neg (by rw [ho']; decide)] at hst
      refine H_exit (thenJ_exit (blockJ_hit (thenJ_normal (R0 (xv (mvI rfl) (xv (e_add (q0 rfl) (q0 rfl) (fun _ => ⟨rfl, by omega, by omega⟩)) (xv (asI rfl) (XN ?_))))))))
      exact loopJ_normal (i + 1, s, (sA, sc)) agr ⟨rfl, rfl, trivial⟩ (fun w hw => hw) rfl ⟨by show i + 1 ≤ n; omega, by rw [hst]; exact hsp, hso⟩ (by show n - (i + 1) < n - i; omega)
    · have ho' : (!x.r.open_) = true := by simp; exact ho
      rw [if_pos ho'] at hst
      refine H_skip (thenJ_normal (H_seq (R0 (xv (mvS rfl) (xv (e_len Tryz.underlying36 (q0 rfl)) (xv (asI rfl) (XN (thenJ_normal (H_seq ?_)))))))))
      refine H_block (H_know (fun w hw => rowT_cap (j := 0) hw rfl) fun hcap => ?_)
      simp only at hcap
      refine H_loop [5, 21, 22, 23, 24, 25, 26, 27, 28, 29, 30, 31, 32, 33, 34, 35, 36] (fun j : Nat => [(5, .int .i64 j)]) (fun _ => [rdRow sA sc s]) (fun j => j ≤ s.length ∧ ∀ y ∈ s.drop j, rideLt x.r y.r = true) (fun j => j) s.length ⟨rfl, trivial⟩ (fun w hw => hw) rfl ⟨Nat.le_refl _, by rw [List.drop_length]; intro y hy; cases hy⟩ ?_
      rintro j g2 ⟨hj, hb⟩
      have hfin : (j = 0 ∨ ∃ z, s[j - 1]? = some z ∧ rideLt x.r z.r = false) → (s.take j ++ x :: s.drop j).Perm (Q (i + 1)) ∧ (s.take j ++ x :: s.drop j).Pairwise fun a b => rideLt b.r a.r = false := fun h => ⟨by rw [hst]; exact ins_perm hsp, by
        refine insC_sorted hso hj hb (fun z h0 hz => ?_)
        rcases h with h | ⟨z', hz', h⟩
        · exact absurd h h0
        · rw [hz] at hz'; cases hz'; exact h⟩
      have hll : (s.take j).length = j := by rw [List.length_take]; omega
      refine H_seq (H_seq (H_cut [21, 22, 23, 24, 25, 26, 27, 28, 29, 30, 31, 32, 33, 34] (fun u : Bool => [(34, .bool u)]) (fun _ => [rdRow sA sc s]) (fun u => (u = true → 0 < j ∧ ∃ z, s[j - 1]? = some z ∧ rideLt x.r z.r = true) ∧ (u = false → j = 0 ∨ ∃ z, s[j - 1]? = some z ∧ rideLt x.r z.r = false)) ?_ ?_))
      · have _ht : True := trivial
        rcases Nat.eq_zero_or_pos j with h0 | h0
        case inl =>
          subst h0
          refine R1 rfl (by decide +kernel) (xv (mvI rfl) (xv (e_gt (q0 rfl) (q0 rfl)) (xv (mvB rfl) (xt (e_dead (v := .slice none 0 0) (by decide)) rfl rfl (xt (e_dead (v := .int .i64 0) (by decide)) rfl rfl (xt (e_dead (v := .pointer none) (by decide)) rfl rfl (xt (e_dead (v := .agg #[]) (by decide)) rfl rfl (xt (e_dead (v := .slice none 0 0) (by decide)) rfl rfl (xt (e_dead (v := .int .i64 0) (by decide)) rfl rfl ?_)))))))))
          refine xt (e_dead (v := .int .i64 0) (by decide)) rfl rfl (xt (e_dead (v := .pointer none) (by decide)) rfl rfl (xt (e_dead (v := .agg #[]) (by decide)) rfl rfl (xt (e_dead (v := .bool false) (by decide)) rfl rfl (xv (e_and (q0 rfl) rfl (fun h => by first | rfl | (rw [h]; rfl))) ?_))))
          refine XN ?_
          exact cutJ_normal false agr ⟨rfl, trivial⟩ (fun w hw => hw) rfl ⟨fun h => (by cases h), fun _ => .inl rfl⟩
        case inr =>
          obtain ⟨z, hz⟩ : ∃ z, s[j - 1]? = some z := ⟨_, List.getElem?_eq_getElem (by omega)⟩
          refine H_know (fun w hw => rowT_at (j := 0) hw rfl (by omega)) fun ⟨rb, hrb⟩ => ?_
          subst hrb
          refine R1 rfl (by decide +kernel) (xv (mvI rfl) (xv (e_gt (q0 rfl) (q0 rfl)) (xv (mvB rfl) (xt (mvS rfl) rfl rfl (xt (mvI rfl) rfl rfl (xt (e_idx i Tryz.underlying36 Tryz.sizeOf54 (q1 rfl) (q1 rfl) (fun _ => ⟨rfl, hlt'⟩)) rfl rfl (xt (e_lds (vs := x.cells) Tryz.isAgg54 Tryz.sizeOf54 (q1 rfl) (rcs hrx hbl) rfl) rfl rfl (xt (mvS rfl) rfl rfl (xt (mvI rfl) rfl rfl ?_)))))))))
          refine xt (e_sub (r := ((j - 1 : Nat) : Int)) (q1 rfl) (q0 rfl) (fun _ => ⟨by omega, by omega, by omega⟩)) rfl rfl (xt (e_idx (j - 1) Tryz.underlying36 Tryz.sizeOf54 (q1 rfl) (q1 rfl) (fun _ => ⟨rfl, by simp only; omega⟩)) rfl rfl (xt (e_lds (vs := z.cells) Tryz.isAgg54 Tryz.sizeOf54 (q1 rfl) (rrs 0 rfl hz) rfl) rfl rfl (xCT (en Tryz.call102 (ha2 (q1 (v := .agg _) rfl) (q1 (v := .agg _) rfl))) (fun _ w _ => rbef_w x z w) rfl rfl rfl rfl (xv (e_and (q0 rfl) rfl (fun h => by first | rfl | (rw [h]; rfl))) ?_))))
          refine XN ?_
          exact cutJ_normal (rideLt x.r z.r) agr ⟨by show Value.bool (decide ((0 : Int) < (j : Int)) && rideLt x.r z.r) = _; rw [show decide ((0 : Int) < (j : Int)) = true by simp; omega]; rfl, trivial⟩ (fun w hw => hw) rfl ⟨fun h => ⟨h0, z, hz, h⟩, fun h => .inr ⟨z, hz, h⟩⟩
      · rintro u g3 ⟨hu1, hu2⟩
        refine thenJ_normal (H_cond rfl (fun hc => ?_) (fun hc => ?_))
        · obtain ⟨h0, z, hz, hlz⟩ := hu1 hc
          refine H_skip (thenJ_normal (H_block (R0 (xv (mvI rfl) (xv (e_sub (q0 rfl) (q0 rfl) (fun _ => ⟨rfl, by omega, by omega⟩)) (xv (asI rfl) (XN (blockJ_normal ?_))))))))
          exact loopJ_normal (j - 1) agr ⟨by show Value.int .i64 ((j : Int) - 1) = Value.int .i64 ((j - 1 : Nat) : Int); congr 1; omega, trivial⟩ (fun w hw => hw) rfl ⟨by omega, by
            rw [drop_of hz, show j - 1 + 1 = j by omega]
            intro y hy
            rcases List.mem_cons.1 hy with rfl | hy
            · exact hlz
            · exact hb y hy⟩ (by show j - 1 < j; omega)
        · obtain ⟨p1, p2⟩ := hfin (hu2 hc)
          have hcat : (s.take j ++ [x]) ++ s.drop j = s.take j ++ x :: s.drop j := by simp
          refine H_exit (thenJ_exit (loopJ_exit (blockJ_hit (thenJ_normal (H_seq (R0 (X_eff (f_slit0 RX.cells Tryz.underlying36 Tryz.sizeOf54 rfl fun A2 c2 => (xv (mvS rfl) (xv (mvI rfl) ?_))))))))))
          refine xv (e_slLoG j Tryz.underlying36 Tryz.sizeOf54 (q0 rfl) (q0 rfl) (fun _ => ⟨rfl, hj⟩)) (X_append (f_append (k := 13) (i := Tryz.t54) (enc := RX.cells) 0 Tryz.underlying36 (by kernel_rfl) rfl rfl rfl rfl (fun _ => rfl) (fun _ => rfl) rfl rfl rfl (fun w hw => (slAt_row hw (j := 1) rfl (fun _ => rfl) (by omega)).drop hj hcap.1) ⟨by simp; omega, by decide⟩ rfl fun A3 c3 => (xv (asS rfl) (XN (thenJ_normal (RA rfl (by decide +kernel) (aV 0 (by decide +kernel) rfl (mvS rfl) rfl (aV 1 (by decide +kernel) rfl (mvI rfl) rfl (aV 2 (by decide +kernel) rfl (mvI rfl) rfl (aV 3 (by decide +kernel) rfl (e_slHi3 j Tryz.underlying36 Tryz.sizeOf54 (q0 rfl) (q0 rfl) (q0 rfl) (fun _ => ⟨rfl, rfl, by simp only; omega⟩)) rfl ?_))))))))))
          refine aV 4 (by decide +kernel) rfl (mvS rfl) rfl (aV 5 (by decide +kernel) rfl (mvI rfl) rfl (aV 6 (by decide +kernel) rfl (e_idx i Tryz.underlying36 Tryz.sizeOf54 (q0 rfl) (q0 rfl) (fun _ => ⟨rfl, hlt'⟩)) rfl (aV 7 (by decide +kernel) rfl (e_lds (vs := x.cells) Tryz.isAgg54 Tryz.sizeOf54 (q0 rfl) (rcs hrx hbl) rfl) rfl (aV 10 (by decide +kernel) rfl (mvS rfl) rfl (rdy1 (i := 8) (by decide +kernel) (sub_drop 0) (aL rfl (f_slit [(.int .i64 0), (.int .i64 0), (.int .i64 0), (.int .i64 0), (.int .i64 0), (.int .i64 0), (.bool false), (.slice none 0 0), (.slice none 0 0), (.int .i64 0), (.int .i64 0), (.int .i64 0), (.int .i64 0)] Tryz.underlying36 Tryz.sizeOf54 Tryz.zeroValue54 rfl (by kernel_rfl) (pt (v := .agg _) rfl E.p0) rfl rfl fun b50 => (rdy1 (i := 9) (by decide +kernel) (sub_drop 1) (aL rfl (f_appendF (k := 13) (i := Tryz.t54) (enc := RX.cells) (xs := s.take j) Tryz.underlying36 (by kernel_rfl) rfl rfl rfl (fun _ => rfl) rfl rfl (fun w hw => (slAt_row hw (j := 2) rfl (fun _ => rfl) (by omega)).take hj) (fun w hw => slAt_box (enc := RX.cells) (xs := [x]) hw (j := 0) rfl (fun _ => rfl) (by simp)) (by decide) ⟨by simp; omega, by decide⟩ rfl fun A5 c5 => (aI 1 ?_)))))))))))
          refine rdy1 (i := 11) (by decide +kernel) (sub_drop 2) (aL rfl (f_append (k := 13) (i := Tryz.t54) (enc := RX.cells) (xs := s.take j ++ [x]) 1 Tryz.underlying36 (by kernel_rfl) rfl rfl rfl rfl (fun _ => rfl) (fun _ => rfl) rfl rfl rfl (fun w hw => slAt_row hw (j := 2) rfl (fun _ => rfl) (by simp; omega)) ⟨by simp; omega, by decide⟩ rfl fun A6 c6 => (aRL (sub_drop 2) (aV 12 (by decide +kernel) rfl (asS rfl) rfl (aZ (by decide +kernel) (sub_drop 0) (blockJ_normal (thenJ_normal (R0 (xv (mvI rfl) (xv (e_add (q0 rfl) (q0 rfl) (fun _ => ⟨rfl, by omega, by omega⟩)) ?_))))))))))
          refine xv (asI rfl) (XN ?_)
          exact loopJ_normal (i + 1, s.take j ++ x :: s.drop j, (A6, c6)) agr ⟨rfl, by show Value.slice A6 ((s.take j ++ [x]) ++ s.drop j).length c6 = Value.slice A6 (s.take j ++ x :: s.drop j).length c6; rw [hcat], trivial⟩ (fun w hw => by have h := hw.pick [1] (by decide); show Mem _ [rdRow A6 c6 (s.take j ++ x :: s.drop j)] w; rw [← hcat]; exact h) rfl ⟨by show i + 1 ≤ n; omega, p1, p2⟩ (by show n - (i + 1) < n - i; omega)
  · have hend : i = n := by simp at hlt; omega
    subst hend
    rw [hQn] at hsp
    refine H_exit (thenJ_exit (loopJ_exit (blockJ_hit (thenJ_normal (H_seq (R0 (xv (mvS rfl) (xv (asS rfl) (XN ?_)))))))))
    refine thenJ_normal (H_ret ?_)
    exact ret1 (v := .slice _ _ _) rfl rfl rfl fun w' hw => ⟨⟨(s, (sA, sc)), hsp, hso⟩, rfl, hw⟩

end Go.Proofs.Far

/-
  The walks: the reference's fares of all rides.
-/
namespace Go.Proofs.Far
open Go Go.RowKit Go.Proofs.E Go.Proofs.Cus Go.Proofs.Rid

theorem rday_w (t : Int) (w : World) (h : 0 ≤ t ∧ t ≤ 4294943999) : Calls Tryz.prog 62 #[.int .i64 t] w fun e w' => e = .returned (.tuple #[.int .i64 (t / 86400), .int .i64 0]) ∧ Bel w w' := by
  refine H_enter Tryz.func62 rfl Tryz.ntmps62 rfl (H_seq (R0 (xv (asI rfl) (xv (asI rfl) (XN (thenJ_normal (H_seq (H_seq (R0 ?_)))))))))
  refine xv (mvI rfl) (xv (e_lt (q0 rfl) (q0 rfl)) (xv (mvB rfl) (xf (mvI rfl) rfl rfl (xf (e_gt (q1 rfl) (q0 rfl)) rfl rfl (xv (e_or (q0 rfl) rfl (fun h => by first | rfl | (rw [h]; rfl))) ?_)))))
  refine XN (thenJ_normal (H_cond rfl (fun h1 => ?_) (fun h1 => ?_)))
  · exfalso; simp at h1; omega
  · have _ht : True := trivial
    refine H_skip (thenJ_normal (H_seq (R0 (xv (mvI rfl) (xv (e_quo (q0 rfl) (q0 rfl) (fun _ => ⟨by omega, by omega, by omega⟩)) (xv (asI rfl) (xv (asI rfl) (XN (thenJ_normal ?_)))))))))
    refine H_ret ?_
    exact ret2 (v := .int _ _) (x := .int _ _) rfl rfl rfl rfl fun w' hw => ⟨rfl, hw.1⟩
/-- a list of items as an element of a list -/
def FX.sl (x : FX) : List Value := [.slice x.A x.b.items.length x.c]
abbrev slRow (A : Option Addr) (c : Nat) (xs : List FX) : E.Item := rowT 42 1 FX.sl A c xs
theorem first_sum {f : Fl} {p : Pr} {r : Rd} {u : Int} {b : Bil} (he : prErr f p = 0) (hc : checkR r = 0) (h : firstP p r u = some b) : Ib b.items ∧ totI b.items = b.total := by
  obtain ⟨_, htf, _⟩ := prErr_parts he
  obtain ⟨hvk, hvt⟩ := ver_ok (r := r) htf
  have hvi := tfOk_iff.1 hvt
  have hrs := ridS_range hc
  have hps := pauS_range hc
  have hrn := ridP_nn hvt (s := ridS r) hrs.2
  have hpn := pauP_nn hvt (s := pauS r) hps.2
  have hfee := place_fee he r
  have hbt := base_total p r
  have hplt := plc_total p r
  have hpat := pass_total p r u
  unfold firstP at h
  split at h
  · cases h
  · split at h
    · cases h
    · split at h
      · cases h
      · split at h
        · cases h
        · rename_i g1 g2 g3 g4
          cases h
          have l1 := addB_len ⟨r.id, r.rider, [], 0⟩ 1 (verO p r) (verT p r).unlock
          have l2 := addB_len (addB ⟨r.id, r.rider, [], 0⟩ 1 (verO p r) (verT p r).unlock) 2 (verO p r) (ridP (verT p r) (ridS r))
          have l3 := addB_len (addB (addB ⟨r.id, r.rider, [], 0⟩ 1 (verO p r) (verT p r).unlock) 2 (verO p r) (ridP (verT p r) (ridS r))) 3 (verO p r) (pauP (verT p r) (pauS r))
          simp only [List.length_nil] at l1
          have hb3 : Ib (baseB p r).items ∧ totI (baseB p r).items = (baseB p r).total := by
            unfold baseB
            exact ⟨addB_Ib (addB_Ib (addB_Ib Ib.nil (by simp) (by omega)) (by omega) (by omega)) (by omega) (by omega), addB_tot (addB_tot (addB_tot rfl _ _ _) _ _ _) _ _ _⟩
          have l3' : (baseB p r).items.length ≤ 3 := by unfold baseB; omega
          have hb4 : Ib (plcB p r).items ∧ totI (plcB p r).items = (plcB p r).total := by
            unfold plcB
            exact ⟨addB_Ib hb3.1 (by omega) (by omega), addB_tot hb3.2 _ _ _⟩
          have l4 : (plcB p r).items.length ≤ 4 := by
            have := addB_len (baseB p r) 4 (placeP p r).2 (max (placeP p r).1 (-(baseB p r).total))
            unfold plcB; omega
          unfold passB at hpat g4 ⊢
          split at hpat
          · rename_i hu
            rw [if_pos hu] at g4 ⊢
            have hpp : partP p r u ≤ 1000000000000 := by
              apply Classical.byContradiction
              intro hn
              exact g3 ⟨hu, by omega⟩
            have hneg : -1000000000000000 ≤ partP p r u := by
              unfold partP
              rcases Int.lt_or_le (min (ridS r) (p.passes.getD u.toNat default).secs) 4294944001 with h9 | h9
              · have := ridP_nn hvt (s := min (ridS r) (p.passes.getD u.toNat default).secs) (by omega); omega
              · omega
            exact ⟨addB_Ib hb4.1 (by omega) (by omega), addB_tot hb4.2 _ _ _⟩
          · rename_i hu
            rw [if_neg hu]
            exact hb4
/-- a fare put in its place -/
theorem insF_sorted {s : List FX} {x : FX} {k : Nat} (hs : s.Pairwise fun a b => a.b.ride ≤ b.b.ride) (hk : k ≤ s.length) (hb : ∀ y ∈ s.drop k, x.b.ride < y.b.ride) (ha : ∀ z, k ≠ 0 → s[k - 1]? = some z → z.b.ride ≤ x.b.ride) : (s.take k ++ x :: s.drop k).Pairwise fun a b => a.b.ride ≤ b.b.ride := by
  have hall : ∀ y ∈ s.take k, y.b.ride ≤ x.b.ride := fun y hy => by
    obtain ⟨i, hi, hiy⟩ := List.getElem_of_mem hy
    rw [List.length_take] at hi
    rw [List.getElem_take] at hiy
    have hk0 : k ≠ 0 := by omega
    have hz := ha s[k - 1] hk0 (List.getElem?_eq_getElem (by omega))
    by_cases hik : i = k - 1
    · subst hik
      rw [← hiy]
      exact hz
    · have := List.pairwise_iff_getElem.1 hs i (k - 1) (by omega) (by omega) (by omega)
      rw [← hiy]
      omega
  have h2 : (s.take k ++ s.drop k).Pairwise fun a b => a.b.ride ≤ b.b.ride := by rw [List.take_append_drop]; exact hs
  obtain ⟨p1, p2, p3⟩ := List.pairwise_append.1 h2
  refine List.pairwise_append.2 ⟨p1, List.pairwise_cons.2 ⟨fun y hy => Int.le_of_lt (hb y hy), p2⟩, fun a h b hb2 => ?_⟩
  rcases List.mem_cons.1 hb2 with rfl | hb2
  · exact hall a h
  · exact p3 a h b hb2
theorem ck_parts {f : Fl} {p : Pr} {rs : List Rd} {vs : List Pen.V} : ckErr f p rs vs = 0 ↔ prErr f p = 0 ∧ rdsErr rs = 0 ∧ Pen.vErr vs = 0 := by
  unfold ckErr
  constructor
  · intro h
    split at h
    · omega
    · split at h
      · omega
      · exact ⟨by omega, by omega, h⟩
  · rintro ⟨h1, h2, h3⟩
    rw [if_neg (by omega), if_neg (by omega)]
    exact h3
theorem ck_err {f : Fl} {p : Pr} {rs : List Rd} {vs : List Pen.V} (h : ckErr f p rs vs ≠ 0) : allErr f p rs vs = ckErr f p rs vs ∧ allR f p rs vs = [] := by
  have hn : prErr f p ≠ 0 ∨ rdsErr rs ≠ 0 ∨ Pen.vErr vs ≠ 0 := by
    apply Classical.byContradiction
    intro hh
    apply h
    rw [ck_parts]
    omega
  refine ⟨?_, by unfold allR; rw [if_pos hn]⟩
  unfold allErr ckErr
  by_cases h1 : prErr f p ≠ 0
  · rw [if_pos h1, if_pos h1]
  · rw [if_neg h1, if_neg h1]
    by_cases h2 : rdsErr rs ≠ 0
    · rw [if_pos h2, if_pos h2]
    · rw [if_neg h2, if_neg h2]
      have h3 : Pen.vErr vs ≠ 0 := by omega
      rw [if_pos h3]

end Go.Proofs.Far

/-
  The walks: the reference's fares of all rides, joined.
-/
namespace Go.Proofs.Far
open Go Go.RowKit Go.Proofs.E Go.Proofs.Cus Go.Proofs.Rid

attribute [local irreducible] firstP useS dayS finB2 finB fsAll fnAll cntS byRide addB FS FN withI totI vIdx Pen.numR Pen.fineR
set_option maxHeartbeats 4000000 in
set_option maxRecDepth 20000 in
theorem rall_w (f : Fl) (fa : FA) (p : Pr) (a : PrA) (A : Option Addr) (n c : Nat) (rs : List RX) (V : Option Addr) (vn vc : Nat) (vs : List Pen.V) (w : World) (hf : FlAt w f fa) (hp : PrAt w p a) (hr : RdsAt w A n rs) (hs : ∀ x ∈ rs, x.r.pauses.length ≤ 1000) (hv : Pen.VsAt w V vn vs) (hpl : ∀ x ∈ rs, x.r.pl ≤ 9223372036854775807) :
    Calls Tryz.prog 16 #[.agg (f.cells fa).toArray, .agg (p.cells a).toArray, .slice A n c, .slice V vn vc] w fun e w' => ∃ z : { z : List FX × (Option Addr × Nat) // z.1.map (·.b) = allR f p (rs.map (·.r)) vs }, e = .returned (.tuple #[.slice z.1.2.1 z.1.1.length z.1.2.2, .int .i64 (allErr f p (rs.map (·.r)) vs)]) ∧ Mem w [faRow z.1.2.1 z.1.2.2 z.1.1, bag (z.1.1.flatMap faParts)] w' := by
  have hl := hr.1.1
  have hn := hr.1.2.1
  refine H_enter Tryz.func16 rfl Tryz.ntmps16 rfl (H_seq (R0 (X_box (v := .agg _) rfl rfl fun b4 => (X_box (v := .agg _) rfl rfl fun b5 => (xv (asS rfl) (xv (asI rfl) (XN (thenJ_normal (H_seq ?_)))))))))
  refine H_seq (R0 (xv (eS Tryz.isAgg24 Tryz.sizeOf24 (q0 rfl)) ?_))
  refine xv (eS Tryz.isAgg28 Tryz.sizeOf28 (q0 rfl)) ?_
  refine xv (mvS rfl) (xv (mvS rfl) (xC (en Tryz.call58 (ha4 (q0 rfl) (q0 rfl) (q0 rfl) (q0 rfl))) (fun _ w hw => rchecked_w f fa p a A n c rs V vn vc vs w (hf.mem hw) (hp.mem hw) (hr.mem hw) hs (hv.mem hw)) rfl rfl (xv (asI rfl) (XN (thenJ_normal (H_seq (R0 (xv (mvI rfl) (xv (e_ne (q0 rfl) (q0 rfl)) ?_)))))))))
  refine XN (thenJ_normal (H_cond rfl (fun h1 => ?_) (fun h1 => ?_)))
  · have h1' : ckErr f p (rs.map (·.r)) vs ≠ 0 := by simpa using h1
    obtain ⟨e1, e2⟩ := ck_err h1'
    rw [e1]
    refine H_seq (R0 (xv (mvI rfl) (xv (asS rfl) (xv (asI rfl) (XN (thenJ_normal (H_ret (thenJ_ret ?_))))))))
    exact ret2 (v := .slice _ _ _) (x := .int _ _) rfl rfl rfl rfl fun w' hw => ⟨⟨([], none, 0), e2.symm⟩, rfl, errM hw⟩
  · have h0' : ckErr f p (rs.map (·.r)) vs = 0 := by simpa using h1
    obtain ⟨h1', h2', h3'⟩ := ck_parts.1 h0'
    have hgood : Good (rs.map (·.r)) := rdsErr_good h2'
    have hE : allErr f p (rs.map (·.r)) vs = if allP p (rs.map (·.r)) vs = none then 2 else 0 := by unfold allErr; rw [if_neg (by omega), if_neg (by omega), if_neg (by omega)]
    have hR : allR f p (rs.map (·.r)) vs = (allP p (rs.map (·.r)) vs).getD [] := by unfold allR; rw [if_neg (by omega)]
    have hfew := hgood.few
    rw [List.length_map, hl] at hfew
    obtain ⟨_, _, hpas, _, _, _, hc1, hc2, hpe⟩ := prErr_parts h1'
    refine H_skip (thenJ_normal (H_seq (R0 (xv (mvS rfl) (xCX (en Tryz.call59 (ha1 (q0 rfl))) (fun w hw => rcount_w A n c rs w (hr.mem hw).1 (by omega)) rfl (fun _ => rfl) fun zc => ?_)))))
    obtain ⟨⟨ys, ⟨cA, cc⟩⟩, hyp, hyo⟩ := zc
    dsimp only at hyp hyo ⊢
    obtain ⟨l, hll⟩ : ∃ l : List Rd, l = ys.map (·.r) := ⟨_, rfl⟩
    have hlc : l = cntS (rs.map (·.r)) := by
      rw [hll]
      refine cntS_unique hgood ?_ (List.pairwise_map.2 hyo)
      rw [← filter_map_r]
      exact hyp.map _
    have hlg : Good l := by rw [hlc]; exact cntS_good hgood
    have hls : l.Pairwise fun a b => rideLt a b = true := by rw [hlc]; exact cntS_strict hgood
    obtain ⟨m, hm⟩ : ∃ m, m = ys.length := ⟨_, rfl⟩
    have hyl : ys.length = m := hm.symm
    have hml : m ≤ 256 := by
      have := hyp.length_eq
      have := List.length_filter_le (fun x : RX => !x.r.open_) rs
      omega
    have hlm : l.length = m := by rw [hll, List.length_map, hyl]
    have hym : ∀ x ∈ ys, x ∈ rs ∧ x.r.open_ = false := fun x hx => by
      have h5 := List.mem_filter.1 (hyp.mem_iff.1 hx)
      exact ⟨h5.1, by simpa using h5.2⟩
    have hyAt : ∀ {L : List E.Item} {w' : World} {j : Nat}, Mem w L w' → L[j]? = some (rdRow cA cc ys) → RdsAt w' cA m ys := fun {L w' j} hw hj => ⟨by rw [← hyl]; exact slAt_row hw hj (fun _ => rfl) (by omega), fun x hx => (hr.2 x (hym x hx).1).mem hw⟩
    obtain ⟨us, hus⟩ : ∃ us, us = useOf p l := ⟨_, rfl⟩
    have husm : us.length = m := by rw [hus, useOf_len, hlm]
    have husr : (useS p.passes (ys.map fun x => reqR x.r)).1 = us := by rw [hus, hll]; unfold useOf; rw [List.map_map]; rfl
    have hUse : ∀ {L : List E.Item} (w' : World), Mem w L w' → RdsAt w' cA m ys → Calls Tryz.prog 60 #[.slice a.p.A a.p.n a.p.c, .slice cA m cc] w' fun e w'' => ∃ z : Nat, e = .returned (.tuple #[.slice (some ⟨z, 0, none⟩) m m, .int .i64 0]) ∧ Mem w' [intRow (some ⟨z, 0, none⟩) m us] w'' := fun w' hw hy => by
      have h := ruse_w a.p.A a.p.n a.p.c p.passes cA m cc ys w' (hp.ps.mem hw) hy hpas (by rw [← hll]; exact hlg) (by rw [hll] at hls; exact List.pairwise_map.1 hls)
      rw [husr] at h
      exact h
    rw [hyl]
    refine xv (asS rfl) (XN (thenJ_normal (H_seq (R0 (xv (e_fld Tryz.underlying28 rfl Tryz.sizeOf26 rfl (q0 rfl)) (xv (eL Tryz.isAgg26 (q0 rfl)) ?_))))))
    refine xv (mvS rfl) (xCX (en Tryz.call60 (ha2 (q0 rfl) (q0 rfl))) (fun w hw => hUse w hw (hyAt hw (j := 0) rfl)) rfl (fun _ => rfl) fun zu => ?_)
    obtain ⟨R, hRd⟩ : ∃ R : Nat → List Int, ∀ k, R k = (l.take k).map (·.rider) := ⟨_, fun _ => rfl⟩
    obtain ⟨D, hDd⟩ : ∃ D : Nat → List Int, ∀ k, D k = (l.take k).map fun r => r.start.lo / 86400 := ⟨_, fun _ => rfl⟩
    have hR0 : R 0 = [] := by rw [hRd]; rfl
    have hD0 : D 0 = [] := by rw [hDd]; rfl
    have hRl : ∀ k, k ≤ m → (R k).length = k := fun k hk => by rw [hRd, List.length_map, List.length_take]; omega
    have hDl : ∀ k, k ≤ m → (D k).length = k := fun k hk => by rw [hDd, List.length_map, List.length_take]; omega
    have hRs : ∀ k x, l[k]? = some x → R (k + 1) = R k ++ [x.rider] := fun k x h => by rw [hRd, hRd, snocT _ _ _ h, List.map_append]; rfl
    have hDs : ∀ k x, l[k]? = some x → D (k + 1) = D k ++ [x.start.lo / 86400] := fun k x h => by rw [hDd, hDd, snocT _ _ _ h, List.map_append]; rfl
    have hzl : (l.zip us).length = m := by rw [List.length_zip]; omega
    obtain ⟨tot, htot⟩ : ∃ tot : FX → Int, ∀ b, tot b = b.b.total := ⟨_, fun _ => rfl⟩
    refine xv (e_mv (q0 rfl)) (xv (e_ext (q0 rfl) rfl) (xv (e_ext (q0 rfl) rfl) (xv (asS rfl) (xv (asI rfl) (XN (thenJ_normal (H_seq (R0 (X_eff (f_slit0 FX.sl Tryz.underlying108 Tryz.sizeOf42 rfl fun iA0 ic0 => ?_))))))))))
    refine xv (asS rfl) (XN (thenJ_normal (H_seq (R0 (X_eff (f_slit0 encInt Tryz.underlying22 Tryz.sizeOf3 rfl fun rA0 rc0' => (xv (asS rfl) (XN (thenJ_normal (H_seq ?_))))))))))
    refine R0 (X_eff (f_slit0 encInt Tryz.underlying22 Tryz.sizeOf3 rfl fun dA0 dc0 => (xv (asS rfl) (XN (thenJ_normal (H_seq (R0 (X_eff (f_slit0 encInt Tryz.underlying22 Tryz.sizeOf3 rfl fun sA0 sc0 => (xv (asS rfl) (XN ?_)))))))))))
    refine thenJ_normal (H_seq (H_seq (H_mem (L' := [slRow iA0 ic0 [], intRow rA0 rc0' [], intRow dA0 dc0 [], intRow sA0 sc0 [], bag (([] : List FX).flatMap faParts), intRow (some ⟨zu, 0, none⟩) m us, rdRow cA cc ys, box b5 28 (p.cells a), box b4 24 (f.cells fa)]) (fun w hw => ((hw.pick [3, 2, 1, 0, 4, 5, 6, 7] (by decide)).noBag (f := faParts)).pick [1, 2, 3, 4, 0, 5, 6, 7, 8] (by decide)) rfl (R0 (xv (asI rfl) (XN (thenJ_normal (H_block (H_loop [8, 9, 14, 15, 16, 17, 18, 19, 20, 21, 22, 57, 58, 59, 60, 61, 62, 63, 64, 65, 66, 67, 68, 69, 70, 71, 72, 73, 74, 75, 76, 77, 78, 79, 80, 81, 82, 83, 84, 85, 86, 87, 88, 89, 90, 91, 92, 93, 94, 95, 96, 97, 98, 99, 100, 101, 102, 103, 104, 105, 106, 107, 108, 109] (fun s : Nat × List FX × (Option Addr × Nat) × (Option Addr × Nat) × (Option Addr × Nat) × (Option Addr × Nat) => [(18, .int .i64 s.1), (14, .slice s.2.2.1.1 s.2.1.length s.2.2.1.2), (15, .slice s.2.2.2.1.1 (R s.1).length s.2.2.2.1.2), (16, .slice s.2.2.2.2.1.1 (D s.1).length s.2.2.2.2.1.2), (17, .slice s.2.2.2.2.2.1 (s.2.1.map tot).length s.2.2.2.2.2.2)]) (fun s => [slRow s.2.2.1.1 s.2.2.1.2 s.2.1, intRow s.2.2.2.1.1 s.2.2.2.1.2 (R s.1), intRow s.2.2.2.2.1.1 s.2.2.2.2.1.2 (D s.1), intRow s.2.2.2.2.2.1 s.2.2.2.2.2.2 (s.2.1.map tot), bag (s.2.1.flatMap faParts), intRow (some ⟨zu, 0, none⟩) m us, rdRow cA cc ys, box b5 28 (p.cells a), box b4 24 (f.cells fa)]) (fun s => s.1 ≤ m ∧ FS p (l.zip us) s.1 = some (s.2.1.map (·.b)) ∧ ∀ x ∈ s.2.1, Ib x.b.items ∧ totI x.b.items = x.b.total) (fun s => m - s.1) (0, [], (iA0, ic0), (rA0, rc0'), (dA0, dc0), (sA0, sc0)) ⟨rfl, rfl, by rw [hR0]; rfl, by rw [hD0]; rfl, rfl, trivial⟩ (fun w hw => by rw [hR0, hD0]; exact hw) rfl ⟨Nat.zero_le _, by unfold FS; rfl, fun x hx => by cases hx⟩ ?_)))))))))
    rintro ⟨k, xs, ⟨iA, ic⟩, ⟨rA, rc2⟩, ⟨dA, dc⟩, ⟨sA, sc⟩⟩ g ⟨hk, hFS, hIb⟩
    simp only at hk hFS hIb
    have hbl : xs.length = k := by
      have := (FS_facts (by omega) hFS).1
      rw [List.length_map] at this
      exact this
    refine H_seq (H_seq (R0 (xv (mvI rfl) (xv (mvS rfl) (xv (e_len Tryz.underlying36 (q0 rfl)) (xv (e_lt (q0 rfl) (q0 rfl)) (XN (thenJ_normal (H_cond rfl (fun hlt => ?_) (fun hlt => ?_))))))))))
    · have hlt' : k < m := by simpa using hlt
      obtain ⟨x, hxk⟩ : ∃ x, ys[k]? = some x := ⟨_, List.getElem?_eq_getElem (by omega)⟩
      have hxm := List.mem_of_getElem? hxk
      have hlk : l[k]? = some x.r := by rw [hll]; simp [hxk]
      have hcx : checkR x.r = 0 := hlg.ok x.r (List.mem_of_getElem? hlk)
      have hsx := spOk_iff.1 (checkR_parts hcx).1
      obtain ⟨u, huk⟩ : ∃ u, us[k]? = some u := ⟨_, List.getElem?_eq_getElem (by omega)⟩
      have hur : -1 ≤ u ∧ u < p.passes.length := by have := List.mem_of_getElem? huk; rw [hus] at this; exact useOf_range this
      have hFSs := FS_succ (p := p) (zip_get hlk huk)
      rw [hFS] at hFSs
      refine H_know (fun w hw => rowT_at (j := 6) hw rfl (by omega)) fun ⟨yb, hyb⟩ => ?_
      subst hyb
      refine H_skip (thenJ_normal (H_seq (H_block (H_seq ?_))))
      cases hfp : firstP p x.r u with
      | none =>
        have hno : allP p (rs.map (·.r)) vs = none := by
          have h5 : FS p (l.zip us) (k + 1) = none := by rw [hFSs]; unfold fsStep; simp only [hfp]
          unfold allP
          rw [← hlc, ← hus, FS_none h5]
        have hfw : ∀ {L : List E.Item} (w' : World), Mem w L w' → Calls Tryz.prog 61 #[.agg (p.cells a).toArray, .agg x.cells.toArray, .int .i64 u] w' fun e w'' => ∃ z : Option Addr × Nat, e = .returned (.tuple #[.slice none 0 0, .int .i64 2]) ∧ Mem w' [] w'' := fun w' hw => by
          have h := rfirst_w f p a x u w' (hp.mem hw) ((hr.2 x (hym x hxm).1).mem hw) h1' hcx (hym x hxm).2 (hpl x (hym x hxm).1) hur
          rw [hfp] at h
          exact h
        refine RA rfl (by decide +kernel) (aV 0 (by decide +kernel) rfl (eS Tryz.isAgg28 Tryz.sizeOf28 (q0 rfl)) rfl ?_)
        refine aV 1 (by decide +kernel) rfl (mvS rfl) rfl (aV 2 (by decide +kernel) rfl (mvI rfl) rfl (aV 3 (by decide +kernel) rfl (e_idx k Tryz.underlying36 Tryz.sizeOf54 (q0 rfl) (q0 rfl) (fun _ => ⟨rfl, hlt'⟩)) rfl (aV 4 (by decide +kernel) rfl (e_lds (vs := x.cells) Tryz.isAgg54 Tryz.sizeOf54 (q0 rfl) (by exact rrs 6 (enc := RX.cells) rfl hxk) rfl) rfl ?_)))
        refine aV 5 (by decide +kernel) rfl (mvS rfl) rfl (aV 6 (by decide +kernel) rfl (mvI rfl) rfl (aV 7 (by decide +kernel) rfl (e_idx k Tryz.underlying22 Tryz.sizeOf3 (q0 rfl) (q0 rfl) (fun _ => ⟨rfl, hlt'⟩)) rfl (aV 8 (by decide +kernel) rfl (e_ld (v := .int .i64 u) Tryz.isAgg3 (q0 rfl) (by exact rr0 5 (enc := encInt) rfl huk rfl)) rfl ?_)))
        refine rdy1 (i := 9) (by decide +kernel) (sub_drop 0) (aL rfl (f_callx (en Tryz.call61 (ha3 (q0 rfl) (q0 rfl) (q0 rfl))) (fun w hw => hfw w hw) rfl (fun _ => rfl) fun z => (aV 10 (by decide +kernel) rfl (e_mv (q0 rfl)) rfl (aV 11 (by decide +kernel) rfl (e_ext (q0 rfl) rfl) rfl (aV 12 (by decide +kernel) rfl (e_ext (q0 rfl) rfl) rfl (aV 13 (by decide +kernel) rfl (asS rfl) rfl (aV 14 (by decide +kernel) rfl (asI rfl) rfl (aZ (by decide +kernel) (sub_drop 0) (thenJ_normal (H_seq ?_))))))))))
        refine H_seq (R0 (xv (mvI rfl) (xv (e_ne (q0 rfl) (q0 rfl)) (XN (thenJ_normal (H_cond rfl (fun h5 => ?_) (fun h5 => ?_)))))))
        · rw [hE, if_pos hno]
          refine H_seq (R0 (xv (mvI rfl) (xv (asS rfl) (xv (asI rfl) (XN (thenJ_normal (H_ret (thenJ_ret (blockJ_ret ?_)))))))))
          refine thenJ_ret (loopJ_ret (blockJ_ret (thenJ_ret ?_)))
          exact ret2 (v := .slice _ _ _) (x := .int _ _) rfl rfl rfl rfl fun w' hw => ⟨⟨([], none, 0), by rw [hR, hno]; rfl⟩, rfl, errM hw⟩
        · exfalso; simp at h5
      | some b =>
        obtain ⟨hbI, hbT⟩ := first_sum h1' hcx hfp
        have hbf := first_facts h1' hcx hfp
        have hfw : ∀ {L : List E.Item} (w' : World), Mem w L w' → Calls Tryz.prog 61 #[.agg (p.cells a).toArray, .agg x.cells.toArray, .int .i64 u] w' fun e w'' => ∃ z : Option Addr × Nat, e = .returned (.tuple #[.slice z.1 b.items.length z.2, .int .i64 0]) ∧ Mem w' [itRow z.1 z.2 b.items] w'' := fun w' hw => by
          have h := rfirst_w f p a x u w' (hp.mem hw) ((hr.2 x (hym x hxm).1).mem hw) h1' hcx (hym x hxm).2 (hpl x (hym x hxm).1) hur
          rw [hfp] at h
          exact h
        refine RA rfl (by decide +kernel) (aV 0 (by decide +kernel) rfl (eS Tryz.isAgg28 Tryz.sizeOf28 (q0 rfl)) rfl ?_)
        refine aV 1 (by decide +kernel) rfl (mvS rfl) rfl (aV 2 (by decide +kernel) rfl (mvI rfl) rfl (aV 3 (by decide +kernel) rfl (e_idx k Tryz.underlying36 Tryz.sizeOf54 (q0 rfl) (q0 rfl) (fun _ => ⟨rfl, hlt'⟩)) rfl (aV 4 (by decide +kernel) rfl (e_lds (vs := x.cells) Tryz.isAgg54 Tryz.sizeOf54 (q0 rfl) (by exact rrs 6 (enc := RX.cells) rfl hxk) rfl) rfl ?_)))
        refine aV 5 (by decide +kernel) rfl (mvS rfl) rfl (aV 6 (by decide +kernel) rfl (mvI rfl) rfl (aV 7 (by decide +kernel) rfl (e_idx k Tryz.underlying22 Tryz.sizeOf3 (q0 rfl) (q0 rfl) (fun _ => ⟨rfl, hlt'⟩)) rfl (aV 8 (by decide +kernel) rfl (e_ld (v := .int .i64 u) Tryz.isAgg3 (q0 rfl) (by exact rr0 5 (enc := encInt) rfl huk rfl)) rfl ?_)))
        refine rdy1 (i := 9) (by decide +kernel) (sub_drop 0) (aL rfl (f_callx (en Tryz.call61 (ha3 (q0 rfl) (q0 rfl) (q0 rfl))) (fun w hw => hfw w hw) rfl (fun _ => rfl) fun z => (aRL (sub_drop 1) (aV 10 (by decide +kernel) rfl (e_mv (q0 rfl)) rfl (aV 11 (by decide +kernel) rfl (e_ext (q0 rfl) rfl) rfl (aV 12 (by decide +kernel) rfl (e_ext (q0 rfl) rfl) rfl (aV 13 (by decide +kernel) rfl (asS rfl) rfl (aV 14 (by decide +kernel) rfl (asI rfl) rfl (aZ (by decide +kernel) (sub_drop 0) (thenJ_normal ?_))))))))))
        refine H_seq (H_seq (R0 (xv (mvI rfl) (xv (e_ne (q0 rfl) (q0 rfl)) (XN (thenJ_normal (H_cond rfl (fun h5 => ?_) (fun h5 => ?_))))))))
        · exfalso; simp at h5
        · have hRl2 := hRl k hk
          have hDl2 := hDl k hk
          have htl2 : (xs.map tot).length = k := by rw [List.length_map, hbl]
          have hR1 := hRs k x.r hlk
          have hD1 := hDs k x.r hlk
          have htb : (xs ++ [(⟨b, z.1, z.2⟩ : FX)]).map tot = xs.map tot ++ [b.total] := by rw [List.map_append, List.map_cons, List.map_nil, htot]
          refine H_skip (thenJ_normal (H_seq (R0 (xv (mvS rfl) (xv (mvI rfl) (xv (e_idx k Tryz.underlying36 Tryz.sizeOf54 (q0 rfl) (q0 rfl) (fun _ => ⟨rfl, hlt'⟩)) (xv (e_fld Tryz.underlying54 rfl Tryz.sizeOf50 rfl (q0 rfl)) (xv (e_fld Tryz.underlying50 rfl Tryz.sizeOf3 rfl (q0 rfl)) (xv (e_ld (v := .int .i64 x.r.start.lo) Tryz.isAgg3 (q0 rfl) (by exact rr (r := 2) 7 rfl hxk rfl)) ?_)))))))))
          refine xC (en Tryz.call62 (ha1 (q0 rfl))) (fun _ w _ => rday_w x.r.start.lo w (by omega)) rfl rfl (xv (e_mv (q0 rfl)) (xv (e_ext (q0 rfl) rfl) (xv (e_ext (q0 rfl) rfl) (xv (asI rfl) (xv (asI rfl) (XN (thenJ_normal (H_seq (R0 ?_)))))))))
          refine xv (mvS rfl) (xv (mvS rfl) (X_push (k := 1) (i := Tryz.t42) 1 ((⟨b, z.1, z.2⟩ : FX)) Tryz.underlying108 (by kernel_rfl) rfl rfl rfl rfl Tryz.sizeOf42 Tryz.zeroValue42 rfl rfl rfl rfl rfl rfl ⟨by simp only; omega, by decide⟩ rfl rfl fun B0 A1 c1 => (xv (asS rfl) (XN (thenJ_normal (H_seq (R0 (xv (mvS rfl) (xv (mvS rfl) ?_)))))))))
          refine xv (mvI rfl) (xv (e_idx k Tryz.underlying36 Tryz.sizeOf54 (q0 rfl) (q0 rfl) (fun _ => ⟨rfl, hlt'⟩)) (xv (e_fld Tryz.underlying54 rfl Tryz.sizeOf3 rfl (q0 rfl)) (xv (e_ld (v := .int .i64 x.r.rider) Tryz.isAgg3 (q0 rfl) (by exact rr (r := 1) 7 rfl hxk rfl)) ?_)))
          refine X_push (k := 1) (i := Tryz.t3) 2 (x.r.rider) Tryz.underlying22 (by kernel_rfl) rfl rfl rfl rfl Tryz.sizeOf3 Tryz.zeroValue3 rfl rfl rfl rfl rfl rfl ⟨by simp only; omega, by decide⟩ rfl rfl fun B1 A2 c2 => (xv (asS rfl) (XN (thenJ_normal (H_seq (R0 (xv (mvS rfl) (xv (mvI rfl) (X_push (k := 1) (i := Tryz.t3) 3 ((x.r.start.lo / 86400)) Tryz.underlying22 (by kernel_rfl) rfl rfl rfl rfl Tryz.sizeOf3 Tryz.zeroValue3 rfl rfl rfl rfl rfl rfl ⟨by simp only; omega, by decide⟩ rfl rfl fun B2 A3 c3 => (xv (asS rfl) ?_)))))))))
          refine XN (thenJ_normal (R0 (xv (mvS rfl) (xv (mvS rfl) (xC (en Tryz.call63 (ha1 (q0 rfl))) (fun _ w hw => rtot_w b hbI hbT _ _ _ w (slAt_row hw (j := 0) rfl (fun _ => rfl) (by omega))) rfl rfl (X_push (k := 1) (i := Tryz.t3) 4 (b.total) Tryz.underlying22 (by kernel_rfl) rfl rfl rfl rfl Tryz.sizeOf3 Tryz.zeroValue3 rfl rfl rfl rfl rfl rfl ⟨by simp only; omega, by decide⟩ rfl rfl fun B3 A4 c4 => (xv (asS rfl) (XN (blockJ_normal ?_)))))))))
          refine thenJ_normal (R0 (xv (mvI rfl) (xv (e_add (q0 rfl) (q0 rfl) (fun _ => ⟨rfl, by omega, by omega⟩)) (xv (asI rfl) (XN ?_)))))
          exact loopJ_normal (k + 1, xs ++ [(⟨b, z.1, z.2⟩ : FX)], (A1, c1), (A2, c2), (A3, c3), (A4, c4)) agr ⟨rfl, rfl, by rw [hR1]; rfl, by rw [hD1]; rfl, by rw [htb]; rfl, trivial⟩ (fun w hw => by
            rw [hR1, hD1, htb]
            exact (Mem.pushed (f := faParts) (y := (⟨b, z.1, z.2⟩ : FX)) (xs := xs) (hw.pick [0, 5, 1, 2, 3, 4, 6, 7, 8, 9] (by decide))).pick [1, 2, 3, 4, 0, 5, 6, 7, 8] (by decide)) rfl ⟨by show k + 1 ≤ m; omega, by rw [hFSs]; unfold fsStep; simp only [hfp, List.map_append, List.map_cons, List.map_nil], fun y hy => by
              rcases List.mem_append.1 hy with hy | hy
              · exact hIb y hy
              · simp at hy; subst hy; exact ⟨hbI, hbT⟩⟩ (by show m - (k + 1) < m - k; omega)
    · have hend : k = m := by simp at hlt; omega
      subst hend
      have hrich : Rich l (xs.map (·.b)) := rich_of h1' hlg (husm.trans hlm.symm) (by rw [hlm]; exact hFS)
      have hfsA : fsAll p (l.zip us) = some (xs.map (·.b)) := by rw [← FS_all (k := k) (by omega)]; exact hFS
      have hRl2 := hRl k (Nat.le_refl _)
      have hDl2 := hDl k (Nat.le_refl _)
      have htl2 : (xs.map tot).length = k := by rw [List.length_map, hbl]
      have hRm : R k = l.map (·.rider) := by rw [hRd, ← hlm, List.take_length]
      have hDm : D k = l.map fun r => r.start.lo / 86400 := by rw [hDd, ← hlm, List.take_length]
      have hSm : xs.map tot = (xs.map (·.b)).map (·.total) := by rw [List.map_map]; exact List.map_congr_left fun x _ => htot x
      obtain ⟨pd, hpd⟩ : ∃ pd, pd = paidOf p l (xs.map (·.b)) := ⟨_, rfl⟩
      have hpdl : pd.length = k := by rw [hpd, paidOf_len hrich.len, List.length_map, hbl]
      have hApp : ∀ (w' : World), SlAt w' 1 encInt rA (R k).length (R k) → SlAt w' 1 encInt dA (D k).length (D k) → SlAt w' 1 encInt sA (xs.map tot).length (xs.map tot) → Calls Tryz.prog 64 #[.int .i64 p.cap, .slice rA k rc2, .slice dA k dc, .slice sA k sc] w' fun e w'' => ∃ z : Option Addr × Nat, e = .returned (.tuple #[.slice z.1 pd.length z.2, .int .i64 0]) ∧ Mem w' [intRow z.1 z.2 pd] w'' := fun w' s1 s2 s3 => by
        rw [hRl2] at s1
        rw [hDl2] at s2
        rw [htl2] at s3
        have h := rdApply_w p.cap rA rc2 dA dc sA sc k ((l.zip (xs.map (·.b))).map dyOf) w' ⟨by rw [dy_rider hrich.len, ← hRm]; exact s1, by rw [dy_day hrich.len, ← hDm]; exact s2, by rw [dy_amount hrich.len, ← hSm]; exact s3⟩ (dyErr_ok h1' hlg hrich)
        rw [show (dayS p.cap ((l.zip (xs.map (·.b))).map dyOf)).map (·.2) = pd from hpd.symm] at h
        exact h
      rw [hRl2, hDl2, htl2]
      refine H_exit (thenJ_exit (loopJ_exit (blockJ_hit (thenJ_normal (H_seq (R0 (xv (e_fld Tryz.underlying28 rfl Tryz.sizeOf3 rfl (q0 rfl)) (xv (eL Tryz.isAgg3 (q0 rfl)) ?_))))))))
      refine xv (mvS rfl) (xv (mvS rfl) (xv (mvS rfl) (xCX (en Tryz.call64 (ha4 (q0 rfl) (q0 rfl) (q0 rfl) (q0 rfl))) (fun w hw => hApp w (slAt_row hw (j := 1) rfl (fun _ => rfl) (by omega)) (slAt_row hw (j := 2) rfl (fun _ => rfl) (by omega)) (slAt_row hw (j := 3) rfl (fun _ => rfl) (by omega))) rfl (fun _ => rfl) fun dz => ?_)))
      obtain ⟨qA, qc⟩ := dz
      obtain ⟨Z, hZ⟩ : ∃ Z, Z = (xs.map (·.b)).zip pd := ⟨_, rfl⟩
      have hZl : Z.length = k := by rw [hZ, List.length_zip, List.length_map]; omega
      refine xv (e_mv (q0 rfl)) (xv (e_ext (q0 rfl) rfl) (xv (e_ext (q0 rfl) rfl) (xv (asS rfl) (xv (asI rfl) (XN (thenJ_normal (H_seq (R0 (X_eff (f_slit0 FX.cells Tryz.underlying38 Tryz.sizeOf44 rfl fun fA0 fc0 => ?_))))))))))
      refine xv (asS rfl) (XN (thenJ_normal (H_seq (H_seq (H_mem (L' := [faRow fA0 fc0 [], bag (([] : List FX).flatMap faParts), bag (xs.flatMap faParts), intRow qA qc pd, slRow iA ic xs, intRow sA sc (xs.map tot), rdRow cA cc ys, box b5 28 (p.cells a), box b4 24 (f.cells fa)]) (fun w hw => ((hw.pick [0, 6, 1, 2, 5, 8, 9, 10] (by decide)).noBag (f := faParts)).pick [1, 0, 2, 3, 4, 5, 6, 7, 8] (by decide)) rfl (R0 (xv (asI rfl) (XN (thenJ_normal ?_)))))))))
      refine H_block (H_loop [8, 9, 25, 26, 27, 28, 29, 30, 31, 32, 33, 34, 35, 120, 121, 122, 123, 124, 125, 126, 127, 128, 129, 130, 131, 132, 133, 134, 135, 136, 137, 138, 139, 140, 141, 142, 143, 144, 145, 146, 147, 148, 149, 150, 151, 152, 153, 154, 155, 156, 157, 158, 159, 160, 161, 162, 163, 164, 165, 166, 167, 168, 169, 170, 171, 172, 173, 174, 175, 176, 177, 178, 179, 180, 181, 182, 183, 184, 185, 186, 187, 188, 189, 190, 191, 192, 193, 194, 195, 196, 197, 198, 199, 200, 201, 202, 203, 204, 205, 206, 207, 208, 209, 210, 211, 212, 213, 214] (fun s : Nat × List FX × (Option Addr × Nat) => [(26, .int .i64 s.1), (25, .slice s.2.2.1 s.2.1.length s.2.2.2)]) (fun s => [faRow s.2.2.1 s.2.2.2 s.2.1, bag (s.2.1.flatMap faParts), bag ((xs.drop s.1).flatMap faParts), intRow qA qc pd, slRow iA ic xs, intRow sA sc (xs.map tot), rdRow cA cc ys, box b5 28 (p.cells a), box b4 24 (f.cells fa)]) (fun s => s.1 ≤ k ∧ (∃ C, FN p vs Z s.1 = some C ∧ (s.2.1.map (·.b)).Perm C) ∧ s.2.1.Pairwise fun a b => a.b.ride ≤ b.b.ride) (fun s => k - s.1) (0, [], (fA0, fc0)) ⟨rfl, rfl, trivial⟩ (fun w hw => hw) rfl ⟨Nat.zero_le _, ⟨[], by unfold FN; rfl, List.Perm.refl _⟩, List.Pairwise.nil⟩ ?_)
      rintro ⟨i, fs, ⟨fA, fc⟩⟩ g3 ⟨hi, ⟨C, hFN, hfp⟩, hfo⟩
      simp only at hi hfp hfo hFN
      have hfl : fs.length = i := by
        have h := congrArg List.length (FN_facts (by omega) hFN)
        have h2 := hfp.length_eq
        rw [List.length_map] at h2
        rw [List.length_map, List.length_take] at h
        omega
      refine H_seq (H_seq (R0 (xv (mvI rfl) (xv (mvS rfl) (xv (e_len Tryz.underlying36 (q0 rfl)) (xv (e_lt (q0 rfl) (q0 rfl)) (XN (thenJ_normal (H_cond rfl (fun hlt3 => ?_) (fun hlt3 => ?_))))))))))
      · have hlt3' : i < k := by first | (simp at hlt3; omega) | omega
        obtain ⟨bk, hbk⟩ : ∃ bk, xs[i]? = some bk := ⟨_, List.getElem?_eq_getElem (by omega)⟩
        obtain ⟨pv, hpk⟩ : ∃ pv, pd[i]? = some pv := ⟨_, List.getElem?_eq_getElem (by omega)⟩
        obtain ⟨x, hxk⟩ : ∃ x, ys[i]? = some x := ⟨_, List.getElem?_eq_getElem (by omega)⟩
        have hlk : l[i]? = some x.r := by rw [hll]; simp [hxk]
        have hBk : (xs.map (·.b))[i]? = some bk.b := by simp [hbk]
        have hSk : (xs.map tot)[i]? = some bk.b.total := by simp [hbk, htot]
        have hrr := hrich.ride i bk.b x.r hBk hlk
        obtain ⟨hbI, hbT⟩ := hIb bk (List.mem_of_getElem? hbk)
        have hpr : 0 ≤ pv ∧ pv ≤ 1000000000000 := by
          have h := List.mem_of_getElem? hpk
          rw [hpd] at h
          exact paid_range h1' hrich h
        have hZk : Z[i]? = some (bk.b, pv) := by rw [hZ]; exact zip_get hBk hpk
        have hFNs := FN_succ (p := p) (vs := vs) hZk
        rw [hFN] at hFNs
        obtain ⟨b1, hb1⟩ : ∃ b1, b1 = addB bk.b 6 0 (pv - bk.b.total) := ⟨_, rfl⟩
        have hb1t : b1.total = pv := by rw [hb1, addB_total]; omega
        have hb1l : b1.items.length ≤ 6 := by have := addB_len bk.b 6 0 (pv - bk.b.total); rw [← hb1] at this; omega
        have hb1I : Ib b1.items := by rw [hb1]; exact addB_Ib hbI (by omega) (by omega)
        have hb1T : totI b1.items = b1.total := by rw [hb1]; exact addB_tot hbT _ _ _
        have hb1i : withI bk.b.items 6 0 (pv - bk.b.total) = b1.items := by rw [hb1, addB_items]
        have hb1r : b1.ride = x.r.id ∧ b1.rider = x.r.rider := by rw [hb1]; have := addB_ride bk.b 6 0 (pv - bk.b.total); exact ⟨this.1.trans hrr.2.2.2.1, this.2.trans hrr.2.2.2.2⟩
        have hfb : finB p vs bk.b (pv - bk.b.total) = finB2 p vs b1 b1.ride := by rw [hb1]; exact finB_eq p vs bk.b (pv - bk.b.total)
        obtain ⟨fb, hfbe⟩ : ∃ fb, fb = finB p vs bk.b (pv - bk.b.total) := ⟨_, rfl⟩
        have hfbr : fb.ride = x.r.id ∧ fb.rider = x.r.rider := by rw [hfbe]; have := finB_ride p vs bk.b (pv - bk.b.total); exact ⟨this.1.trans hrr.2.2.2.1, this.2.trans hrr.2.2.2.2⟩
        have hfr := fineR_range (vs := vs) (i := vIdx vs x.r.id) hpe
        have hfb2 : fb = if vIdx vs x.r.id < 0 then b1 else addB b1 7 (Pen.numR p.fines p.days vs (vIdx vs x.r.id)).1 (Pen.fineR p.fines p.days vs (vIdx vs x.r.id)).1 := by rw [hfbe, hfb]; unfold finB2; rw [hb1r.1]
        have hfbI : Ib fb.items ∧ totI fb.items = fb.total := by
          rw [hfb2]
          split
          · exact ⟨hb1I, hb1T⟩
          · exact ⟨addB_Ib hb1I (by omega) (by omega), addB_tot hb1T _ _ _⟩
        refine H_know (fun w hw => rowT_at (j := 4) hw rfl (by omega)) fun ⟨ib, hib⟩ => ?_
        subst hib
        refine H_know (fun w hw => rowT_at (j := 3) hw rfl (by omega)) fun ⟨qb, hqb⟩ => ?_
        subst hqb
        refine H_know (fun w hw => rowT_at (j := 5) hw rfl (by omega)) fun ⟨sb, hsb⟩ => ?_
        subst hsb
        refine H_know (fun w hw => rowT_at (j := 6) hw rfl (by omega)) fun ⟨yb, hyb⟩ => ?_
        subst hyb
        refine H_skip (thenJ_normal (H_seq (H_block (H_seq ?_))))
        refine H_mem (L' := [itRow bk.A bk.c bk.b.items, intRow (some ⟨qb, 0, none⟩) qc pd, intRow (some ⟨sb, 0, none⟩) sc (xs.map tot), slRow (some ⟨ib, 0, none⟩) ic xs, bag ((xs.drop (i + 1)).flatMap faParts), faRow fA fc fs, bag (fs.flatMap faParts), rdRow (some ⟨yb, 0, none⟩) cc ys, box b5 28 (p.cells a), box b4 24 (f.cells fa)]) (fun w hw => by
          rw [drop_of hbk] at hw
          exact (Mem.apart (f := faParts) (xs := bk :: xs.drop (i + 1)) (k := 0) (x := bk) (hw.pick [2, 0, 1, 3, 4, 5, 6, 7, 8] (by decide)) rfl).pick [0, 4, 6, 5, 1, 2, 3, 7, 8, 9] (by decide)) rfl ?_
        refine RAd 1 rfl (by decide +kernel) (aV 0 (by decide +kernel) rfl (mvS rfl) rfl (aV 1 (by decide +kernel) rfl (mvI rfl) rfl (aV 2 (by decide +kernel) rfl (e_idx i Tryz.underlying108 Tryz.sizeOf42 (q0 rfl) (q0 rfl) (fun _ => ⟨rfl, by simp only; omega⟩)) rfl (aV 3 (by decide +kernel) rfl (e_ld (v := .slice bk.A bk.b.items.length bk.c) Tryz.isAgg42 (q0 rfl) (by exact rr0 2 (enc := FX.sl) rfl hbk rfl)) rfl ?_))))
        refine aV 4 (by decide +kernel) rfl (mvS rfl) rfl (aV 5 (by decide +kernel) rfl (mvI rfl) rfl (aV 6 (by decide +kernel) rfl (e_idx i Tryz.underlying22 Tryz.sizeOf3 (q0 rfl) (q0 rfl) (fun _ => ⟨rfl, by omega⟩)) rfl (aV 7 (by decide +kernel) rfl (e_ld (v := .int .i64 pv) Tryz.isAgg3 (q0 rfl) (by exact rr0 0 (enc := encInt) rfl hpk rfl)) rfl ?_)))
        refine aV 8 (by decide +kernel) rfl (mvS rfl) rfl (aV 9 (by decide +kernel) rfl (mvI rfl) rfl (aV 10 (by decide +kernel) rfl (e_idx i Tryz.underlying22 Tryz.sizeOf3 (q0 rfl) (q0 rfl) (fun _ => ⟨rfl, by omega⟩)) rfl (aV 11 (by decide +kernel) rfl (e_ld (v := .int .i64 bk.b.total) Tryz.isAgg3 (q0 rfl) (by exact rr0 1 (enc := encInt) rfl hSk rfl)) rfl ?_)))
        refine aV 12 (by decide +kernel) rfl (e_sub (r := pv - bk.b.total) (q0 rfl) (q0 rfl) (fun _ => ⟨rfl, by omega, by omega⟩)) rfl (rdy1 (i := 13) (by decide +kernel) (sub_drop 1) (aL rfl (f_callM (en Tryz.call65 (ha4 (q0 rfl) (q0 rfl) (q0 rfl) (q0 rfl))) (fun w hw => with_w 6 0 (pv - bk.b.total) hw rfl (by omega)) rfl (fun _ => rfl) fun z6 => (aV 14 (by decide +kernel) rfl (asS rfl) rfl (aZ (by decide +kernel) (sub_drop 1) (thenJ_normal (H_seq (H_seq ?_))))))))
        rw [hb1i]
        refine R0 (xv (mvS rfl) (xv (mvS rfl) (xv (mvI rfl) (xv (e_idx i Tryz.underlying36 Tryz.sizeOf54 (q0 rfl) (q0 rfl) (fun _ => ⟨rfl, by omega⟩)) (xv (e_fld Tryz.underlying54 rfl Tryz.sizeOf3 rfl (q0 rfl)) (xv (e_ld (v := .int .i64 x.r.id) Tryz.isAgg3 (q0 rfl) (by exact rr (r := 0) 7 rfl hxk rfl)) ?_))))))
        refine xC (en Tryz.call66 (ha2 (q0 rfl) (q0 rfl))) (fun _ w hw => rverdict_w V vn vc vs x.r.id w (hv.mem hw)) rfl rfl (xv (asI rfl) (XN (thenJ_normal (H_seq (R0 (xv (mvI rfl) (xv (e_ge (q0 rfl) (q0 rfl)) (XN (thenJ_normal ?_)))))))))
        refine H_cut [27, 29, 30, 31, 32, 149, 150, 151, 152, 153, 154, 155, 156, 157, 158, 159, 160, 161, 162, 163, 164, 165, 166] (fun z : Option Addr × Nat => [(27, .slice z.1 fb.items.length z.2)]) (fun z => [itRow z.1 z.2 fb.items, intRow (some ⟨qb, 0, none⟩) qc pd, intRow (some ⟨sb, 0, none⟩) sc (xs.map tot), slRow (some ⟨ib, 0, none⟩) ic xs, bag ((xs.drop (i + 1)).flatMap faParts), faRow fA fc fs, bag (fs.flatMap faParts), rdRow (some ⟨yb, 0, none⟩) cc ys, box b5 28 (p.cells a), box b4 24 (f.cells fa)]) (fun _ => True) ?_ ?_
        · refine H_cond rfl (fun hvx => ?_) (fun hvx => ?_)
          · have hvx' : ¬ vIdx vs x.r.id < 0 := by simp at hvx; omega
            rw [if_neg hvx'] at hfb2
            refine H_seq (R0 (xv (eS Tryz.isAgg28 Tryz.sizeOf28 (q0 rfl)) ?_))
            refine xv (mvS rfl) (xv (mvI rfl) (xC (en Tryz.call67 (ha3 (q0 rfl) (q0 rfl) (q0 rfl))) (fun _ w hw => Pen.rNumber_w _ _ _ _ _ a.f.A a.f.n a.f.c p.fines p.days V vn vc vs (vIdx vs x.r.id) w (hp.fi.mem hw) (hv.mem hw)) rfl rfl (xv (e_mv (q0 rfl)) (xv (e_ext (q0 rfl) rfl) (xv (e_ext (q0 rfl) rfl) (xv (asI rfl) (xv (asI rfl) (XN (thenJ_normal ?_)))))))))
            refine H_seq (R0 (xv (eS Tryz.isAgg28 Tryz.sizeOf28 (q0 rfl)) ?_))
            refine xv (mvS rfl) (xv (mvI rfl) (xC (en Tryz.call68 (ha3 (q0 rfl) (q0 rfl) (q0 rfl))) (fun _ w hw => Pen.rFine_w _ _ _ _ _ a.f.A a.f.n a.f.c p.fines p.days V vn vc vs (vIdx vs x.r.id) w (hp.fi.mem hw) (hv.mem hw)) rfl rfl (xv (e_mv (q0 rfl)) (xv (e_ext (q0 rfl) rfl) (xv (e_ext (q0 rfl) rfl) (xv (asI rfl) (xv (asI rfl) (XN (thenJ_normal ?_)))))))))
            refine R0 (xv (mvS rfl) (xv (mvI rfl) (xv (mvI rfl) (X_eff (f_callM (en Tryz.call65 (ha4 (q0 rfl) (q0 rfl) (q0 rfl) (q0 rfl))) (fun w hw => with_w 7 (Pen.numR p.fines p.days vs (vIdx vs x.r.id)).1 (Pen.fineR p.fines p.days vs (vIdx vs x.r.id)).1 hw rfl (by omega)) rfl (fun _ => rfl) fun z7 => ?_)))))
            rw [show withI b1.items 7 (Pen.numR p.fines p.days vs (vIdx vs x.r.id)).1 (Pen.fineR p.fines p.days vs (vIdx vs x.r.id)).1 = fb.items by rw [hfb2, addB_items]]
            refine xv (asS rfl) (XN ?_)
            exact cutJ_normal (z7 : Option Addr × Nat) agr ⟨rfl, trivial⟩ (fun w hw => hw) rfl trivial
          · have hvx' : vIdx vs x.r.id < 0 := by simp at hvx; omega
            rw [if_pos hvx'] at hfb2
            rw [← hfb2]
            refine H_skip ?_
            exact cutJ_normal (z6 : Option Addr × Nat) agr ⟨rfl, trivial⟩ (fun w hw => hw) rfl trivial
        · rintro ⟨xA, xc⟩ g5 _
          refine thenJ_normal (H_seq (H_seq (R0 (xv (mvS rfl) (xC (en Tryz.call63 (ha1 (q0 rfl))) (fun _ w hw => rtot_w fb hfbI.1 hfbI.2 _ _ _ w (slAt_row hw (j := 0) rfl (fun _ => rfl) (by have := hfbI.1.few; omega))) rfl rfl (xv (e_gt (q0 rfl) (q0 rfl)) (XN (thenJ_normal (H_cond rfl (fun h7 => ?_) (fun h7 => ?_))))))))))
          · have h7' : 1000000000000 < fb.total := of_decide_eq_true h7
            have hno : allP p (rs.map (·.r)) vs = none := by
              have h8 : fnAll p vs Z = none := FN_none (k := i + 1) (by rw [hFNs]; unfold fnStep; simp only; rw [← hfbe, if_pos h7'])
              unfold allP
              rw [← hlc, ← hus, hfsA]
              simp only
              rw [← hpd, ← hZ, h8]
            rw [hE, if_pos hno]
            refine H_seq (R0 (xv (asS rfl) (xv (asI rfl) (XN (thenJ_normal (H_ret (thenJ_ret (blockJ_ret (thenJ_ret ?_)))))))))
            refine loopJ_ret (blockJ_ret (thenJ_ret ?_))
            exact ret2 (v := .slice _ _ _) (x := .int _ _) rfl rfl rfl rfl fun w' hw => ⟨⟨([], none, 0), by rw [hR, hno]; rfl⟩, rfl, errM hw⟩
          · have h7' : ¬ 1000000000000 < fb.total := of_decide_eq_false h7
            refine H_skip (thenJ_normal (H_seq (RA rfl (by decide +kernel) (aV 0 (by decide +kernel) rfl (mvS rfl) rfl (aV 1 (by decide +kernel) rfl (mvI rfl) rfl (aV 2 (by decide +kernel) rfl (e_idx i Tryz.underlying36 Tryz.sizeOf54 (q0 rfl) (q0 rfl) (fun _ => ⟨rfl, by omega⟩)) rfl (aV 3 (by decide +kernel) rfl (e_fld Tryz.underlying54 rfl Tryz.sizeOf3 rfl (q0 rfl)) rfl (aV 4 (by decide +kernel) rfl (e_ld (v := .int .i64 fb.ride) Tryz.isAgg3 (q0 rfl) (by rw [hfbr.1]; exact rr (r := 0) 7 rfl hxk rfl)) rfl (aV 5 (by decide +kernel) rfl (mvS rfl) rfl ?_)))))))))
            refine aV 6 (by decide +kernel) rfl (mvI rfl) rfl (aV 7 (by decide +kernel) rfl (e_idx i Tryz.underlying36 Tryz.sizeOf54 (q0 rfl) (q0 rfl) (fun _ => ⟨rfl, by omega⟩)) rfl (aV 8 (by decide +kernel) rfl (e_fld Tryz.underlying54 rfl Tryz.sizeOf3 rfl (q0 rfl)) rfl (aV 9 (by decide +kernel) rfl (e_ld (v := .int .i64 fb.rider) Tryz.isAgg3 (q0 rfl) (by rw [hfbr.2]; exact rr (r := 1) 7 rfl hxk rfl)) rfl (aV 10 (by decide +kernel) rfl (mvS rfl) rfl (aV 11 (by decide +kernel) rfl (mvS rfl) rfl (aC 12 (by decide +kernel) rfl (en Tryz.call63 (ha1 (q0 rfl))) (fun _ w hw => rtot_w fb hfbI.1 hfbI.2 _ _ _ w (slAt_row hw (j := 0) rfl (fun _ => rfl) (by have := hfbI.1.few; omega))) rfl (aV 13 (by decide +kernel) rfl (e_build Tryz.underlying44 fl44 Tryz.zeroValue44 (pt (v := .int _ _) rfl (pt (v := .int _ _) rfl (pt (v := .slice _ _ _) rfl (pt (v := .int _ _) rfl E.p0)))) rfl) rfl (rdy1 (i := 14) (by decide +kernel) (sub_drop 0) (aL rfl (f_alloc Tryz.zeroValue44 rfl fun b33 => ?_))))))))))
            refine rdy1 (i := 15) (by decide +kernel) (sub_drop 1) (aL rfl (f_st (v := .agg _) rfl rfl Tryz.sizeOf44 ?_))
            refine aZ (by decide +kernel) (sub_drop 1) (thenJ_normal (H_seq (H_mem (L' := [box b33 44 (⟨fb, xA, xc⟩ : FX).cells, itRow xA xc fb.items, intRow (some ⟨qb, 0, none⟩) qc pd, intRow (some ⟨sb, 0, none⟩) sc (xs.map tot), slRow (some ⟨ib, 0, none⟩) ic xs, bag ((xs.drop (i + 1)).flatMap faParts), faRow fA fc fs, bag (fs.flatMap faParts), rdRow (some ⟨yb, 0, none⟩) cc ys, box b5 28 (p.cells a), box b4 24 (f.cells fa)]) (fun w hw => hw) rfl (H_know (fun w hw => rowT_cap (j := 6) hw rfl) fun hcap => (R0 (xv (mvS rfl) (xv (e_len Tryz.underlying38 (q0 rfl)) (xv (asI rfl) (XN ?_)))))))))
            refine thenJ_normal (H_seq (H_block (H_loop [34, 186, 187, 188, 189, 190, 191, 192, 193, 194, 195, 196, 197, 198, 199, 200] (fun j : Nat => [(34, .int .i64 j)]) (fun _ => [box b33 44 (⟨fb, xA, xc⟩ : FX).cells, itRow xA xc fb.items, intRow (some ⟨qb, 0, none⟩) qc pd, intRow (some ⟨sb, 0, none⟩) sc (xs.map tot), slRow (some ⟨ib, 0, none⟩) ic xs, bag ((xs.drop (i + 1)).flatMap faParts), faRow fA fc fs, bag (fs.flatMap faParts), rdRow (some ⟨yb, 0, none⟩) cc ys, box b5 28 (p.cells a), box b4 24 (f.cells fa)]) (fun j => j ≤ fs.length ∧ ∀ q ∈ fs.drop j, fb.ride < q.b.ride) (fun j => j) fs.length ⟨rfl, trivial⟩ (fun w hw => hw) rfl ⟨Nat.le_refl _, by rw [List.drop_length]; intro q hq; cases hq⟩ ?_)))
            rintro j g6 ⟨hj, hb⟩
            have hfin : (j = 0 ∨ ∃ z, fs[j - 1]? = some z ∧ z.b.ride ≤ fb.ride) → (fs.take j ++ (⟨fb, xA, xc⟩ : FX) :: fs.drop j).Pairwise fun a b => a.b.ride ≤ b.b.ride := fun h => by
              refine insF_sorted hfo hj hb (fun z h0 hz => ?_)
              rcases h with h | ⟨z', hz', h⟩
              · exact absurd h h0
              · rw [hz] at hz'; cases hz'; exact h
            have hjl : (fs.take j).length = j := by rw [List.length_take]; omega
            refine H_seq (H_seq (H_cut [186, 187, 188, 189, 190, 191, 192, 193, 194, 195, 196, 197, 198] (fun u : Bool => [(198, .bool u)]) (fun _ => [box b33 44 (⟨fb, xA, xc⟩ : FX).cells, itRow xA xc fb.items, intRow (some ⟨qb, 0, none⟩) qc pd, intRow (some ⟨sb, 0, none⟩) sc (xs.map tot), slRow (some ⟨ib, 0, none⟩) ic xs, bag ((xs.drop (i + 1)).flatMap faParts), faRow fA fc fs, bag (fs.flatMap faParts), rdRow (some ⟨yb, 0, none⟩) cc ys, box b5 28 (p.cells a), box b4 24 (f.cells fa)]) (fun u => (u = true → 0 < j ∧ ∃ z, fs[j - 1]? = some z ∧ fb.ride < z.b.ride) ∧ (u = false → j = 0 ∨ ∃ z, fs[j - 1]? = some z ∧ z.b.ride ≤ fb.ride)) ?_ ?_))
            · have _ht : True := trivial
              rcases Nat.eq_zero_or_pos j with h0 | h0
              case inl =>
                subst h0
                refine R1 rfl (by decide +kernel) (xv (mvI rfl) (xv (e_gt (q0 rfl) (q0 rfl)) (xv (mvB rfl) (xt (e_dead (v := .pointer none) (by decide)) rfl rfl (xt (e_dead (v := .int .i64 0) (by decide)) rfl rfl (xt (e_dead (v := .slice none 0 0) (by decide)) rfl rfl (xt (e_dead (v := .int .i64 0) (by decide)) rfl rfl (xt (e_dead (v := .int .i64 0) (by decide)) rfl rfl (xt (e_dead (v := .pointer none) (by decide)) rfl rfl ?_)))))))))
                refine xt (e_dead (v := .pointer none) (by decide)) rfl rfl (xt (e_dead (v := .int .i64 0) (by decide)) rfl rfl (xt (e_dead (v := .bool false) (by decide)) rfl rfl (xv (e_and (q0 rfl) rfl (fun h => by first | rfl | (rw [h]; rfl))) ?_)))
                refine XN ?_
                exact cutJ_normal false agr ⟨rfl, trivial⟩ (fun w hw => hw) rfl ⟨fun h => (by cases h), fun _ => .inl rfl⟩
              case inr =>
                obtain ⟨z, hz⟩ : ∃ z, fs[j - 1]? = some z := ⟨_, List.getElem?_eq_getElem (by omega)⟩
                refine H_know (fun w hw => rowT_at (j := 6) hw rfl (by omega)) fun ⟨rb, hrb⟩ => ?_
                subst hrb
                refine R1 rfl (by decide +kernel) (xv (mvI rfl) (xv (e_gt (q0 rfl) (q0 rfl)) (xv (mvB rfl) (xt (e_fld Tryz.underlying44 rfl Tryz.sizeOf3 rfl (q0 rfl)) rfl rfl (xt (e_ld (v := .int .i64 fb.ride) Tryz.isAgg3 (q1 rfl) (bx 0 rfl rfl)) rfl rfl (xt (mvS rfl) rfl rfl (xt (mvI rfl) rfl rfl (xt (e_sub (r := ((j - 1 : Nat) : Int)) (q1 rfl) (q0 rfl) (fun _ => ⟨by omega, by omega, by omega⟩)) rfl rfl (xt (e_idx (j - 1) Tryz.underlying38 Tryz.sizeOf44 (q1 rfl) (q1 rfl) (fun _ => ⟨rfl, by simp only; omega⟩)) rfl rfl ?_)))))))))
                refine xt (e_fld Tryz.underlying44 rfl Tryz.sizeOf3 rfl (q1 rfl)) rfl rfl (xt (e_ld (v := .int .i64 z.b.ride) Tryz.isAgg3 (q1 rfl) (by exact rr (r := 0) 6 rfl hz rfl)) rfl rfl ?_)
                refine xt (e_lt (q1 rfl) (q1 rfl)) rfl rfl (xv (e_and (q0 rfl) rfl (fun h => by first | rfl | (rw [h]; rfl))) ?_)
                refine XN ?_
                exact cutJ_normal (decide (fb.ride < z.b.ride)) agr ⟨by show Value.bool (decide ((0 : Int) < (j : Int)) && decide (fb.ride < z.b.ride)) = _; rw [show decide ((0 : Int) < (j : Int)) = true by simp; omega]; rfl, trivial⟩ (fun w hw => hw) rfl ⟨fun h => ⟨h0, z, hz, of_decide_eq_true h⟩, fun h => .inr ⟨z, hz, by have := of_decide_eq_false h; omega⟩⟩
            · rintro u g7 ⟨hu1, hu2⟩
              refine thenJ_normal (H_cond rfl (fun hc => ?_) (fun hc => ?_))
              · obtain ⟨h0, z, hz, hlz⟩ := hu1 hc
                refine H_skip (thenJ_normal (H_block (R0 (xv (mvI rfl) (xv (e_sub (q0 rfl) (q0 rfl) (fun _ => ⟨rfl, by omega, by omega⟩)) (xv (asI rfl) (XN (blockJ_normal ?_))))))))
                exact loopJ_normal (j - 1) agr ⟨by show Value.int .i64 ((j : Int) - 1) = Value.int .i64 ((j - 1 : Nat) : Int); congr 1; omega, trivial⟩ (fun w hw => hw) rfl ⟨by omega, by
                  rw [drop_of hz, show j - 1 + 1 = j by omega]
                  intro q hq
                  rcases List.mem_cons.1 hq with rfl | hq
                  · exact hlz
                  · exact hb q hq⟩ (by show j - 1 < j; omega)
              · have p2 := hfin (hu2 hc)
                have hcat : (fs.take j ++ [(⟨fb, xA, xc⟩ : FX)]) ++ fs.drop j = fs.take j ++ (⟨fb, xA, xc⟩ : FX) :: fs.drop j := by simp
                have hperm : (fs.take j ++ (⟨fb, xA, xc⟩ : FX) :: fs.drop j).Perm (fs ++ [(⟨fb, xA, xc⟩ : FX)]) := ins_perm (List.Perm.refl fs)
                have hFN2 : FN p vs Z (i + 1) = some (C ++ [fb]) := by rw [hFNs]; unfold fnStep; simp only; rw [← hfbe, if_neg h7']
                have hpm : ((fs.take j ++ (⟨fb, xA, xc⟩ : FX) :: fs.drop j).map (·.b)).Perm (C ++ [fb]) := by
                  refine (hperm.map _).trans ?_
                  rw [List.map_append]
                  exact hfp.append_right [fb]
                refine H_exit (thenJ_exit (loopJ_exit (blockJ_hit (thenJ_normal (H_seq (R0 (X_eff (f_slit0 FX.cells Tryz.underlying38 Tryz.sizeOf44 rfl fun A2 c2 => (xv (mvS rfl) (xv (mvI rfl) ?_))))))))))
                refine xv (e_slLoG j Tryz.underlying38 Tryz.sizeOf44 (q0 rfl) (q0 rfl) (fun _ => ⟨rfl, hj⟩)) (X_append (f_append (k := 4) (i := Tryz.t44) (enc := FX.cells) 0 Tryz.underlying38 (by kernel_rfl) rfl rfl rfl rfl (fun _ => rfl) (fun _ => rfl) rfl rfl rfl (fun w hw => (slAt_row hw (j := 7) rfl (fun _ => rfl) (by omega)).drop hj hcap.1) ⟨by simp; omega, by decide⟩ rfl fun A3 c3 => (xv (asS rfl) (XN (thenJ_normal (RA rfl (by decide +kernel) (aV 0 (by decide +kernel) rfl (mvS rfl) rfl (aV 1 (by decide +kernel) rfl (mvI rfl) rfl (aV 2 (by decide +kernel) rfl (mvI rfl) rfl (aV 3 (by decide +kernel) rfl (e_slHi3 j Tryz.underlying38 Tryz.sizeOf44 (q0 rfl) (q0 rfl) (q0 rfl) (fun _ => ⟨rfl, rfl, by simp only; omega⟩)) rfl ?_))))))))))
                refine aV 4 (by decide +kernel) rfl (e_lds (vs := (⟨fb, xA, xc⟩ : FX).cells) Tryz.isAgg44 Tryz.sizeOf44 (q0 rfl) (bxs 1 rfl) rfl) rfl (aV 7 (by decide +kernel) rfl (mvS rfl) rfl (rdy1 (i := 5) (by decide +kernel) (sub_drop 0) (aL rfl (f_slit [(.int .i64 0), (.int .i64 0), (.slice none 0 0), (.int .i64 0)] Tryz.underlying38 Tryz.sizeOf44 Tryz.zeroValue44 rfl (by kernel_rfl) (pt (v := .agg _) rfl E.p0) rfl rfl fun b211 => (rdy1 (i := 6) (by decide +kernel) (sub_drop 1) (aL rfl (f_appendF (k := 4) (i := Tryz.t44) (enc := FX.cells) (xs := fs.take j) Tryz.underlying38 (by kernel_rfl) rfl rfl rfl (fun _ => rfl) rfl rfl (fun w hw => (slAt_row hw (j := 8) rfl (fun _ => rfl) (by omega)).take hj) (fun w hw => slAt_box (enc := FX.cells) (xs := [(⟨fb, xA, xc⟩ : FX)]) hw (j := 0) rfl (fun _ => rfl) (by simp)) (by decide) ⟨by simp; omega, by decide⟩ rfl fun A5 c5 => (aI 1 (rdy1 (i := 8) (by decide +kernel) (sub_drop 2) (aL rfl (f_append (k := 4) (i := Tryz.t44) (enc := FX.cells) (xs := fs.take j ++ [(⟨fb, xA, xc⟩ : FX)]) 1 Tryz.underlying38 (by kernel_rfl) rfl rfl rfl rfl (fun _ => rfl) (fun _ => rfl) rfl rfl rfl (fun w hw => slAt_row hw (j := 2) rfl (fun _ => rfl) (by simp; omega)) ⟨by simp; omega, by decide⟩ rfl fun A6 c6 => (aRL (sub_drop 2) ?_))))))))))))
                refine aV 9 (by decide +kernel) rfl (asS rfl) rfl (aZ (by decide +kernel) (sub_drop 0) (blockJ_normal (thenJ_normal (R0 (xv (mvI rfl) (xv (e_add (q0 rfl) (q0 rfl) (fun _ => ⟨rfl, by omega, by omega⟩)) (xv (asI rfl) (XN ?_))))))))
                exact loopJ_normal (i + 1, fs.take j ++ (⟨fb, xA, xc⟩ : FX) :: fs.drop j, (A6, c6)) agr ⟨rfl, by show Value.slice A6 ((fs.take j ++ [(⟨fb, xA, xc⟩ : FX)]) ++ fs.drop j).length c6 = Value.slice A6 (fs.take j ++ (⟨fb, xA, xc⟩ : FX) :: fs.drop j).length c6; rw [hcat], trivial⟩ (fun w hw => by
                  have h1 := hw.pick [4, 10, 1, 8, 5, 7, 6, 11, 12, 13] (by decide)
                  have h2 := Mem.pushed (f := faParts) (y := (⟨fb, xA, xc⟩ : FX)) (xs := fs) h1
                  have h3 := (bag_perm h2 hperm).pick [1, 0, 2, 3, 4, 5, 6, 7, 8] (by decide)
                  show Mem _ [faRow A6 c6 (fs.take j ++ (⟨fb, xA, xc⟩ : FX) :: fs.drop j), bag ((fs.take j ++ (⟨fb, xA, xc⟩ : FX) :: fs.drop j).flatMap faParts), bag ((xs.drop (i + 1)).flatMap faParts), intRow (some ⟨qb, 0, none⟩) qc pd, slRow (some ⟨ib, 0, none⟩) ic xs, intRow (some ⟨sb, 0, none⟩) sc (xs.map tot), rdRow (some ⟨yb, 0, none⟩) cc ys, box b5 28 (p.cells a), box b4 24 (f.cells fa)] w
                  rw [← hcat] at h3 ⊢
                  exact h3) rfl ⟨by show i + 1 ≤ k; omega, ⟨C ++ [fb], hFN2, hpm⟩, p2⟩ (by show k - (i + 1) < k - i; omega)
      · have hend : i = k := by first | (simp at hlt3; omega) | omega
        subst hend
        have hfnA : fnAll p vs Z = some C := by rw [← FN_all (k := i) (by omega)]; exact hFN
        have hall : allP p (rs.map (·.r)) vs = some (byRide C) := by
          unfold allP
          rw [← hlc, ← hus, hfsA]
          simp only
          rw [← hpd, ← hZ, hfnA]
        have hnd : (C.map (·.ride)).Nodup := by
          rw [FN_facts (by omega) hFN, ← hZl, List.take_length, hZ, fin_rides (by rw [List.length_map]; omega), rides_of hrich]
          exact (twice_nodup _ _ hlg.ids).1
        have hgb : fs.map (·.b) = byRide C := byRide_unique hfp hnd (List.pairwise_map.2 hfo)
        rw [hE, if_neg (by rw [hall]; simp)]
        refine H_exit (thenJ_exit (loopJ_exit (blockJ_hit (thenJ_normal (H_seq (R0 (xv (mvS rfl) (xv (asS rfl) (xv (asI rfl) ?_)))))))))
        refine XN (thenJ_normal (H_ret ?_))
        exact ret2 (v := .slice _ _ _) (x := .int _ _) rfl rfl rfl rfl fun w' hw => ⟨⟨(fs, fA, fc), by rw [hR, hall]; exact hgb⟩, rfl, hw.pick [0, 1] (by decide)⟩

end Go.Proofs.Far
