/-
  The walks: loads.
-/
import Derived.Test.YtnikolfakmgbbaaCq
namespace Go.Proofs.Cus
open Go Go.RowKit Go.Proofs.E

theorem Mem.boxRow {α : Type} {enc : α → List Value} {k : Nat} {e : TypeId} {w0 w : World} {L : List E.Item} {j b : Nat} {xs : List α} (he : ∀ x, (enc x).length = k) (hw : Mem w0 L w) (hk : L[j]? = some (box b e (xs.flatMap enc))) (hm : xs.length ≤ 1000000) : Mem w0 (L.set j (rowT e k enc (some ⟨b, 0, none⟩) xs.length xs)) w :=
  hw.swap hk (fun x hx => by cases hx; rfl) (rowT_close he (hw.item hk) ⟨Nat.le_refl _, by simp only [maxLen]; omega, flat_len he xs, [], by simp⟩)
def Lv.cells (x : Lv) : List Value := [.int .i64 x.at_, .int .i64 x.count]
abbrev lvRow (A : Option Addr) (c : Nat) (xs : List Lv) : E.Item := rowT 63 2 Lv.cells A c xs
set_option maxHeartbeats 2000000 in
theorem compactLv_w (eq : Lv → Lv → Bool) (g : Nat) (eg : ∀ args w, (callFunc g args).run Try.prog w = .ok (.enter g args) w)
    (hcl : ∀ (x y : Lv) (w : World), Calls Try.prog g #[.agg (Lv.cells x).toArray, .agg (Lv.cells y).toArray] w fun e w' => e = .returned (.bool (eq x y)) ∧ Bel w w')
    {w0 w : World} {L : List E.Item} {c : Nat} {A : Option Addr} {xs : List Lv} (hw : Mem w0 (rowT 63 2 Lv.cells A c xs :: L) w) (hmk : marks L = []) (hn : xs.length ≤ 1000000) :
    Calls Try.prog 53 #[.slice A xs.length c, .func (.func g) #[] #[]] w fun e w' => ∃ _ : Unit, e = .returned (.slice A (compactF eq xs).length c) ∧ Mem w0 (rowT 63 2 Lv.cells A c (compactF eq xs) :: L) w' := by
  have hcap := rowT_cap (j := 0) hw rfl
  rcases Nat.lt_or_ge xs.length 2 with hlt | hge
  · have hcf : compactF eq xs = xs := by
      match xs, hlt with
      | [], _ => rfl
      | [x], _ => rfl
    rw [hcf]
    refine H_enterM hw hmk Try.func53 rfl Try.ntmps53 rfl ?_
    refine H_seq ?_
    refine R0 ?_
    refine xV (e_as (v := .slice _ _ _) (q0 rfl)) rfl rfl ?_
    refine XN ?_
    refine thenJ_normal ?_
    refine H_seq ?_
    refine H_seq ?_
    refine R0 ?_
    refine xV (e_mv (v := .slice _ _ _) (q0 rfl)) rfl rfl ?_
    refine xV (e_len Try.underlying49 (q0 rfl)) rfl rfl ?_
    refine xV (e_lt (q0 rfl) (q0 rfl)) rfl rfl ?_
    refine XN ?_
    refine thenJ_normal ?_
    refine H_cond rfl (fun h1 => ?_) (fun h1 => ?_)
    · refine H_seq ?_
      refine R0 ?_
      refine xV (e_mv (v := .slice _ _ _) (q0 rfl)) rfl rfl ?_
      refine xV (e_as (v := .slice _ _ _) (q0 rfl)) rfl rfl ?_
      refine XN ?_
      refine thenJ_normal ?_
      refine H_ret ?_
      refine thenJ_ret ?_
      exact ret1 (v := .slice _ _ _) rfl rfl hmk fun w' hw => ⟨(), rfl, hw⟩
    · exact absurd h1 (by simp; omega)
  · obtain ⟨b, rfl⟩ := rowT_at (j := 0) hw rfl (by omega)
    refine H_enterM hw hmk Try.func53 rfl Try.ntmps53 rfl ?_
    refine H_seq ?_
    refine R0 ?_
    refine xV (e_as (v := .slice _ _ _) (q0 rfl)) rfl rfl ?_
    refine XN ?_
    refine thenJ_normal ?_
    refine H_seq ?_
    refine H_seq ?_
    refine R0 ?_
    refine xV (e_mv (v := .slice _ _ _) (q0 rfl)) rfl rfl ?_
    refine xV (e_len Try.underlying49 (q0 rfl)) rfl rfl ?_
    refine xV (e_lt (q0 rfl) (q0 rfl)) rfl rfl ?_
    refine XN ?_
    refine thenJ_normal ?_
    refine H_cond rfl (fun h1 => ?_) (fun h1 => ?_)
    · exact absurd h1 (by simp; omega)
    · refine H_skip ?_
      refine thenJ_normal ?_
      refine H_seq ?_
      refine H_seq ?_
      refine R0 ?_
      refine xV (e_as (v := .int _ _) (q0 rfl)) rfl rfl ?_
      refine XN ?_
      refine thenJ_normal ?_
      refine H_block ?_
      refine H_loop [4, 5, 6, 7, 12, 13, 14, 15, 16, 17, 18, 19, 20, 21, 22, 23, 24, 25, 26, 27, 28, 29, 30, 31, 32, 33, 34, 35, 36, 37, 38, 39, 40, 41, 42, 43, 44, 45, 46, 47, 48, 49, 50, 51, 52, 53, 54, 55, 56, 57, 58, 59, 60, 61, 62, 63, 64] (fun k : Nat => [(5, .int .i64 k)]) (fun _ => _) (fun k => 1 ≤ k ∧ k ≤ xs.length ∧ ∃ p, xs[k - 1]? = some p ∧ compactF eq xs = xs.take k ++ compactGo eq p (xs.drop k)) (fun k => xs.length - k) 1 ⟨rfl, trivial⟩ (fun _ h => h) rfl (by
        refine ⟨Nat.le_refl _, by omega, ?_⟩
        match xs, hge with
        | x :: xs, _ => exact ⟨x, rfl, rfl⟩) ?_
      rintro k g2 ⟨hk1, hkn, p, hp, hcf⟩
      refine H_seq ?_
      refine H_seq ?_
      refine R0 ?_
      refine xV (e_mv (v := .int _ _) (q0 rfl)) rfl rfl ?_
      refine xV (e_mv (v := .slice _ _ _) (q0 rfl)) rfl rfl ?_
      refine xV (e_len Try.underlying49 (q0 rfl)) rfl rfl ?_
      refine xV (e_lt (q0 rfl) (q0 rfl)) rfl rfl ?_
      refine XN ?_
      refine thenJ_normal ?_
      refine H_cond rfl (fun hlt => ?_) (fun hlt => ?_)
      · have hlt' : k < xs.length := by simpa using hlt
        obtain ⟨y, hy⟩ : ∃ y, xs[k]? = some y := ⟨_, List.getElem?_eq_getElem hlt'⟩
        refine H_skip ?_
        refine thenJ_normal ?_
        refine H_seq ?_
        refine H_block ?_
        refine H_seq ?_
        refine R1 rfl (by decide +kernel) ?_
        refine xV (e_mv (q0 rfl)) rfl rfl ?_
        refine xV (e_mv (v := .slice _ _ _) (q0 rfl)) rfl rfl ?_
        refine xV (e_mv (v := .int _ _) (q0 rfl)) rfl rfl ?_
        refine xV (e_idx _ Try.underlying49 Try.sizeOf63 (q0 rfl) (q0 rfl) (fun _ => ⟨rfl, by omega⟩)) rfl rfl ?_
        refine xV (e_lds Try.isAgg63 Try.sizeOf63 (q0 rfl) (rrs 0 rfl hy) rfl) rfl rfl ?_
        refine xV (e_mv (v := .slice _ _ _) (q0 rfl)) rfl rfl ?_
        refine xV (e_mv (v := .int _ _) (q0 rfl)) rfl rfl ?_
        refine xV (e_sub (q0 rfl) (q0 rfl) (fun _ => ⟨rfl, by omega, by omega⟩)) rfl rfl ?_
        refine xV (e_idx (k - 1) Try.underlying49 Try.sizeOf63 (q0 rfl) (q0 rfl) (fun _ => ⟨by omega, by omega⟩)) rfl rfl ?_
        refine xV (e_lds Try.isAgg63 Try.sizeOf63 (q0 rfl) (rrs 0 rfl hp) rfl) rfl rfl ?_
        refine xC (enV eg (q0 rfl) (fun _ => rfl)) (fun _ w _ => hcl y p w) rfl rfl ?_
        refine XN ?_
        refine thenJ_normal ?_
        have hdrop : xs.drop k = y :: xs.drop (k + 1) := by
          obtain ⟨q1, q2⟩ := List.getElem?_eq_some_iff.1 hy
          rw [List.drop_eq_getElem_cons q1, q2]
        refine H_cond rfl (fun heq => ?_) (fun heq => ?_)
        · have hcf2 : compactF eq xs = xs.take k ++ compactGo eq y (xs.drop (k + 1)) := by rw [hcf, hdrop]; simp only [compactGo]; rw [if_pos heq]
          refine H_seq ?_
          refine R0 ?_
          refine xV (e_mv (v := .slice _ _ _) (q0 rfl)) rfl rfl ?_
          refine xV (e_mv (v := .int _ _) (q0 rfl)) rfl rfl ?_
          refine xV (e_slLo _ Try.underlying49 Try.sizeOf63 (q0 rfl) (q0 rfl) (fun _ => ⟨rfl, by omega, by omega⟩)) rfl rfl ?_
          refine xV (e_as (v := .slice _ _ _) (q0 rfl)) rfl rfl ?_
          refine XN ?_
          refine thenJ_normal ?_
          refine H_seq ?_
          refine H_seq ?_
          refine R0 ?_
          refine xV (e_as (v := .int _ _) (q0 rfl)) rfl rfl ?_
          refine XN ?_
          refine thenJ_normal ?_
          refine H_block ?_
          refine H_loop [5, 7, 32, 33, 34, 35, 36, 37, 38, 39, 40, 41, 42, 43, 44, 45, 46, 47, 48, 49, 50, 51, 52, 53, 54, 55, 56, 57, 58] (fun s : Nat × Nat × List Lv => [(5, .int .i64 s.1), (7, .int .i64 s.2.1)]) (fun s => rowT 63 2 Lv.cells (some ⟨b, 0, none⟩) c s.2.2 :: L) (fun s => 1 ≤ s.2.1 ∧ k + s.2.1 ≤ xs.length ∧ s.2.2.length = xs.length ∧ s.2.2.drop (k + s.2.1 - 1) = xs.drop (k + s.2.1 - 1) ∧ s.1 ≤ k + s.2.1 - 1 ∧ ∃ p, xs[k + s.2.1 - 1]? = some p ∧ compactF eq xs = s.2.2.take s.1 ++ compactGo eq p (xs.drop (k + s.2.1))) (fun s => xs.length - (k + s.2.1)) (k, 1, xs) ⟨rfl, rfl, trivial⟩ (fun _ h => h) rfl ⟨Nat.le_refl _, by show k + 1 ≤ xs.length; omega, rfl, rfl, by simp, y, by simpa using hy, by simpa using hcf2⟩ ?_
          rintro s g3 ⟨h2, hkn2, hyl, hyd, hi, p2, hp2, hcf3⟩
          refine H_seq ?_
          refine H_seq ?_
          refine R0 ?_
          refine xV (e_mv (v := .int _ _) (q0 rfl)) rfl rfl ?_
          refine xV (e_mv (v := .slice _ _ _) (q0 rfl)) rfl rfl ?_
          refine xV (e_len Try.underlying49 (q0 rfl)) rfl rfl ?_
          refine xV (e_lt (q0 rfl) (q0 rfl)) rfl rfl ?_
          refine XN ?_
          refine thenJ_normal ?_
          refine H_cond rfl (fun hlt2 => ?_) (fun hlt2 => ?_)
          · have hlt2' : k + s.2.1 < xs.length := by simp at hlt2; omega
            obtain ⟨z, hz⟩ : ∃ z, xs[k + s.2.1]? = some z := ⟨_, List.getElem?_eq_getElem hlt2'⟩
            have hzy : s.2.2[k + s.2.1]? = some z := by
              have : (s.2.2.drop (k + s.2.1 - 1))[1]? = (xs.drop (k + s.2.1 - 1))[1]? := by rw [hyd]
              rw [List.getElem?_drop, List.getElem?_drop, show k + s.2.1 - 1 + 1 = k + s.2.1 by omega] at this
              rw [this]; exact hz
            have hpy : s.2.2[k + (s.2.1 - 1)]? = some p2 := by
              have : (s.2.2.drop (k + s.2.1 - 1))[0]? = (xs.drop (k + s.2.1 - 1))[0]? := by rw [hyd]
              rw [List.getElem?_drop, List.getElem?_drop, Nat.add_zero] at this
              rw [show k + (s.2.1 - 1) = k + s.2.1 - 1 by omega, this]; exact hp2
            have hdrop2 : xs.drop (k + s.2.1) = z :: xs.drop (k + s.2.1 + 1) := by
              obtain ⟨q1, q2⟩ := List.getElem?_eq_some_iff.1 hz
              rw [List.drop_eq_getElem_cons q1, q2]
            have hdd : s.2.2.drop (k + s.2.1) = xs.drop (k + s.2.1) := by
              have := congrArg (List.drop 1) hyd
              rw [List.drop_drop, List.drop_drop, show k + s.2.1 - 1 + 1 = k + s.2.1 by omega] at this
              exact this
            refine H_skip ?_
            refine thenJ_normal ?_
            refine H_seq ?_
            refine H_block ?_
            refine H_seq ?_
            refine R1 rfl (by decide +kernel) ?_
            refine xV (e_mv (q0 rfl)) rfl rfl ?_
            refine xV (e_mv (v := .slice _ _ _) (q0 rfl)) rfl rfl ?_
            refine xV (e_mv (v := .int _ _) (q0 rfl)) rfl rfl ?_
            refine xV (e_idx _ Try.underlying49 Try.sizeOf63 (q0 rfl) (q0 rfl) (fun _ => ⟨rfl, by omega⟩)) rfl rfl ?_
            refine xV (e_lds Try.isAgg63 Try.sizeOf63 (q0 rfl) (rrs2 0 rfl hzy) rfl) rfl rfl ?_
            refine xV (e_mv (v := .slice _ _ _) (q0 rfl)) rfl rfl ?_
            refine xV (e_mv (v := .int _ _) (q0 rfl)) rfl rfl ?_
            refine xV (e_sub (q0 rfl) (q0 rfl) (fun _ => ⟨rfl, by omega, by omega⟩)) rfl rfl ?_
            refine xV (e_idx (s.2.1 - 1) Try.underlying49 Try.sizeOf63 (q0 rfl) (q0 rfl) (fun _ => ⟨by omega, by omega⟩)) rfl rfl ?_
            refine xV (e_lds Try.isAgg63 Try.sizeOf63 (q0 rfl) (rrs2 0 rfl hpy) rfl) rfl rfl ?_
            refine xC (enV eg (q0 rfl) (fun _ => rfl)) (fun _ w _ => hcl z p2 w) rfl rfl ?_
            refine xV (e_not (q0 rfl)) rfl rfl ?_
            refine XN ?_
            refine thenJ_normal ?_
            refine H_cond rfl (fun heq2 => ?_) (fun heq2 => ?_)
            · obtain ⟨q, hq⟩ : ∃ q, s.2.2[s.1]? = some q := ⟨_, List.getElem?_eq_getElem (by omega)⟩
              refine H_seq ?_
              refine R0 ?_
              refine xV (e_mv (v := .slice _ _ _) (q0 rfl)) rfl rfl ?_
              refine xV (e_mv (v := .int _ _) (q0 rfl)) rfl rfl ?_
              refine xV (e_mv (v := .slice _ _ _) (q0 rfl)) rfl rfl ?_
              refine xV (e_mv (v := .int _ _) (q0 rfl)) rfl rfl ?_
              refine xV (e_idx _ Try.underlying49 Try.sizeOf63 (q0 rfl) (q0 rfl) (fun _ => ⟨rfl, by omega⟩)) rfl rfl ?_
              refine xV (e_lds Try.isAgg63 Try.sizeOf63 (q0 rfl) (rrs2 0 rfl hzy) rfl) rfl rfl ?_
              refine xV (e_idx _ Try.underlying49 Try.sizeOf63 (q0 rfl) (q0 rfl) (fun _ => ⟨rfl, by omega⟩)) rfl rfl ?_
              refine X_eff (f_storeR0 0 z rfl rfl Try.sizeOf63 rfl rfl rfl hq rfl rfl ?_)
              refine XN ?_
              refine thenJ_normal ?_
              refine R0 ?_
              refine xV (e_mv (v := .int _ _) (q0 rfl)) rfl rfl ?_
              refine xV (e_add (q0 rfl) (q0 rfl) (fun _ => ⟨rfl, by omega, by omega⟩)) rfl rfl ?_
              refine xV (e_as (v := .int _ _) (q0 rfl)) rfl rfl ?_
              refine XN ?_
              refine blockJ_normal ?_
              refine thenJ_normal ?_
              refine R0 ?_
              refine xV (e_mv (v := .int _ _) (q0 rfl)) rfl rfl ?_
              refine xV (e_add (q0 rfl) (q0 rfl) (fun _ => ⟨rfl, by omega, by omega⟩)) rfl rfl ?_
              refine xV (e_as (v := .int _ _) (q0 rfl)) rfl rfl ?_
              refine XN ?_
              exact loopJ_normal (s.1 + 1, s.2.1 + 1, s.2.2.set s.1 z) (by repeat (first | exact agree_self | exact agree_over | refine agree_upd rfl ?_ | refine agree_updL rfl ?_ | refine agree_over2 rfl ?_)) ⟨rfl, rfl, trivial⟩ (fun _ h => h) rfl ⟨by show 1 ≤ s.2.1 + 1; omega, by show k + (s.2.1 + 1) ≤ _; omega, by simpa using hyl, by
                show (s.2.2.set s.1 z).drop (k + (s.2.1 + 1) - 1) = _
                rw [show k + (s.2.1 + 1) - 1 = k + s.2.1 by omega, List.drop_set_of_lt (by omega)]
                exact hdd, by show s.1 + 1 ≤ k + (s.2.1 + 1) - 1; omega, z, by simpa using hz, by
                show _ = (s.2.2.set s.1 z).take (s.1 + 1) ++ _
                rw [hcf3, hdrop2]
                simp only [compactGo]
                rw [if_neg (by simpa using heq2), List.take_add_one, List.take_set_of_le (by omega), List.getElem?_set_self (by omega)]
                simp [Nat.add_assoc]⟩ (by show xs.length - (k + (s.2.1 + 1)) < xs.length - (k + s.2.1); omega)
            · refine H_skip ?_
              refine blockJ_normal ?_
              refine thenJ_normal ?_
              refine R0 ?_
              refine xV (e_mv (v := .int _ _) (q0 rfl)) rfl rfl ?_
              refine xV (e_add (q0 rfl) (q0 rfl) (fun _ => ⟨rfl, by omega, by omega⟩)) rfl rfl ?_
              refine xV (e_as (v := .int _ _) (q0 rfl)) rfl rfl ?_
              refine XN ?_
              exact loopJ_normal (s.1, s.2.1 + 1, s.2.2) (by repeat (first | exact agree_self | exact agree_over | refine agree_upd rfl ?_ | refine agree_updL rfl ?_ | refine agree_over2 rfl ?_)) ⟨rfl, rfl, trivial⟩ (fun _ h => h) rfl ⟨by show 1 ≤ s.2.1 + 1; omega, by show k + (s.2.1 + 1) ≤ _; omega, hyl, by
                show s.2.2.drop (k + (s.2.1 + 1) - 1) = _
                rw [show k + (s.2.1 + 1) - 1 = k + s.2.1 by omega]
                exact hdd, by show s.1 ≤ k + (s.2.1 + 1) - 1; omega, z, by simpa using hz, by
                show _ = s.2.2.take s.1 ++ _
                rw [hcf3, hdrop2]
                simp only [compactGo]
                rw [if_pos (by simpa using heq2)]
                simp [Nat.add_assoc]⟩ (by show xs.length - (k + (s.2.1 + 1)) < xs.length - (k + s.2.1); omega)
          · have hend : k + s.2.1 = xs.length := by simp at hlt2; omega
            have hcf4 : compactF eq xs = s.2.2.take s.1 := by rw [hcf3, hend, List.drop_length]; simp [compactGo]
            refine H_exit ?_
            refine thenJ_exit ?_
            refine loopJ_exit ?_
            refine blockJ_hit ?_
            refine thenJ_normal ?_
            refine H_seq ?_
            refine R0 ?_
            refine xV (e_mv (v := .slice _ _ _) (q0 rfl)) rfl rfl ?_
            refine xV (e_mv (v := .int _ _) (q0 rfl)) rfl rfl ?_
            refine xV (e_slLo _ Try.underlying49 Try.sizeOf63 (q0 rfl) (q0 rfl) (fun _ => ⟨rfl, by omega, by omega⟩)) rfl rfl ?_
            refine X_eff (f_clearR (i := s.1) (k := 2) 0 Try.underlying49 Try.zeroValue63 rfl rfl rfl rfl ⟨by omega, by omega⟩ ?_)
            refine XN ?_
            refine thenJ_normal ?_
            refine H_seq ?_
            refine R0 ?_
            refine xV (e_mv (v := .slice _ _ _) (q0 rfl)) rfl rfl ?_
            refine xV (e_mv (v := .int _ _) (q0 rfl)) rfl rfl ?_
            refine xV (e_slHi _ Try.underlying49 Try.sizeOf63 (q0 rfl) (q0 rfl) (fun _ => ⟨rfl, by omega⟩)) rfl rfl ?_
            refine xV (e_as (v := .slice _ _ _) (q0 rfl)) rfl rfl ?_
            refine XN ?_
            refine thenJ_normal ?_
            refine H_ret ?_
            refine blockJ_ret ?_
            refine thenJ_ret ?_
            refine loopJ_ret ?_
            refine blockJ_ret ?_
            refine thenJ_ret ?_
            exact ret1 (v := .slice _ _ _) rfl rfl hmk fun w' hw => ⟨(), by rw [hcf4, List.length_take, Nat.min_eq_left (by omega)], by rw [hcf4]; exact hw⟩
        · refine H_skip ?_
          refine blockJ_normal ?_
          refine thenJ_normal ?_
          refine R0 ?_
          refine xV (e_mv (v := .int _ _) (q0 rfl)) rfl rfl ?_
          refine xV (e_add (q0 rfl) (q0 rfl) (fun _ => ⟨rfl, by omega, by omega⟩)) rfl rfl ?_
          refine xV (e_as (v := .int _ _) (q0 rfl)) rfl rfl ?_
          refine XN ?_
          exact loopJ_normal (k + 1) (by repeat (first | exact agree_self | exact agree_over | refine agree_upd rfl ?_ | refine agree_updL rfl ?_ | refine agree_over2 rfl ?_)) ⟨rfl, trivial⟩ (fun _ h => h) rfl ⟨by omega, by omega, y, by simpa using hy, by
            rw [hcf, hdrop]
            simp only [compactGo]
            rw [if_neg (by simpa using heq), take_snoc _ _ _ hy]
            simp⟩ (by show xs.length - (k + 1) < xs.length - k; omega)
      · have hend : k = xs.length := by simp at hlt; omega
        have hcf4 : compactF eq xs = xs := by rw [hcf, hend, List.drop_length, List.take_length]; simp [compactGo]
        refine H_exit ?_
        refine thenJ_exit ?_
        refine loopJ_exit ?_
        refine blockJ_hit ?_
        refine thenJ_normal ?_
        refine H_seq ?_
        refine R0 ?_
        refine xV (e_mv (v := .slice _ _ _) (q0 rfl)) rfl rfl ?_
        refine xV (e_as (v := .slice _ _ _) (q0 rfl)) rfl rfl ?_
        refine XN ?_
        refine thenJ_normal ?_
        refine H_ret ?_
        exact ret1 (v := .slice _ _ _) rfl rfl hmk fun w' hw => ⟨(), by rw [hcf4], by rw [hcf4]; exact hw⟩


def sameCount (a b : Lv) : Bool := decide (a.count = b.count)
theorem load2_w (a b : Lv) (w : World) : Calls Try.prog 54 #[.agg a.cells.toArray, .agg b.cells.toArray] w fun e w' => e = .returned (.bool (sameCount a b)) ∧ Bel w w' := by
  refine H_enter Try.func54 rfl Try.ntmps54 rfl ?_
  refine H_seq ?_
  refine R0 ?_
  refine X_box (v := .agg _) rfl rfl fun b2 => ?_
  refine X_box (v := .agg _) rfl rfl fun b3 => ?_
  refine xV (e_as (v := .bool _) (q0 rfl)) rfl rfl ?_
  refine XN ?_
  refine thenJ_normal ?_
  refine H_seq ?_
  refine R0 ?_
  refine xV (e_fld Try.underlying63 rfl Try.sizeOf3 rfl (q0 rfl)) rfl rfl ?_
  refine xV (e_ld Try.isAgg3 (q0 rfl) (by first | exact bx 0 rfl rfl | exact bx 1 rfl rfl | exact bx 2 rfl rfl | exact bx 3 rfl rfl | exact bx 4 rfl rfl | exact bx 5 rfl rfl | exact bx 6 rfl rfl | exact bx 7 rfl rfl | exact bx 8 rfl rfl | exact bx 9 rfl rfl | exact rc ‹_› ‹_› rfl | exact rc0 ‹_› ‹_› rfl | exact xc ‹_› ‹_› | exact rr 0 rfl ‹_› rfl | exact rr0 0 rfl ‹_› rfl | exact rr 1 rfl ‹_› rfl | exact rr0 1 rfl ‹_› rfl | exact rr 2 rfl ‹_› rfl | exact rr0 2 rfl ‹_› rfl | exact rr 3 rfl ‹_› rfl | exact rr0 3 rfl ‹_› rfl | exact rr 4 rfl ‹_› rfl | exact rr0 4 rfl ‹_› rfl | exact rr 5 rfl ‹_› rfl | exact rr0 5 rfl ‹_› rfl | exact rr 6 rfl ‹_› rfl | exact rr0 6 rfl ‹_› rfl | exact rr 7 rfl ‹_› rfl | exact rr0 7 rfl ‹_› rfl)) rfl rfl ?_
  refine xV (e_fld Try.underlying63 rfl Try.sizeOf3 rfl (q0 rfl)) rfl rfl ?_
  refine xV (e_ld Try.isAgg3 (q0 rfl) (by first | exact bx 0 rfl rfl | exact bx 1 rfl rfl | exact bx 2 rfl rfl | exact bx 3 rfl rfl | exact bx 4 rfl rfl | exact bx 5 rfl rfl | exact bx 6 rfl rfl | exact bx 7 rfl rfl | exact bx 8 rfl rfl | exact bx 9 rfl rfl | exact rc ‹_› ‹_› rfl | exact rc0 ‹_› ‹_› rfl | exact xc ‹_› ‹_› | exact rr 0 rfl ‹_› rfl | exact rr0 0 rfl ‹_› rfl | exact rr 1 rfl ‹_› rfl | exact rr0 1 rfl ‹_› rfl | exact rr 2 rfl ‹_› rfl | exact rr0 2 rfl ‹_› rfl | exact rr 3 rfl ‹_› rfl | exact rr0 3 rfl ‹_› rfl | exact rr 4 rfl ‹_› rfl | exact rr0 4 rfl ‹_› rfl | exact rr 5 rfl ‹_› rfl | exact rr0 5 rfl ‹_› rfl | exact rr 6 rfl ‹_› rfl | exact rr0 6 rfl ‹_› rfl | exact rr 7 rfl ‹_› rfl | exact rr0 7 rfl ‹_› rfl)) rfl rfl ?_
  refine xV (e_eq (q0 rfl) (q0 rfl)) rfl rfl ?_
  refine xV (e_as (v := .bool _) (q0 rfl)) rfl rfl ?_
  refine XN ?_
  refine thenJ_normal ?_
  refine H_ret ?_
  exact ret1 (v := .bool _) rfl rfl rfl fun w' hw => ⟨rfl, hw.1⟩

def loadCI (c5 c9 : Nat) (truck : Nat) (z : List Lv) (x : Option Addr × Nat) : List E.Item := [box c5 3 [.int .i64 truck], box c9 49 [.slice x.1 z.length x.2], lvRow x.1 x.2 z]
theorem loadCb_len (truck : Nat) (z : List Lv) (s : PS) (e : Ev) (er : Int) : (loadCb truck z s e er).length ≤ z.length + 1 ∧ (0 < z.length → 0 < (loadCb truck z s e er).length) := by
  unfold loadCb
  split
  · omega
  · split
    · rename_i y hy
      have := (last_set (z := y) hy).2.2
      split
      · simp only [List.length_append, List.length_dropLast, List.length_cons, List.length_nil]; omega
      · simp
    · omega
theorem count_le (l : List Sp) (wh pl : Int) : countP l wh pl ≤ l.length := List.countP_le_length
attribute [local irreducible] countP
set_option maxRecDepth 20000 in
theorem load_cb (f : Fl) (a : FA) (n c5 c9 truck : Nat) : CbOK f a n 51 [.pointer (some ⟨c5, 0, none⟩), .pointer (some ⟨c9, 0, none⟩)] (loadCb truck) (loadCI c5 c9 truck) (fun k z => z.length ≤ k + 1 ∧ 0 < z.length) where
  enter := Try.call51
  keep := fun k z s e er h => by
    have := loadCb_len truck z s e er
    omega
  run := fun {w0 L s t z x k} e er hmk hsn hl hn1 hf hk hJ w hw => by
    unfold loadCI at hw ⊢
    obtain ⟨y, hl0⟩ : ∃ y, z.getLast? = some y := by
      cases hz : z.getLast? with
      | none => have : z = [] := by simpa using hz
                subst this; simp at hJ
      | some y => exact ⟨y, rfl⟩
    obtain ⟨hy, hset, hpos⟩ := last_set (z := { y with count := (countP t.spots 4 truck : Int) }) hl0
    obtain ⟨i, hi⟩ : ∃ k, k = z.length - 1 := ⟨_, rfl⟩
    rw [← hi] at hy hset
    have hki : (z.length : Int) - 1 = i := by omega
    obtain ⟨b, hb⟩ := rowT_at (j := 2) hw rfl hpos
    obtain ⟨x1, x2⟩ := x
    simp only at hb
    subst hb
    have hcl := count_le t.spots 4 truck
    refine H_enterM hw hmk Try.func51 rfl Try.ntmps51 rfl ?_
    refine H_seq ?_
    refine R0 ?_
    refine X_box (v := .agg _) rfl rfl fun b6 => ?_
    refine XN ?_
    refine thenJ_normal ?_
    refine H_seq ?_
    refine H_seq ?_
    refine R0 ?_
    refine xV (e_mv (v := .int _ _) (q0 rfl)) rfl rfl ?_
    refine xV (e_ne (q0 rfl) (q0 rfl)) rfl rfl ?_
    refine XN ?_
    refine thenJ_normal ?_
    refine H_cond rfl (fun h => ?_) (fun h => ?_)
    · have h0 : er ≠ 0 := by simpa using h
      refine H_ret ?_
      refine thenJ_ret ?_
      exact ret0 rfl hmk fun w' hw => ⟨(some ⟨b, 0, none⟩, x2), rfl, by unfold loadCb; rw [if_pos h0]; exact hw.tail⟩
    · have h0 : ¬ er ≠ 0 := by simpa using h
      have hcb : loadCb truck z t.plain e er = if y.at_ = e.at_ then z.dropLast ++ [{ y with count := (countP t.spots 4 truck : Int) }] else z ++ [⟨e.at_, (countP t.spots 4 truck : Int)⟩] := by
        unfold loadCb; rw [if_neg h0, hl0]; rfl
      rw [hcb]
      refine H_skip ?_
      refine thenJ_normal ?_
      refine H_seq ?_
      refine R0 ?_
      refine xV (e_mv (v := .pointer _) (q0 rfl)) rfl rfl ?_
      refine xV (e_ld Try.isAgg3 (q0 rfl) (by first | exact bx 0 rfl rfl | exact bx 1 rfl rfl | exact bx 2 rfl rfl | exact bx 3 rfl rfl | exact bx 4 rfl rfl | exact bx 5 rfl rfl | exact bx 6 rfl rfl | exact bx 7 rfl rfl | exact bx 8 rfl rfl | exact bx 9 rfl rfl | exact rc ‹_› ‹_› rfl | exact rc0 ‹_› ‹_› rfl | exact xc ‹_› ‹_› | exact rr 0 rfl ‹_› rfl | exact rr0 0 rfl ‹_› rfl | exact rr 1 rfl ‹_› rfl | exact rr0 1 rfl ‹_› rfl | exact rr 2 rfl ‹_› rfl | exact rr0 2 rfl ‹_› rfl | exact rr 3 rfl ‹_› rfl | exact rr0 3 rfl ‹_› rfl | exact rr 4 rfl ‹_› rfl | exact rr0 4 rfl ‹_› rfl | exact rr 5 rfl ‹_› rfl | exact rr0 5 rfl ‹_› rfl | exact rr 6 rfl ‹_› rfl | exact rr0 6 rfl ‹_› rfl | exact rr 7 rfl ‹_› rfl | exact rr0 7 rfl ‹_› rfl)) rfl rfl ?_
      refine xC (en Try.call52 (ha3 (q0 rfl) (q0 rfl) (q0 rfl))) (fun _ w hm => count_w 4 truck w (stAt_of (hf.mem hm) (by omega) (by omega) (Mem.rot (X := [_, _, _, _]) (S := stL f a s t) hm))) rfl rfl ?_
      refine xV (e_as (v := .int _ _) (q0 rfl)) rfl rfl ?_
      refine XN ?_
      refine thenJ_normal ?_
      refine H_seq ?_
      refine R0 ?_
      refine xV (e_ld Try.isAgg49 (q0 rfl) (by first | exact bx 0 rfl rfl | exact bx 1 rfl rfl | exact bx 2 rfl rfl | exact bx 3 rfl rfl | exact bx 4 rfl rfl | exact bx 5 rfl rfl | exact bx 6 rfl rfl | exact bx 7 rfl rfl | exact bx 8 rfl rfl | exact bx 9 rfl rfl | exact rc ‹_› ‹_› rfl | exact rc0 ‹_› ‹_› rfl | exact xc ‹_› ‹_› | exact rr 0 rfl ‹_› rfl | exact rr0 0 rfl ‹_› rfl | exact rr 1 rfl ‹_› rfl | exact rr0 1 rfl ‹_› rfl | exact rr 2 rfl ‹_› rfl | exact rr0 2 rfl ‹_› rfl | exact rr 3 rfl ‹_› rfl | exact rr0 3 rfl ‹_› rfl | exact rr 4 rfl ‹_› rfl | exact rr0 4 rfl ‹_› rfl | exact rr 5 rfl ‹_› rfl | exact rr0 5 rfl ‹_› rfl | exact rr 6 rfl ‹_› rfl | exact rr0 6 rfl ‹_› rfl | exact rr 7 rfl ‹_› rfl | exact rr0 7 rfl ‹_› rfl)) rfl rfl ?_
      refine xV (e_len Try.underlying49 (q0 rfl)) rfl rfl ?_
      refine xV (e_sub (q0 rfl) (q0 rfl) (fun _ => ⟨rfl, by omega, by omega⟩)) rfl rfl ?_
      refine xV (e_as (v := .int _ _) (q0 rfl)) rfl rfl ?_
      refine XN ?_
      refine thenJ_normal ?_
      refine H_seq ?_
      refine R1 rfl (by decide +kernel) ?_
      refine xV (e_ld Try.isAgg49 (q0 rfl) (by first | exact bx 0 rfl rfl | exact bx 1 rfl rfl | exact bx 2 rfl rfl | exact bx 3 rfl rfl | exact bx 4 rfl rfl | exact bx 5 rfl rfl | exact bx 6 rfl rfl | exact bx 7 rfl rfl | exact bx 8 rfl rfl | exact bx 9 rfl rfl | exact rc ‹_› ‹_› rfl | exact rc0 ‹_› ‹_› rfl | exact xc ‹_› ‹_› | exact rr 0 rfl ‹_› rfl | exact rr0 0 rfl ‹_› rfl | exact rr 1 rfl ‹_› rfl | exact rr0 1 rfl ‹_› rfl | exact rr 2 rfl ‹_› rfl | exact rr0 2 rfl ‹_› rfl | exact rr 3 rfl ‹_› rfl | exact rr0 3 rfl ‹_› rfl | exact rr 4 rfl ‹_› rfl | exact rr0 4 rfl ‹_› rfl | exact rr 5 rfl ‹_› rfl | exact rr0 5 rfl ‹_› rfl | exact rr 6 rfl ‹_› rfl | exact rr0 6 rfl ‹_› rfl | exact rr 7 rfl ‹_› rfl | exact rr0 7 rfl ‹_› rfl)) rfl rfl ?_
      refine xV (e_mv (v := .int _ _) (q0 rfl)) rfl rfl ?_
      refine xV (e_idx i Try.underlying49 Try.sizeOf63 (q0 rfl) (q0 rfl) (fun _ => ⟨hki, by omega⟩)) rfl rfl ?_
      refine xV (e_fld Try.underlying63 rfl Try.sizeOf3 rfl (q0 rfl)) rfl rfl ?_
      refine xV (e_ld Try.isAgg3 (q0 rfl) (by first | exact bx 0 rfl rfl | exact bx 1 rfl rfl | exact bx 2 rfl rfl | exact bx 3 rfl rfl | exact bx 4 rfl rfl | exact bx 5 rfl rfl | exact bx 6 rfl rfl | exact bx 7 rfl rfl | exact bx 8 rfl rfl | exact bx 9 rfl rfl | exact rc ‹_› ‹_› rfl | exact rc0 ‹_› ‹_› rfl | exact xc ‹_› ‹_› | exact rr 0 rfl ‹_› rfl | exact rr0 0 rfl ‹_› rfl | exact rr 1 rfl ‹_› rfl | exact rr0 1 rfl ‹_› rfl | exact rr 2 rfl ‹_› rfl | exact rr0 2 rfl ‹_› rfl | exact rr 3 rfl ‹_› rfl | exact rr0 3 rfl ‹_› rfl | exact rr 4 rfl ‹_› rfl | exact rr0 4 rfl ‹_› rfl | exact rr 5 rfl ‹_› rfl | exact rr0 5 rfl ‹_› rfl | exact rr 6 rfl ‹_› rfl | exact rr0 6 rfl ‹_› rfl | exact rr 7 rfl ‹_› rfl | exact rr0 7 rfl ‹_› rfl)) rfl rfl ?_
      refine xV (e_fld Try.underlying67 rfl Try.sizeOf3 rfl (q0 rfl)) rfl rfl ?_
      refine xV (e_ld Try.isAgg3 (q0 rfl) (by first | exact bx 0 rfl rfl | exact bx 1 rfl rfl | exact bx 2 rfl rfl | exact bx 3 rfl rfl | exact bx 4 rfl rfl | exact bx 5 rfl rfl | exact bx 6 rfl rfl | exact bx 7 rfl rfl | exact bx 8 rfl rfl | exact bx 9 rfl rfl | exact rc ‹_› ‹_› rfl | exact rc0 ‹_› ‹_› rfl | exact xc ‹_› ‹_› | exact rr 0 rfl ‹_› rfl | exact rr0 0 rfl ‹_› rfl | exact rr 1 rfl ‹_› rfl | exact rr0 1 rfl ‹_› rfl | exact rr 2 rfl ‹_› rfl | exact rr0 2 rfl ‹_› rfl | exact rr 3 rfl ‹_› rfl | exact rr0 3 rfl ‹_› rfl | exact rr 4 rfl ‹_› rfl | exact rr0 4 rfl ‹_› rfl | exact rr 5 rfl ‹_› rfl | exact rr0 5 rfl ‹_› rfl | exact rr 6 rfl ‹_› rfl | exact rr0 6 rfl ‹_› rfl | exact rr 7 rfl ‹_› rfl | exact rr0 7 rfl ‹_› rfl)) rfl rfl ?_
      refine xV (e_eq (q0 rfl) (q0 rfl)) rfl rfl ?_
      refine XN ?_
      refine thenJ_normal ?_
      refine H_cond rfl (fun h2 => ?_) (fun h2 => ?_)
      · have h2' : y.at_ = e.at_ := by simpa using h2
        rw [if_pos h2', ← hset]
        refine R0 ?_
        refine xV (e_ld Try.isAgg49 (q0 rfl) (by first | exact bx 0 rfl rfl | exact bx 1 rfl rfl | exact bx 2 rfl rfl | exact bx 3 rfl rfl | exact bx 4 rfl rfl | exact bx 5 rfl rfl | exact bx 6 rfl rfl | exact bx 7 rfl rfl | exact bx 8 rfl rfl | exact bx 9 rfl rfl | exact rc ‹_› ‹_› rfl | exact rc0 ‹_› ‹_› rfl | exact xc ‹_› ‹_› | exact rr 0 rfl ‹_› rfl | exact rr0 0 rfl ‹_› rfl | exact rr 1 rfl ‹_› rfl | exact rr0 1 rfl ‹_› rfl | exact rr 2 rfl ‹_› rfl | exact rr0 2 rfl ‹_› rfl | exact rr 3 rfl ‹_› rfl | exact rr0 3 rfl ‹_› rfl | exact rr 4 rfl ‹_› rfl | exact rr0 4 rfl ‹_› rfl | exact rr 5 rfl ‹_› rfl | exact rr0 5 rfl ‹_› rfl | exact rr 6 rfl ‹_› rfl | exact rr0 6 rfl ‹_› rfl | exact rr 7 rfl ‹_› rfl | exact rr0 7 rfl ‹_› rfl)) rfl rfl ?_
        refine xV (e_mv (v := .int _ _) (q0 rfl)) rfl rfl ?_
        refine xV (e_mv (v := .int _ _) (q0 rfl)) rfl rfl ?_
        refine xV (e_idx i Try.underlying49 Try.sizeOf63 (q0 rfl) (q0 rfl) (fun _ => ⟨hki, by omega⟩)) rfl rfl ?_
        refine xV (e_fld Try.underlying63 rfl Try.sizeOf3 rfl (q0 rfl)) rfl rfl ?_
        refine X_eff (f_storeR 3 (off := 1) { y with count := (countP t.spots 4 truck : Int) } rfl rfl Try.sizeOf3 rfl rfl rfl hy rfl rfl ?_)
        refine XN ?_
        exact end0 rfl hmk fun w' hw => ⟨(some ⟨b, 0, none⟩, x2), rfl, by simp only [List.length_set]; exact hw.tail⟩
      · have h2' : ¬ y.at_ = e.at_ := by simpa using h2
        rw [if_neg h2']
        refine R0 ?_
        refine xV (e_ld Try.isAgg49 (q0 rfl) (by first | exact bx 0 rfl rfl | exact bx 1 rfl rfl | exact bx 2 rfl rfl | exact bx 3 rfl rfl | exact bx 4 rfl rfl | exact bx 5 rfl rfl | exact bx 6 rfl rfl | exact bx 7 rfl rfl | exact bx 8 rfl rfl | exact bx 9 rfl rfl | exact rc ‹_› ‹_› rfl | exact rc0 ‹_› ‹_› rfl | exact xc ‹_› ‹_› | exact rr 0 rfl ‹_› rfl | exact rr0 0 rfl ‹_› rfl | exact rr 1 rfl ‹_› rfl | exact rr0 1 rfl ‹_› rfl | exact rr 2 rfl ‹_› rfl | exact rr0 2 rfl ‹_› rfl | exact rr 3 rfl ‹_› rfl | exact rr0 3 rfl ‹_› rfl | exact rr 4 rfl ‹_› rfl | exact rr0 4 rfl ‹_› rfl | exact rr 5 rfl ‹_› rfl | exact rr0 5 rfl ‹_› rfl | exact rr 6 rfl ‹_› rfl | exact rr0 6 rfl ‹_› rfl | exact rr 7 rfl ‹_› rfl | exact rr0 7 rfl ‹_› rfl)) rfl rfl ?_
        refine xV (e_fld Try.underlying67 rfl Try.sizeOf3 rfl (q0 rfl)) rfl rfl ?_
        refine xV (e_ld Try.isAgg3 (q0 rfl) (by first | exact bx 0 rfl rfl | exact bx 1 rfl rfl | exact bx 2 rfl rfl | exact bx 3 rfl rfl | exact bx 4 rfl rfl | exact bx 5 rfl rfl | exact bx 6 rfl rfl | exact bx 7 rfl rfl | exact bx 8 rfl rfl | exact bx 9 rfl rfl | exact rc ‹_› ‹_› rfl | exact rc0 ‹_› ‹_› rfl | exact xc ‹_› ‹_› | exact rr 0 rfl ‹_› rfl | exact rr0 0 rfl ‹_› rfl | exact rr 1 rfl ‹_› rfl | exact rr0 1 rfl ‹_› rfl | exact rr 2 rfl ‹_› rfl | exact rr0 2 rfl ‹_› rfl | exact rr 3 rfl ‹_› rfl | exact rr0 3 rfl ‹_› rfl | exact rr 4 rfl ‹_› rfl | exact rr0 4 rfl ‹_› rfl | exact rr 5 rfl ‹_› rfl | exact rr0 5 rfl ‹_› rfl | exact rr 6 rfl ‹_› rfl | exact rr0 6 rfl ‹_› rfl | exact rr 7 rfl ‹_› rfl | exact rr0 7 rfl ‹_› rfl)) rfl rfl ?_
        refine xV (e_mv (v := .int _ _) (q0 rfl)) rfl rfl ?_
        refine xV (e_build Try.underlying63 fl63 Try.zeroValue63 (pt (v := .int _ _) rfl (pt (v := .int _ _) rfl E.p0)) rfl) rfl rfl ?_
        refine X_push (k := 2) (i := Try.t63) 3 (⟨e.at_, (countP t.spots 4 truck : Int)⟩) Try.underlying49 (by kernel_rfl) rfl rfl rfl rfl Try.sizeOf63 Try.zeroValue63 rfl rfl rfl rfl rfl rfl ⟨by omega, by decide⟩ rfl rfl fun B A1 c1 => ?_
        (first | refine X_store 0 (v := .slice _ _ _) rfl rfl Try.sizeOf49 rfl rfl rfl rfl ?_ | refine X_store 1 (v := .slice _ _ _) rfl rfl Try.sizeOf49 rfl rfl rfl rfl ?_ | refine X_store 2 (v := .slice _ _ _) rfl rfl Try.sizeOf49 rfl rfl rfl rfl ?_ | refine X_store 3 (v := .slice _ _ _) rfl rfl Try.sizeOf49 rfl rfl rfl rfl ?_ | refine X_store 4 (v := .slice _ _ _) rfl rfl Try.sizeOf49 rfl rfl rfl rfl ?_ | refine X_store 5 (v := .slice _ _ _) rfl rfl Try.sizeOf49 rfl rfl rfl rfl ?_ | refine X_store 6 (v := .slice _ _ _) rfl rfl Try.sizeOf49 rfl rfl rfl rfl ?_ | refine X_store 7 (v := .slice _ _ _) rfl rfl Try.sizeOf49 rfl rfl rfl rfl ?_ | refine X_store 8 (v := .slice _ _ _) rfl rfl Try.sizeOf49 rfl rfl rfl rfl ?_)
        refine XN ?_
        exact end0 rfl hmk fun w' hw => ⟨(A1, c1), rfl, hw.tail⟩

def loadErr (f : Fl) (truck : Int) : Int := if flErr f ≠ 0 then flErr f else if (decide (truck < 0) || decide ((f.trucks.length : Int) ≤ truck)) = true then 7 else 0
def loadsOf (f : Fl) (xs : List Ev) (truck : Int) : List Lv := if loadErr f truck = 0 then compactF sameCount (runR f (loadCb truck.toNat) (setOf xs) (beginP (nbOf f), [⟨0, 0⟩])).2 else []
theorem load_bound {f : Fl} {k : Nat} : ∀ (l : List Ev) (x : PS × List Lv), (runR f (loadCb k) l x).2.length ≤ x.2.length + l.length
  | [], x => by simp [runR]
  | e :: l, x => by
    have h1 := load_bound (f := f) (k := k) l (tellR (loadCb k) x.2 e (stepR f x.1 e))
    have h2 : (tellR (loadCb k) x.2 e (stepR f x.1 e)).2.length ≤ x.2.length + 1 := by
      unfold tellR
      split
      · simp
      · exact (loadCb_len _ _ _ _ _).1
    show (runR f (loadCb k) l _).2.length ≤ _
    simp only [List.length_cons]
    omega
attribute [local irreducible] compactF
set_option maxRecDepth 20000 in
theorem loads_w (f : Fl) (a : FA) (A : Option Addr) (n c : Nat) (xs : List Ev) (truck : Int) (w : World) (hf : FlAt w f a) (hx : EvsAt w A n xs) (hn : n ≤ 10000) (hpl : PlOk xs) :
    Calls Try.prog 27 #[.agg (f.cells a).toArray, .slice A n c, .int .i64 truck] w fun r w' => ∃ x : Option Addr × Nat, r = .returned (.tuple #[.slice x.1 (loadsOf f xs truck).length x.2, .int .i64 (loadErr f truck)]) ∧ Mem w [lvRow x.1 x.2 (loadsOf f xs truck)] w' := by
  have hxl := hx.1
  have hsl := setOf_len xs
  have htl := hf.trucks.1
  refine H_enter Try.func27 rfl Try.ntmps27 rfl ?_
  refine H_seq ?_
  refine R0 ?_
  refine X_box (v := .agg _) rfl rfl fun b3 => ?_
  refine X_box (v := .int _ _) rfl rfl fun b5 => ?_
  refine xV (e_as (v := .slice _ _ _) (q0 rfl)) rfl rfl ?_
  refine xV (e_as (v := .int _ _) (q0 rfl)) rfl rfl ?_
  refine XN ?_
  refine thenJ_normal ?_
  refine H_seq ?_
  refine H_seq ?_
  refine R0 ?_
  refine xV (e_lds Try.isAgg24 Try.sizeOf24 (q0 rfl) (by first | exact bxs 0 rfl | exact bxs 1 rfl | exact bxs 2 rfl | exact bxs 3 rfl | exact bxs 4 rfl | exact bxs 5 rfl | exact bxs 6 rfl | exact bxs 7 rfl | exact bxs 8 rfl | exact bxs 9 rfl | exact rcs ‹_› ‹_› | exact rrs 0 rfl ‹_› | exact rrs 1 rfl ‹_› | exact rrs 2 rfl ‹_› | exact rrs 3 rfl ‹_› | exact rrs 4 rfl ‹_› | exact rrs 5 rfl ‹_› | exact rrs 6 rfl ‹_› | exact rrs 7 rfl ‹_›) rfl) rfl rfl ?_
  refine xC (en Try.call42 (ha1 (q0 rfl))) (fun _ w hm => fleet_w f a w (hf.mem hm)) rfl rfl ?_
  refine xV (e_as (v := .int _ _) (q0 rfl)) rfl rfl ?_
  refine XN ?_
  refine thenJ_normal ?_
  refine H_seq ?_
  refine R0 ?_
  refine xV (e_mv (v := .int _ _) (q0 rfl)) rfl rfl ?_
  refine xV (e_ne (q0 rfl) (q0 rfl)) rfl rfl ?_
  refine XN ?_
  refine thenJ_normal ?_
  refine H_cond rfl (fun h1 => ?_) (fun h1 => ?_)
  · have h1' : flErr f ≠ 0 := by simpa using h1
    have he : loadErr f truck = flErr f := by unfold loadErr; rw [if_pos h1']
    have ho : loadsOf f xs truck = [] := by unfold loadsOf; rw [he, if_neg h1']
    rw [he, ho]
    refine H_seq ?_
    refine R0 ?_
    refine xV (e_mv (v := .int _ _) (q0 rfl)) rfl rfl ?_
    refine xV (e_as (v := .slice _ _ _) (q0 rfl)) rfl rfl ?_
    refine xV (e_as (v := .int _ _) (q0 rfl)) rfl rfl ?_
    refine XN ?_
    refine thenJ_normal ?_
    refine H_ret ?_
    refine thenJ_ret ?_
    exact ret2 (v := .slice _ _ _) (x := .int _ _) rfl rfl rfl rfl fun w' hw => ⟨(none, 0), rfl, (mem_nil.2 hw.1).nilRow _ _ _ rfl⟩
  · have h1' : flErr f = 0 := by simpa using h1
    obtain ⟨hbk, -⟩ := flErr_ok h1'
    have hnb := nb_eq h1'
    refine H_skip ?_
    refine thenJ_normal ?_
    refine H_seq ?_
    refine H_seq ?_
    refine R0 ?_
    refine xV (e_ld Try.isAgg3 (q0 rfl) (by first | exact bx 0 rfl rfl | exact bx 1 rfl rfl | exact bx 2 rfl rfl | exact bx 3 rfl rfl | exact bx 4 rfl rfl | exact bx 5 rfl rfl | exact bx 6 rfl rfl | exact bx 7 rfl rfl | exact bx 8 rfl rfl | exact bx 9 rfl rfl | exact rc ‹_› ‹_› rfl | exact rc0 ‹_› ‹_› rfl | exact xc ‹_› ‹_› | exact rr 0 rfl ‹_› rfl | exact rr0 0 rfl ‹_› rfl | exact rr 1 rfl ‹_› rfl | exact rr0 1 rfl ‹_› rfl | exact rr 2 rfl ‹_› rfl | exact rr0 2 rfl ‹_› rfl | exact rr 3 rfl ‹_› rfl | exact rr0 3 rfl ‹_› rfl | exact rr 4 rfl ‹_› rfl | exact rr0 4 rfl ‹_› rfl | exact rr 5 rfl ‹_› rfl | exact rr0 5 rfl ‹_› rfl | exact rr 6 rfl ‹_› rfl | exact rr0 6 rfl ‹_› rfl | exact rr 7 rfl ‹_› rfl | exact rr0 7 rfl ‹_› rfl)) rfl rfl ?_
    refine xV (e_lt (q0 rfl) (q0 rfl)) rfl rfl ?_
    refine xV (e_mv (v := .bool _) (q0 rfl)) rfl rfl ?_
    refine xVF (e_ld Try.isAgg3 (q0 rfl) (by first | exact bx 0 rfl rfl | exact bx 1 rfl rfl | exact bx 2 rfl rfl | exact bx 3 rfl rfl | exact bx 4 rfl rfl | exact bx 5 rfl rfl | exact bx 6 rfl rfl | exact bx 7 rfl rfl | exact bx 8 rfl rfl | exact bx 9 rfl rfl | exact rc ‹_› ‹_› rfl | exact rc0 ‹_› ‹_› rfl | exact xc ‹_› ‹_› | exact rr 0 rfl ‹_› rfl | exact rr0 0 rfl ‹_› rfl | exact rr 1 rfl ‹_› rfl | exact rr0 1 rfl ‹_› rfl | exact rr 2 rfl ‹_› rfl | exact rr0 2 rfl ‹_› rfl | exact rr 3 rfl ‹_› rfl | exact rr0 3 rfl ‹_› rfl | exact rr 4 rfl ‹_› rfl | exact rr0 4 rfl ‹_› rfl | exact rr 5 rfl ‹_› rfl | exact rr0 5 rfl ‹_› rfl | exact rr 6 rfl ‹_› rfl | exact rr0 6 rfl ‹_› rfl | exact rr 7 rfl ‹_› rfl | exact rr0 7 rfl ‹_› rfl)) rfl rfl rfl rfl ?_
    refine xVF (e_fld Try.underlying24 rfl Try.sizeOf22 rfl (q0 rfl)) rfl rfl rfl rfl ?_
    refine xVF (e_ld Try.isAgg22 (q1 rfl) (by first | exact bx 0 rfl rfl | exact bx 1 rfl rfl | exact bx 2 rfl rfl | exact bx 3 rfl rfl | exact bx 4 rfl rfl | exact bx 5 rfl rfl | exact bx 6 rfl rfl | exact bx 7 rfl rfl | exact bx 8 rfl rfl | exact bx 9 rfl rfl | exact rc ‹_› ‹_› rfl | exact rc0 ‹_› ‹_› rfl | exact xc ‹_› ‹_› | exact rr 0 rfl ‹_› rfl | exact rr0 0 rfl ‹_› rfl | exact rr 1 rfl ‹_› rfl | exact rr0 1 rfl ‹_› rfl | exact rr 2 rfl ‹_› rfl | exact rr0 2 rfl ‹_› rfl | exact rr 3 rfl ‹_› rfl | exact rr0 3 rfl ‹_› rfl | exact rr 4 rfl ‹_› rfl | exact rr0 4 rfl ‹_› rfl | exact rr 5 rfl ‹_› rfl | exact rr0 5 rfl ‹_› rfl | exact rr 6 rfl ‹_› rfl | exact rr0 6 rfl ‹_› rfl | exact rr 7 rfl ‹_› rfl | exact rr0 7 rfl ‹_› rfl)) rfl rfl rfl rfl ?_
    refine xVF (e_len Try.underlying22 (q1 rfl)) rfl rfl rfl rfl ?_
    refine xVF (e_ge (q1 rfl) (q1 rfl)) rfl rfl rfl rfl ?_
    refine xV (e_or (q0 rfl) rfl (fun h => by first | rfl | (rw [h]; rfl))) rfl rfl ?_
    refine XN ?_
    refine thenJ_normal ?_
    refine H_cond rfl (fun h2 => ?_) (fun h2 => ?_)
    · have h2b : (decide (truck < 0) || decide ((a.tn : Int) ≤ truck)) = true := h2
      have he : loadErr f truck = 7 := by unfold loadErr; rw [if_neg (by simp [h1']), htl, if_pos h2b]
      have ho : loadsOf f xs truck = [] := by unfold loadsOf; rw [he, if_neg (by decide)]
      rw [he, ho]
      refine H_seq ?_
      refine R0 ?_
      refine xV (e_as (v := .slice _ _ _) (q0 rfl)) rfl rfl ?_
      refine xV (e_as (v := .int _ _) (q0 rfl)) rfl rfl ?_
      refine XN ?_
      refine thenJ_normal ?_
      refine H_ret ?_
      refine thenJ_ret ?_
      exact ret2 (v := .slice _ _ _) (x := .int _ _) rfl rfl rfl rfl fun w' hw => ⟨(none, 0), rfl, (mem_nil.2 hw.1).nilRow _ _ _ rfl⟩
    · have h2b : (decide (truck < 0) || decide ((a.tn : Int) ≤ truck)) = false := h2
      have he : loadErr f truck = 0 := by unfold loadErr; rw [if_neg (by simp [h1']), htl, if_neg (by rw [h2b]; decide)]
      have hb0 : 0 ≤ truck := by simp at h2b; omega
      obtain ⟨k, hk⟩ : ∃ k : Nat, truck = k := ⟨truck.toNat, by omega⟩
      subst hk
      have ho : loadsOf f xs k = compactF sameCount (runR f (loadCb k) (setOf xs) (beginP (nbOf f), [⟨0, 0⟩])).2 := by unfold loadsOf; rw [if_pos he, Int.toNat_natCast]
      have hbd := load_bound (f := f) (k := k) (setOf xs) (beginP (nbOf f), [⟨0, 0⟩])
      simp only [List.length_cons, List.length_nil] at hbd
      rw [he, ho]
      refine H_skip ?_
      refine thenJ_normal ?_
      refine H_seq ?_
      refine R0 ?_
      refine xV (e_build Try.underlying63 fl63 Try.zeroValue63 E.p0 rfl) rfl rfl ?_
      refine X_slit [(.int .i64 0), (.int .i64 0)] Try.underlying49 Try.sizeOf63 Try.zeroValue63 rfl (by kernel_rfl) (pt (v := .agg _) rfl E.p0) rfl rfl fun b27 => ?_
      refine X_alloc Try.zeroValue49 rfl fun b9 => ?_
      (first | refine X_store 0 (v := .slice _ _ _) rfl rfl Try.sizeOf49 rfl rfl rfl rfl ?_ | refine X_store 1 (v := .slice _ _ _) rfl rfl Try.sizeOf49 rfl rfl rfl rfl ?_ | refine X_store 2 (v := .slice _ _ _) rfl rfl Try.sizeOf49 rfl rfl rfl rfl ?_ | refine X_store 3 (v := .slice _ _ _) rfl rfl Try.sizeOf49 rfl rfl rfl rfl ?_ | refine X_store 4 (v := .slice _ _ _) rfl rfl Try.sizeOf49 rfl rfl rfl rfl ?_ | refine X_store 5 (v := .slice _ _ _) rfl rfl Try.sizeOf49 rfl rfl rfl rfl ?_ | refine X_store 6 (v := .slice _ _ _) rfl rfl Try.sizeOf49 rfl rfl rfl rfl ?_ | refine X_store 7 (v := .slice _ _ _) rfl rfl Try.sizeOf49 rfl rfl rfl rfl ?_ | refine X_store 8 (v := .slice _ _ _) rfl rfl Try.sizeOf49 rfl rfl rfl rfl ?_)
      refine XN ?_
      refine thenJ_normal ?_
      refine H_seq ?_
      refine R0 ?_
      refine xV (e_lds Try.isAgg24 Try.sizeOf24 (q0 rfl) (by first | exact bxs 0 rfl | exact bxs 1 rfl | exact bxs 2 rfl | exact bxs 3 rfl | exact bxs 4 rfl | exact bxs 5 rfl | exact bxs 6 rfl | exact bxs 7 rfl | exact bxs 8 rfl | exact bxs 9 rfl | exact rcs ‹_› ‹_› | exact rrs 0 rfl ‹_› | exact rrs 1 rfl ‹_› | exact rrs 2 rfl ‹_› | exact rrs 3 rfl ‹_› | exact rrs 4 rfl ‹_› | exact rrs 5 rfl ‹_› | exact rrs 6 rfl ‹_› | exact rrs 7 rfl ‹_›) rfl) rfl rfl ?_
      refine xV (e_mv (v := .slice _ _ _) (q0 rfl)) rfl rfl ?_
      refine xV e_fn rfl rfl ?_
      refine X_eff (f_callM (en Try.call37 (ha3 (q0 rfl) (q0 rfl) (q0 rfl))) (fun w hw => run_w f a A n c (nbOf f) xs (some (51, [.pointer (some ⟨b5, 0, none⟩), .pointer (some ⟨b9, 0, none⟩)])) (loadCb k) (loadCI b5 b9 k) (fun k z => z.length ≤ k + 1 ∧ 0 < z.length) (load_cb f a (nbOf f) b5 b9 k) (fun _ _ h => ⟨Nat.le_succ_of_le h.1, h.2⟩) (z0 := [⟨0, 0⟩]) (x0 := (some ⟨b27, 0, none⟩, 1)) ((Mem.boxRow (enc := Lv.cells) (xs := [⟨0, 0⟩]) (fun _ => rfl) hw (j := 1) rfl (by decide)).pick [2, 0, 1, 3] (by decide)) rfl (fun _ _ => rfl) ⟨Nat.le_refl _, by decide⟩ hf hx hn h1' hnb hpl) rfl (fun _ => rfl) fun y => ?_)
      obtain ⟨⟨s, t, x⟩, hsn, htp⟩ := y
      generalize (runR f (loadCb k) (setOf xs) (beginP (nbOf f), [⟨0, 0⟩])).2 = z at *
      refine xV (e_mv (q0 rfl)) rfl rfl ?_
      refine xV (e_ext (q0 rfl) rfl) rfl rfl ?_
      refine xV (e_ext (q0 rfl) rfl) rfl rfl ?_
      refine xV (e_as (v := .pointer _) (q0 rfl)) rfl rfl ?_
      refine xV (e_as (v := .int _ _) (q0 rfl)) rfl rfl ?_
      refine XN ?_
      refine thenJ_normal ?_
      refine H_seq ?_
      refine R0 ?_
      refine xV (e_ld Try.isAgg49 (q0 rfl) (by first | exact bx 0 rfl rfl | exact bx 1 rfl rfl | exact bx 2 rfl rfl | exact bx 3 rfl rfl | exact bx 4 rfl rfl | exact bx 5 rfl rfl | exact bx 6 rfl rfl | exact bx 7 rfl rfl | exact bx 8 rfl rfl | exact bx 9 rfl rfl | exact rc ‹_› ‹_› rfl | exact rc0 ‹_› ‹_› rfl | exact xc ‹_› ‹_› | exact rr 0 rfl ‹_› rfl | exact rr0 0 rfl ‹_› rfl | exact rr 1 rfl ‹_› rfl | exact rr0 1 rfl ‹_› rfl | exact rr 2 rfl ‹_› rfl | exact rr0 2 rfl ‹_› rfl | exact rr 3 rfl ‹_› rfl | exact rr0 3 rfl ‹_› rfl | exact rr 4 rfl ‹_› rfl | exact rr0 4 rfl ‹_› rfl | exact rr 5 rfl ‹_› rfl | exact rr0 5 rfl ‹_› rfl | exact rr 6 rfl ‹_› rfl | exact rr0 6 rfl ‹_› rfl | exact rr 7 rfl ‹_› rfl | exact rr0 7 rfl ‹_› rfl)) rfl rfl ?_
      refine X_eff (f_callM (en Try.call53 (ha2 (q0 rfl) (q0 rfl))) (fun w hw => (compactLv_w sameCount 54 Try.call54 load2_w (xs := z) (hw.pick [6, 0, 1, 2, 3, 4, 5, 7] (by decide)) rfl (by omega))) rfl (fun _ => rfl) fun u => ?_)
      refine xV (e_mv (v := .int _ _) (q0 rfl)) rfl rfl ?_
      refine xV (e_as (v := .slice _ _ _) (q0 rfl)) rfl rfl ?_
      refine xV (e_as (v := .int _ _) (q0 rfl)) rfl rfl ?_
      refine XN ?_
      refine thenJ_normal ?_
      refine H_ret ?_
      exact ret2 (v := .slice _ _ _) (x := .int _ _) rfl rfl rfl rfl fun w' hw => ⟨x, rfl, hw.pick [0] (by decide)⟩

end Go.Proofs.Cus
