/-
  The walks: compaction; the set.
-/
import Derived.Test.YtnikolfakmgbbaaCe
namespace Go.Proofs.Cus
open Go Go.RowKit Go.Proofs.E

set_option maxHeartbeats 2000000 in
theorem compactEv_w (eq : Ev → Ev → Bool) (g : Nat) (eg : ∀ args w, (callFunc g args).run Try.prog w = .ok (.enter g args) w)
    (hcl : ∀ (x y : Ev) (w : World), Calls Try.prog g #[.agg (Ev.cells x).toArray, .agg (Ev.cells y).toArray] w fun e w' => e = .returned (.bool (eq x y)) ∧ Bel w w')
    {w0 w : World} {L : List E.Item} {c : Nat} {A : Option Addr} {xs : List Ev} (hw : Mem w0 (rowT 67 9 Ev.cells A c xs :: L) w) (hmk : marks L = []) (hn : xs.length ≤ 1000000) :
    Calls Try.prog 62 #[.slice A xs.length c, .func (.func g) #[] #[]] w fun e w' => ∃ _ : Unit, e = .returned (.slice A (compactF eq xs).length c) ∧ Mem w0 (rowT 67 9 Ev.cells A c (compactF eq xs) :: L) w' := by
  have hcap := rowT_cap (j := 0) hw rfl
  rcases Nat.lt_or_ge xs.length 2 with hlt | hge
  · have hcf : compactF eq xs = xs := by
      match xs, hlt with
      | [], _ => rfl
      | [x], _ => rfl
    rw [hcf]
    refine H_enterM hw hmk Try.func62 rfl Try.ntmps62 rfl ?_
    refine H_seq ?_
    refine R0 ?_
    refine xV (e_as (v := .slice _ _ _) (q0 rfl)) rfl rfl ?_
    refine XN ?_
    refine thenJ_normal ?_
    refine H_seq ?_
    refine H_seq ?_
    refine R0 ?_
    refine xV (e_mv (v := .slice _ _ _) (q0 rfl)) rfl rfl ?_
    refine xV (e_len Try.underlying25 (q0 rfl)) rfl rfl ?_
    refine xV (e_lt (q0 rfl) (q0 rfl)) rfl rfl ?_
    refine XN ?_
    refine thenJ_normal ?_
    refine H_cond rfl (fun h1 => ?_) (fun h1 => ?_)
    · refine H_seq ?_
      refine R0 ?_
      refine xV (e_mv (v := .slice _ _ _) (q0 rfl)) rfl rfl ?_
      refine xV (e_as (v := .slice _ _ _) (q0 rfl)) rfl rfl ?_
      refine XN ?_
      refine thenJ_normal ?_
      refine H_ret ?_
      refine thenJ_ret ?_
      exact ret1 (v := .slice _ _ _) rfl rfl hmk fun w' hw => ⟨(), rfl, hw⟩
    · exact absurd h1 (by simp; omega)
  · obtain ⟨b, rfl⟩ := rowT_at (j := 0) hw rfl (by omega)
    refine H_enterM hw hmk Try.func62 rfl Try.ntmps62 rfl ?_
    refine H_seq ?_
    refine R0 ?_
    refine xV (e_as (v := .slice _ _ _) (q0 rfl)) rfl rfl ?_
    refine XN ?_
    refine thenJ_normal ?_
    refine H_seq ?_
    refine H_seq ?_
    refine R0 ?_
    refine xV (e_mv (v := .slice _ _ _) (q0 rfl)) rfl rfl ?_
    refine xV (e_len Try.underlying25 (q0 rfl)) rfl rfl ?_
    refine xV (e_lt (q0 rfl) (q0 rfl)) rfl rfl ?_
    refine XN ?_
    refine thenJ_normal ?_
    refine H_cond rfl (fun h1 => ?_) (fun h1 => ?_)
    · exact absurd h1 (by simp; omega)
    · refine H_skip ?_
      refine thenJ_normal ?_
      refine H_seq ?_
      refine H_seq ?_
      refine R0 ?_
      refine xV (e_as (v := .int _ _) (q0 rfl)) rfl rfl ?_
      refine XN ?_
      refine thenJ_normal ?_
      refine H_block ?_
      refine H_loop [4, 5, 6, 7, 12, 13, 14, 15, 16, 17, 18, 19, 20, 21, 22, 23, 24, 25, 26, 27, 28, 29, 30, 31, 32, 33, 34, 35, 36, 37, 38, 39, 40, 41, 42, 43, 44, 45, 46, 47, 48, 49, 50, 51, 52, 53, 54, 55, 56, 57, 58, 59, 60, 61, 62, 63, 64] (fun k : Nat => [(5, .int .i64 k)]) (fun _ => _) (fun k => 1 ≤ k ∧ k ≤ xs.length ∧ ∃ p, xs[k - 1]? = some p ∧ compactF eq xs = xs.take k ++ compactGo eq p (xs.drop k)) (fun k => xs.length - k) 1 ⟨rfl, trivial⟩ (fun _ h => h) rfl (by
        refine ⟨Nat.le_refl _, by omega, ?_⟩
        match xs, hge with
        | x :: xs, _ => exact ⟨x, rfl, rfl⟩) ?_
      rintro k g2 ⟨hk1, hkn, p, hp, hcf⟩
      refine H_seq ?_
      refine H_seq ?_
      refine R0 ?_
      refine xV (e_mv (v := .int _ _) (q0 rfl)) rfl rfl ?_
      refine xV (e_mv (v := .slice _ _ _) (q0 rfl)) rfl rfl ?_
      refine xV (e_len Try.underlying25 (q0 rfl)) rfl rfl ?_
      refine xV (e_lt (q0 rfl) (q0 rfl)) rfl rfl ?_
      refine XN ?_
      refine thenJ_normal ?_
      refine H_cond rfl (fun hlt => ?_) (fun hlt => ?_)
      · have hlt' : k < xs.length := by simpa using hlt
        obtain ⟨y, hy⟩ : ∃ y, xs[k]? = some y := ⟨_, List.getElem?_eq_getElem hlt'⟩
        refine H_skip ?_
        refine thenJ_normal ?_
        refine H_seq ?_
        refine H_block ?_
        refine H_seq ?_
        refine R1 rfl (by decide +kernel) ?_
        refine xV (e_mv (q0 rfl)) rfl rfl ?_
        refine xV (e_mv (v := .slice _ _ _) (q0 rfl)) rfl rfl ?_
        refine xV (e_mv (v := .int _ _) (q0 rfl)) rfl rfl ?_
        refine xV (e_idx _ Try.underlying25 Try.sizeOf67 (q0 rfl) (q0 rfl) (fun _ => ⟨rfl, by omega⟩)) rfl rfl ?_
        refine xV (e_lds Try.isAgg67 Try.sizeOf67 (q0 rfl) (rrs 0 rfl hy) rfl) rfl rfl ?_
        refine xV (e_mv (v := .slice _ _ _) (q0 rfl)) rfl rfl ?_
        refine xV (e_mv (v := .int _ _) (q0 rfl)) rfl rfl ?_
        refine xV (e_sub (q0 rfl) (q0 rfl) (fun _ => ⟨rfl, by omega, by omega⟩)) rfl rfl ?_
        refine xV (e_idx (k - 1) Try.underlying25 Try.sizeOf67 (q0 rfl) (q0 rfl) (fun _ => ⟨by omega, by omega⟩)) rfl rfl ?_
        refine xV (e_lds Try.isAgg67 Try.sizeOf67 (q0 rfl) (rrs 0 rfl hp) rfl) rfl rfl ?_
        refine xC (enV eg (q0 rfl) (fun _ => rfl)) (fun _ w _ => hcl y p w) rfl rfl ?_
        refine XN ?_
        refine thenJ_normal ?_
        have hdrop : xs.drop k = y :: xs.drop (k + 1) := by
          obtain ⟨q1, q2⟩ := List.getElem?_eq_some_iff.1 hy
          rw [List.drop_eq_getElem_cons q1, q2]
        refine H_cond rfl (fun heq => ?_) (fun heq => ?_)
        · have hcf2 : compactF eq xs = xs.take k ++ compactGo eq y (xs.drop (k + 1)) := by rw [hcf, hdrop]; simp only [compactGo]; rw [if_pos heq]
          refine H_seq ?_
          refine R0 ?_
          refine xV (e_mv (v := .slice _ _ _) (q0 rfl)) rfl rfl ?_
          refine xV (e_mv (v := .int _ _) (q0 rfl)) rfl rfl ?_
          refine xV (e_slLo _ Try.underlying25 Try.sizeOf67 (q0 rfl) (q0 rfl) (fun _ => ⟨rfl, by omega, by omega⟩)) rfl rfl ?_
          refine xV (e_as (v := .slice _ _ _) (q0 rfl)) rfl rfl ?_
          refine XN ?_
          refine thenJ_normal ?_
          refine H_seq ?_
          refine H_seq ?_
          refine R0 ?_
          refine xV (e_as (v := .int _ _) (q0 rfl)) rfl rfl ?_
          refine XN ?_
          refine thenJ_normal ?_
          refine H_block ?_
          refine H_loop [5, 7, 32, 33, 34, 35, 36, 37, 38, 39, 40, 41, 42, 43, 44, 45, 46, 47, 48, 49, 50, 51, 52, 53, 54, 55, 56, 57, 58] (fun s : Nat × Nat × List Ev => [(5, .int .i64 s.1), (7, .int .i64 s.2.1)]) (fun s => rowT 67 9 Ev.cells (some ⟨b, 0, none⟩) c s.2.2 :: L) (fun s => 1 ≤ s.2.1 ∧ k + s.2.1 ≤ xs.length ∧ s.2.2.length = xs.length ∧ s.2.2.drop (k + s.2.1 - 1) = xs.drop (k + s.2.1 - 1) ∧ s.1 ≤ k + s.2.1 - 1 ∧ ∃ p, xs[k + s.2.1 - 1]? = some p ∧ compactF eq xs = s.2.2.take s.1 ++ compactGo eq p (xs.drop (k + s.2.1))) (fun s => xs.length - (k + s.2.1)) (k, 1, xs) ⟨rfl, rfl, trivial⟩ (fun _ h => h) rfl ⟨Nat.le_refl _, by show k + 1 ≤ xs.length; omega, rfl, rfl, by simp, y, by simpa using hy, by simpa using hcf2⟩ ?_
          rintro s g3 ⟨h2, hkn2, hyl, hyd, hi, p2, hp2, hcf3⟩
          refine H_seq ?_
          refine H_seq ?_
          refine R0 ?_
          refine xV (e_mv (v := .int _ _) (q0 rfl)) rfl rfl ?_
          refine xV (e_mv (v := .slice _ _ _) (q0 rfl)) rfl rfl ?_
          refine xV (e_len Try.underlying25 (q0 rfl)) rfl rfl ?_
          refine xV (e_lt (q0 rfl) (q0 rfl)) rfl rfl ?_
          refine XN ?_
          refine thenJ_normal ?_
          refine H_cond rfl (fun hlt2 => ?_) (fun hlt2 => ?_)
          · have hlt2' : k + s.2.1 < xs.length := by simp at hlt2; omega
            obtain ⟨z, hz⟩ : ∃ z, xs[k + s.2.1]? = some z := ⟨_, List.getElem?_eq_getElem hlt2'⟩
            have hzy : s.2.2[k + s.2.1]? = some z := by
              have : (s.2.2.drop (k + s.2.1 - 1))[1]? = (xs.drop (k + s.2.1 - 1))[1]? := by rw [hyd]
              rw [List.getElem?_drop, List.getElem?_drop, show k + s.2.1 - 1 + 1 = k + s.2.1 by omega] at this
              rw [this]; exact hz
            have hpy : s.2.2[k + (s.2.1 - 1)]? = some p2 := by
              have : (s.2.2.drop (k + s.2.1 - 1))[0]? = (xs.drop (k + s.2.1 - 1))[0]? := by rw [hyd]
              rw [List.getElem?_drop, List.getElem?_drop, Nat.add_zero] at this
              rw [show k + (s.2.1 - 1) = k + s.2.1 - 1 by omega, this]; exact hp2
            have hdrop2 : xs.drop (k + s.2.1) = z :: xs.drop (k + s.2.1 + 1) := by
              obtain ⟨q1, q2⟩ := List.getElem?_eq_some_iff.1 hz
              rw [List.drop_eq_getElem_cons q1, q2]
            have hdd : s.2.2.drop (k + s.2.1) = xs.drop (k + s.2.1) := by
              have := congrArg (List.drop 1) hyd
              rw [List.drop_drop, List.drop_drop, show k + s.2.1 - 1 + 1 = k + s.2.1 by omega] at this
              exact this
            refine H_skip ?_
            refine thenJ_normal ?_
            refine H_seq ?_
            refine H_block ?_
            refine H_seq ?_
            refine R1 rfl (by decide +kernel) ?_
            refine xV (e_mv (q0 rfl)) rfl rfl ?_
            refine xV (e_mv (v := .slice _ _ _) (q0 rfl)) rfl rfl ?_
            refine xV (e_mv (v := .int _ _) (q0 rfl)) rfl rfl ?_
            refine xV (e_idx _ Try.underlying25 Try.sizeOf67 (q0 rfl) (q0 rfl) (fun _ => ⟨rfl, by omega⟩)) rfl rfl ?_
            refine xV (e_lds Try.isAgg67 Try.sizeOf67 (q0 rfl) (rrs2 0 rfl hzy) rfl) rfl rfl ?_
            refine xV (e_mv (v := .slice _ _ _) (q0 rfl)) rfl rfl ?_
            refine xV (e_mv (v := .int _ _) (q0 rfl)) rfl rfl ?_
            refine xV (e_sub (q0 rfl) (q0 rfl) (fun _ => ⟨rfl, by omega, by omega⟩)) rfl rfl ?_
            refine xV (e_idx (s.2.1 - 1) Try.underlying25 Try.sizeOf67 (q0 rfl) (q0 rfl) (fun _ => ⟨by omega, by omega⟩)) rfl rfl ?_
            refine xV (e_lds Try.isAgg67 Try.sizeOf67 (q0 rfl) (rrs2 0 rfl hpy) rfl) rfl rfl ?_
            refine xC (enV eg (q0 rfl) (fun _ => rfl)) (fun _ w _ => hcl z p2 w) rfl rfl ?_
            refine xV (e_not (q0 rfl)) rfl rfl ?_
            refine XN ?_
            refine thenJ_normal ?_
            refine H_cond rfl (fun heq2 => ?_) (fun heq2 => ?_)
            · obtain ⟨q, hq⟩ : ∃ q, s.2.2[s.1]? = some q := ⟨_, List.getElem?_eq_getElem (by omega)⟩
              refine H_seq ?_
              refine R0 ?_
              refine xV (e_mv (v := .slice _ _ _) (q0 rfl)) rfl rfl ?_
              refine xV (e_mv (v := .int _ _) (q0 rfl)) rfl rfl ?_
              refine xV (e_mv (v := .slice _ _ _) (q0 rfl)) rfl rfl ?_
              refine xV (e_mv (v := .int _ _) (q0 rfl)) rfl rfl ?_
              refine xV (e_idx _ Try.underlying25 Try.sizeOf67 (q0 rfl) (q0 rfl) (fun _ => ⟨rfl, by omega⟩)) rfl rfl ?_
              refine xV (e_lds Try.isAgg67 Try.sizeOf67 (q0 rfl) (rrs2 0 rfl hzy) rfl) rfl rfl ?_
              refine xV (e_idx _ Try.underlying25 Try.sizeOf67 (q0 rfl) (q0 rfl) (fun _ => ⟨rfl, by omega⟩)) rfl rfl ?_
              refine X_eff (f_storeR0 0 z rfl rfl Try.sizeOf67 rfl rfl rfl hq rfl rfl ?_)
              refine XN ?_
              refine thenJ_normal ?_
              refine R0 ?_
              refine xV (e_mv (v := .int _ _) (q0 rfl)) rfl rfl ?_
              refine xV (e_add (q0 rfl) (q0 rfl) (fun _ => ⟨rfl, by omega, by omega⟩)) rfl rfl ?_
              refine xV (e_as (v := .int _ _) (q0 rfl)) rfl rfl ?_
              refine XN ?_
              refine blockJ_normal ?_
              refine thenJ_normal ?_
              refine R0 ?_
              refine xV (e_mv (v := .int _ _) (q0 rfl)) rfl rfl ?_
              refine xV (e_add (q0 rfl) (q0 rfl) (fun _ => ⟨rfl, by omega, by omega⟩)) rfl rfl ?_
              refine xV (e_as (v := .int _ _) (q0 rfl)) rfl rfl ?_
              refine XN ?_
              exact loopJ_normal (s.1 + 1, s.2.1 + 1, s.2.2.set s.1 z) (by repeat (first | exact agree_self | exact agree_over | refine agree_upd rfl ?_ | refine agree_updL rfl ?_ | refine agree_over2 rfl ?_)) ⟨rfl, rfl, trivial⟩ (fun _ h => h) rfl ⟨by show 1 ≤ s.2.1 + 1; omega, by show k + (s.2.1 + 1) ≤ _; omega, by simpa using hyl, by
                show (s.2.2.set s.1 z).drop (k + (s.2.1 + 1) - 1) = _
                rw [show k + (s.2.1 + 1) - 1 = k + s.2.1 by omega, List.drop_set_of_lt (by omega)]
                exact hdd, by show s.1 + 1 ≤ k + (s.2.1 + 1) - 1; omega, z, by simpa using hz, by
                show _ = (s.2.2.set s.1 z).take (s.1 + 1) ++ _
                rw [hcf3, hdrop2]
                simp only [compactGo]
                rw [if_neg (by simpa using heq2), List.take_add_one, List.take_set_of_le (by omega), List.getElem?_set_self (by omega)]
                simp [Nat.add_assoc]⟩ (by show xs.length - (k + (s.2.1 + 1)) < xs.length - (k + s.2.1); omega)
            · refine H_skip ?_
              refine blockJ_normal ?_
              refine thenJ_normal ?_
              refine R0 ?_
              refine xV (e_mv (v := .int _ _) (q0 rfl)) rfl rfl ?_
              refine xV (e_add (q0 rfl) (q0 rfl) (fun _ => ⟨rfl, by omega, by omega⟩)) rfl rfl ?_
              refine xV (e_as (v := .int _ _) (q0 rfl)) rfl rfl ?_
              refine XN ?_
              exact loopJ_normal (s.1, s.2.1 + 1, s.2.2) (by repeat (first | exact agree_self | exact agree_over | refine agree_upd rfl ?_ | refine agree_updL rfl ?_ | refine agree_over2 rfl ?_)) ⟨rfl, rfl, trivial⟩ (fun _ h => h) rfl ⟨by show 1 ≤ s.2.1 + 1; omega, by show k + (s.2.1 + 1) ≤ _; omega, hyl, by
                show s.2.2.drop (k + (s.2.1 + 1) - 1) = _
                rw [show k + (s.2.1 + 1) - 1 = k + s.2.1 by omega]
                exact hdd, by show s.1 ≤ k + (s.2.1 + 1) - 1; omega, z, by simpa using hz, by
                show _ = s.2.2.take s.1 ++ _
                rw [hcf3, hdrop2]
                simp only [compactGo]
                rw [if_pos (by simpa using heq2)]
                simp [Nat.add_assoc]⟩ (by show xs.length - (k + (s.2.1 + 1)) < xs.length - (k + s.2.1); omega)
          · have hend : k + s.2.1 = xs.length := by simp at hlt2; omega
            have hcf4 : compactF eq xs = s.2.2.take s.1 := by rw [hcf3, hend, List.drop_length]; simp [compactGo]
            refine H_exit ?_
            refine thenJ_exit ?_
            refine loopJ_exit ?_
            refine blockJ_hit ?_
            refine thenJ_normal ?_
            refine H_seq ?_
            refine R0 ?_
            refine xV (e_mv (v := .slice _ _ _) (q0 rfl)) rfl rfl ?_
            refine xV (e_mv (v := .int _ _) (q0 rfl)) rfl rfl ?_
            refine xV (e_slLo _ Try.underlying25 Try.sizeOf67 (q0 rfl) (q0 rfl) (fun _ => ⟨rfl, by omega, by omega⟩)) rfl rfl ?_
            refine X_eff (f_clearR (i := s.1) (k := 9) 0 Try.underlying25 Try.zeroValue67 rfl rfl rfl rfl ⟨by omega, by omega⟩ ?_)
            refine XN ?_
            refine thenJ_normal ?_
            refine H_seq ?_
            refine R0 ?_
            refine xV (e_mv (v := .slice _ _ _) (q0 rfl)) rfl rfl ?_
            refine xV (e_mv (v := .int _ _) (q0 rfl)) rfl rfl ?_
            refine xV (e_slHi _ Try.underlying25 Try.sizeOf67 (q0 rfl) (q0 rfl) (fun _ => ⟨rfl, by omega⟩)) rfl rfl ?_
            refine xV (e_as (v := .slice _ _ _) (q0 rfl)) rfl rfl ?_
            refine XN ?_
            refine thenJ_normal ?_
            refine H_ret ?_
            refine blockJ_ret ?_
            refine thenJ_ret ?_
            refine loopJ_ret ?_
            refine blockJ_ret ?_
            refine thenJ_ret ?_
            exact ret1 (v := .slice _ _ _) rfl rfl hmk fun w' hw => ⟨(), by rw [hcf4, List.length_take, Nat.min_eq_left (by omega)], by rw [hcf4]; exact hw⟩
        · refine H_skip ?_
          refine blockJ_normal ?_
          refine thenJ_normal ?_
          refine R0 ?_
          refine xV (e_mv (v := .int _ _) (q0 rfl)) rfl rfl ?_
          refine xV (e_add (q0 rfl) (q0 rfl) (fun _ => ⟨rfl, by omega, by omega⟩)) rfl rfl ?_
          refine xV (e_as (v := .int _ _) (q0 rfl)) rfl rfl ?_
          refine XN ?_
          exact loopJ_normal (k + 1) (by repeat (first | exact agree_self | exact agree_over | refine agree_upd rfl ?_ | refine agree_updL rfl ?_ | refine agree_over2 rfl ?_)) ⟨rfl, trivial⟩ (fun _ h => h) rfl ⟨by omega, by omega, y, by simpa using hy, by
            rw [hcf, hdrop]
            simp only [compactGo]
            rw [if_neg (by simpa using heq), take_snoc _ _ _ hy]
            simp⟩ (by show xs.length - (k + 1) < xs.length - k; omega)
      · have hend : k = xs.length := by simp at hlt; omega
        have hcf4 : compactF eq xs = xs := by rw [hcf, hend, List.drop_length, List.take_length]; simp [compactGo]
        refine H_exit ?_
        refine thenJ_exit ?_
        refine loopJ_exit ?_
        refine blockJ_hit ?_
        refine thenJ_normal ?_
        refine H_seq ?_
        refine R0 ?_
        refine xV (e_mv (v := .slice _ _ _) (q0 rfl)) rfl rfl ?_
        refine xV (e_as (v := .slice _ _ _) (q0 rfl)) rfl rfl ?_
        refine XN ?_
        refine thenJ_normal ?_
        refine H_ret ?_
        exact ret1 (v := .slice _ _ _) rfl rfl hmk fun w' hw => ⟨(), by rw [hcf4], by rw [hcf4]; exact hw⟩


end Go.Proofs.Cus
