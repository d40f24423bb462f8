/-
  The walks: the reference's set.
-/
import Derived.Test.YtnikolfakmgbbaaCg
namespace Go.Proofs.Cus
open Go Go.RowKit Go.Proofs.E

theorem take_while {p : Ev → Bool} : ∀ {l : List Ev} {k : Nat}, k ≤ l.length → (l.take k).all p = true → (∀ x, l[k]? = some x → p x = false) → l.takeWhile p = l.take k ∧ l.dropWhile p = l.drop k
  | [], k, hk, _, _ => by simp
  | a :: l, 0, _, _, h => by
    have := h a rfl
    simp [this]
  | a :: l, k + 1, hk, ha, h => by
    simp only [List.take_succ_cons, List.all_cons, Bool.and_eq_true] at ha
    have := take_while (l := l) (k := k) (by simpa using hk) ha.2 (fun x hx => h x (by simpa using hx))
    simp [ha.1, this]
theorem scan_len (xs : List Ev) (e : Ev) (k : Nat) : ((xs.take k).foldl scanStep ([], e)).1.length ≤ xs.length := by
  rw [(scan_fst (xs.take k) [] e).1]
  have h1 := List.length_filter_le (fun x => !sameNum x e) (xs.take k)
  have h2 := List.length_take_le k xs
  simp; have h3 : (xs.take k).length ≤ xs.length := by rw [List.length_take]; omega
  omega
attribute [local irreducible] evLess
set_option maxRecDepth 20000 in
set_option maxHeartbeats 2000000 in
theorem with_w (A : Option Addr) (n c : Nat) (xs : List Ev) (e : Ev) (w : World) (hx : EvsAt w A n xs) (hn : n ≤ 10000) :
    Calls Try.prog 88 #[.slice A n c, .agg e.cells.toArray] w fun r w' => ∃ x : Option Addr × Nat, r = .returned (.slice x.1 (withE xs e).length x.2) ∧ Mem w [evRow x.1 x.2 (withE xs e)] w' := by
  have hl := hx.1
  have hstep : ∀ k x, xs[k]? = some x → (xs.take (k + 1)).foldl scanStep ([], e) = scanStep ((xs.take k).foldl scanStep ([], e)) x := fun k x hx => by
    rw [take_snoc _ _ _ hx, List.foldl_append]; rfl
  have hlen := scan_len xs e
  obtain ⟨S, hS⟩ : ∃ S : Nat → List Ev × Ev, S = fun k => (xs.take k).foldl scanStep ([], e) := ⟨_, rfl⟩
  have hstep' : ∀ k x, xs[k]? = some x → S (k + 1) = scanStep (S k) x := fun k x hx => by rw [hS]; exact hstep k x hx
  have hlen' : ∀ k, (S k).1.length ≤ xs.length := fun k => by rw [hS]; exact hlen k
  have hS0 : S 0 = ([], e) := by rw [hS]; rfl
  have hSn : S n = xs.foldl scanStep ([], e) := by rw [hS]; simp only [← hl, List.take_length]
  clear hstep hlen hS
  refine H_enter Try.func88 rfl Try.ntmps88 rfl ?_
  refine H_seq ?_
  refine R0 ?_
  refine X_box (v := .agg _) rfl rfl fun b3 => ?_
  refine xV (e_as (v := .slice _ _ _) (q0 rfl)) rfl rfl ?_
  refine XN ?_
  refine thenJ_normal ?_
  refine H_seq ?_
  refine R0 ?_
  refine xV (e_as (v := .slice _ _ _) (q0 rfl)) rfl rfl ?_
  refine XN ?_
  refine thenJ_normal ?_
  refine H_seq ?_
  refine H_seq ?_
  refine R0 ?_
  refine xV (e_as (v := .int _ _) (q0 rfl)) rfl rfl ?_
  refine XN ?_
  refine thenJ_normal ?_
  refine H_block ?_
  refine H_loop [5, 6, 9, 10, 11, 12, 13, 14, 15, 16, 17, 18, 19, 20, 21, 22, 23, 24, 25, 26, 27, 28, 29, 30, 31, 32, 33, 34, 35, 36, 37, 38, 39, 40, 41, 42, 43, 44, 45, 46, 47, 48, 49] (fun s : Nat × Option Addr × Nat => [(6, .int .i64 s.1), (5, .slice s.2.1 (S s.1).1.length s.2.2)]) (fun s => [evRow s.2.1 s.2.2 (S s.1).1, box b3 67 (S s.1).2.cells]) (fun s => s.1 ≤ n) (fun s => n - s.1) (0, none, 0) ⟨rfl, by show _ = Value.slice none (S 0).1.length 0; rw [hS0]; rfl, trivial⟩ (fun w hw => by show Mem _ [evRow none 0 (S 0).1, box b3 67 (S 0).2.cells] w; rw [hS0]; exact hw.nilRow _ _ _ rfl) rfl (Nat.zero_le _) ?_
  rintro s g hk
  refine H_seq ?_
  refine H_seq ?_
  refine R0 ?_
  refine xV (e_mv (v := .int _ _) (q0 rfl)) rfl rfl ?_
  refine xV (e_mv (v := .slice _ _ _) (q0 rfl)) rfl rfl ?_
  refine xV (e_len Try.underlying25 (q0 rfl)) rfl rfl ?_
  refine xV (e_lt (q0 rfl) (q0 rfl)) rfl rfl ?_
  refine XN ?_
  refine thenJ_normal ?_
  refine H_cond rfl (fun hlt => ?_) (fun hlt => ?_)
  · have hlt' : s.1 < n := by simpa using hlt
    obtain ⟨b, off, x, rfl, hbl, hxk, hrx⟩ := hx.at_ hlt'
    have hst := hstep' s.1 x hxk
    have hll := hlen' s.1
    refine H_skip ?_
    refine thenJ_normal ?_
    refine H_seq ?_
    refine H_block ?_
    refine H_seq ?_
    refine R1 rfl (by decide +kernel) ?_
    refine xV (e_mv (v := .slice _ _ _) (q0 rfl)) rfl rfl ?_
    refine xV (e_mv (v := .int _ _) (q0 rfl)) rfl rfl ?_
    refine xV (e_idx _ Try.underlying25 Try.sizeOf67 (q0 rfl) (q0 rfl) (fun _ => ⟨rfl, by omega⟩)) rfl rfl ?_
    refine xV (e_fld Try.underlying67 rfl Try.sizeOf3 rfl (q0 rfl)) rfl rfl ?_
    refine xV (e_ld Try.isAgg3 (q0 rfl) (by first | exact bx 0 rfl rfl | exact bx 1 rfl rfl | exact bx 2 rfl rfl | exact bx 3 rfl rfl | exact bx 4 rfl rfl | exact bx 5 rfl rfl | exact bx 6 rfl rfl | exact bx 7 rfl rfl | exact bx 8 rfl rfl | exact bx 9 rfl rfl | exact rc ‹_› ‹_› rfl | exact rc0 ‹_› ‹_› rfl | exact xc ‹_› ‹_› | exact rr 0 rfl ‹_› rfl | exact rr0 0 rfl ‹_› rfl | exact rr 1 rfl ‹_› rfl | exact rr0 1 rfl ‹_› rfl | exact rr 2 rfl ‹_› rfl | exact rr0 2 rfl ‹_› rfl | exact rr 3 rfl ‹_› rfl | exact rr0 3 rfl ‹_› rfl | exact rr 4 rfl ‹_› rfl | exact rr0 4 rfl ‹_› rfl | exact rr 5 rfl ‹_› rfl | exact rr0 5 rfl ‹_› rfl | exact rr 6 rfl ‹_› rfl | exact rr0 6 rfl ‹_› rfl | exact rr 7 rfl ‹_› rfl | exact rr0 7 rfl ‹_› rfl)) rfl rfl ?_
    refine xV (e_fld Try.underlying67 rfl Try.sizeOf3 rfl (q0 rfl)) rfl rfl ?_
    refine xV (e_ld Try.isAgg3 (q0 rfl) (by first | exact bx 0 rfl rfl | exact bx 1 rfl rfl | exact bx 2 rfl rfl | exact bx 3 rfl rfl | exact bx 4 rfl rfl | exact bx 5 rfl rfl | exact bx 6 rfl rfl | exact bx 7 rfl rfl | exact bx 8 rfl rfl | exact bx 9 rfl rfl | exact rc ‹_› ‹_› rfl | exact rc0 ‹_› ‹_› rfl | exact xc ‹_› ‹_› | exact rr 0 rfl ‹_› rfl | exact rr0 0 rfl ‹_› rfl | exact rr 1 rfl ‹_› rfl | exact rr0 1 rfl ‹_› rfl | exact rr 2 rfl ‹_› rfl | exact rr0 2 rfl ‹_› rfl | exact rr 3 rfl ‹_› rfl | exact rr0 3 rfl ‹_› rfl | exact rr 4 rfl ‹_› rfl | exact rr0 4 rfl ‹_› rfl | exact rr 5 rfl ‹_› rfl | exact rr0 5 rfl ‹_› rfl | exact rr 6 rfl ‹_› rfl | exact rr0 6 rfl ‹_› rfl | exact rr 7 rfl ‹_› rfl | exact rr0 7 rfl ‹_› rfl)) rfl rfl ?_
    refine xV (e_ne (q0 rfl) (q0 rfl)) rfl rfl ?_
    refine xV (e_mv (v := .bool _) (q0 rfl)) rfl rfl ?_
    refine xVF (e_mv (v := .slice _ _ _) (q0 rfl)) rfl rfl rfl rfl ?_
    refine xVF (e_mv (v := .int _ _) (q0 rfl)) rfl rfl rfl rfl ?_
    refine xVF (e_idx _ Try.underlying25 Try.sizeOf67 (q1 rfl) (q1 rfl) (fun _ => ⟨rfl, by omega⟩)) rfl rfl rfl rfl ?_
    refine xVF (e_fld Try.underlying67 rfl Try.sizeOf3 rfl (q1 rfl)) rfl rfl rfl rfl ?_
    refine xVF (e_ld Try.isAgg3 (q1 rfl) (by first | exact bx 0 rfl rfl | exact bx 1 rfl rfl | exact bx 2 rfl rfl | exact bx 3 rfl rfl | exact bx 4 rfl rfl | exact bx 5 rfl rfl | exact bx 6 rfl rfl | exact bx 7 rfl rfl | exact bx 8 rfl rfl | exact bx 9 rfl rfl | exact rc ‹_› ‹_› rfl | exact rc0 ‹_› ‹_› rfl | exact xc ‹_› ‹_› | exact rr 0 rfl ‹_› rfl | exact rr0 0 rfl ‹_› rfl | exact rr 1 rfl ‹_› rfl | exact rr0 1 rfl ‹_› rfl | exact rr 2 rfl ‹_› rfl | exact rr0 2 rfl ‹_› rfl | exact rr 3 rfl ‹_› rfl | exact rr0 3 rfl ‹_› rfl | exact rr 4 rfl ‹_› rfl | exact rr0 4 rfl ‹_› rfl | exact rr 5 rfl ‹_› rfl | exact rr0 5 rfl ‹_› rfl | exact rr 6 rfl ‹_› rfl | exact rr0 6 rfl ‹_› rfl | exact rr 7 rfl ‹_› rfl | exact rr0 7 rfl ‹_› rfl)) rfl rfl rfl rfl ?_
    refine xVF (e_fld Try.underlying67 rfl Try.sizeOf3 rfl (q0 rfl)) rfl rfl rfl rfl ?_
    refine xVF (e_ld Try.isAgg3 (q1 rfl) (by first | exact bx 0 rfl rfl | exact bx 1 rfl rfl | exact bx 2 rfl rfl | exact bx 3 rfl rfl | exact bx 4 rfl rfl | exact bx 5 rfl rfl | exact bx 6 rfl rfl | exact bx 7 rfl rfl | exact bx 8 rfl rfl | exact bx 9 rfl rfl | exact rc ‹_› ‹_› rfl | exact rc0 ‹_› ‹_› rfl | exact xc ‹_› ‹_› | exact rr 0 rfl ‹_› rfl | exact rr0 0 rfl ‹_› rfl | exact rr 1 rfl ‹_› rfl | exact rr0 1 rfl ‹_› rfl | exact rr 2 rfl ‹_› rfl | exact rr0 2 rfl ‹_› rfl | exact rr 3 rfl ‹_› rfl | exact rr0 3 rfl ‹_› rfl | exact rr 4 rfl ‹_› rfl | exact rr0 4 rfl ‹_› rfl | exact rr 5 rfl ‹_› rfl | exact rr0 5 rfl ‹_› rfl | exact rr 6 rfl ‹_› rfl | exact rr0 6 rfl ‹_› rfl | exact rr 7 rfl ‹_› rfl | exact rr0 7 rfl ‹_› rfl)) rfl rfl rfl rfl ?_
    refine xVF (e_ne (q1 rfl) (q1 rfl)) rfl rfl rfl rfl ?_
    refine xV (e_or (q0 rfl) rfl (fun h => by first | rfl | (rw [h]; rfl))) rfl rfl ?_
    refine XN ?_
    refine thenJ_normal ?_
    refine H_cond rfl (fun hd => ?_) (fun hd => ?_)
    · have hst2 : S (s.1 + 1) = ((S s.1).1 ++ [x], (S s.1).2) := by
        rw [hst, scanStep, if_pos]
        simp only [Bool.or_eq_true, Bool.not_eq_true', decide_eq_false_iff_not] at hd
        exact hd
      refine R0 ?_
      refine xV (e_mv (v := .slice _ _ _) (q0 rfl)) rfl rfl ?_
      refine xV (e_mv (v := .slice _ _ _) (q0 rfl)) rfl rfl ?_
      refine xV (e_mv (v := .int _ _) (q0 rfl)) rfl rfl ?_
      refine xV (e_idx _ Try.underlying25 Try.sizeOf67 (q0 rfl) (q0 rfl) (fun _ => ⟨rfl, by omega⟩)) rfl rfl ?_
      refine xV (e_lds Try.isAgg67 Try.sizeOf67 (q0 rfl) (by first | exact bxs 0 rfl | exact bxs 1 rfl | exact bxs 2 rfl | exact bxs 3 rfl | exact bxs 4 rfl | exact bxs 5 rfl | exact bxs 6 rfl | exact bxs 7 rfl | exact bxs 8 rfl | exact bxs 9 rfl | exact rcs ‹_› ‹_› | exact rrs 0 rfl ‹_› | exact rrs 1 rfl ‹_› | exact rrs 2 rfl ‹_› | exact rrs 3 rfl ‹_› | exact rrs 4 rfl ‹_› | exact rrs 5 rfl ‹_› | exact rrs 6 rfl ‹_› | exact rrs 7 rfl ‹_›) rfl) rfl rfl ?_
      refine X_push (k := 9) (i := Try.t67) 0 (x) Try.underlying25 (by kernel_rfl) rfl rfl rfl rfl Try.sizeOf67 Try.zeroValue67 rfl rfl rfl rfl rfl rfl ⟨by omega, by decide⟩ rfl rfl fun B A1 c1 => ?_
      refine xV (e_as (v := .slice _ _ _) (q0 rfl)) rfl rfl ?_
      refine XN ?_
      refine blockJ_normal ?_
      refine thenJ_normal ?_
      refine R0 ?_
      refine xV (e_mv (v := .int _ _) (q0 rfl)) rfl rfl ?_
      refine xV (e_add (q0 rfl) (q0 rfl) (fun _ => ⟨rfl, by omega, by omega⟩)) rfl rfl ?_
      refine xV (e_as (v := .int _ _) (q0 rfl)) rfl rfl ?_
      refine XN ?_
      exact loopJ_normal (s.1 + 1, A1, c1) (by repeat (first | exact agree_self | exact agree_over | refine agree_upd rfl ?_ | refine agree_updL rfl ?_ | refine agree_over2 rfl ?_)) ⟨rfl, by show _ = Value.slice _ (S (s.1 + 1)).1.length _; rw [hst2]; rfl, trivial⟩ (fun w hw => by show Mem _ [evRow A1 c1 (S (s.1 + 1)).1, box b3 67 (S (s.1 + 1)).2.cells] w; rw [hst2]; exact hw) rfl (by show s.1 + 1 ≤ n; omega) (by show n - (s.1 + 1) < n - s.1; omega)
    · have hd' : ¬ (x.device ≠ (S s.1).2.device ∨ x.seq ≠ (S s.1).2.seq) := by
        simp only [Bool.or_eq_false_iff, Bool.not_eq_false', decide_eq_true_eq] at hd
        exact fun h => h.elim (fun h => h hd.1) (fun h => h hd.2)
      refine H_seq ?_
      refine R1 rfl (by decide +kernel) ?_
      refine xV (e_mv (v := .slice _ _ _) (q0 rfl)) rfl rfl ?_
      refine xV (e_mv (v := .int _ _) (q0 rfl)) rfl rfl ?_
      refine xV (e_idx _ Try.underlying25 Try.sizeOf67 (q0 rfl) (q0 rfl) (fun _ => ⟨rfl, by omega⟩)) rfl rfl ?_
      refine xV (e_lds Try.isAgg67 Try.sizeOf67 (q0 rfl) (by first | exact bxs 0 rfl | exact bxs 1 rfl | exact bxs 2 rfl | exact bxs 3 rfl | exact bxs 4 rfl | exact bxs 5 rfl | exact bxs 6 rfl | exact bxs 7 rfl | exact bxs 8 rfl | exact bxs 9 rfl | exact rcs ‹_› ‹_› | exact rrs 0 rfl ‹_› | exact rrs 1 rfl ‹_› | exact rrs 2 rfl ‹_› | exact rrs 3 rfl ‹_› | exact rrs 4 rfl ‹_› | exact rrs 5 rfl ‹_› | exact rrs 6 rfl ‹_› | exact rrs 7 rfl ‹_›) rfl) rfl rfl ?_
      refine xV (e_lds Try.isAgg67 Try.sizeOf67 (q0 rfl) (by first | exact bxs 0 rfl | exact bxs 1 rfl | exact bxs 2 rfl | exact bxs 3 rfl | exact bxs 4 rfl | exact bxs 5 rfl | exact bxs 6 rfl | exact bxs 7 rfl | exact bxs 8 rfl | exact bxs 9 rfl | exact rcs ‹_› ‹_› | exact rrs 0 rfl ‹_› | exact rrs 1 rfl ‹_› | exact rrs 2 rfl ‹_› | exact rrs 3 rfl ‹_› | exact rrs 4 rfl ‹_› | exact rrs 5 rfl ‹_› | exact rrs 6 rfl ‹_› | exact rrs 7 rfl ‹_›) rfl) rfl rfl ?_
      refine xC (en Try.call103 (ha2 (q0 rfl) (q0 rfl))) (fun _ w _ => less_w x (S s.1).2 w) rfl rfl ?_
      refine XN ?_
      refine thenJ_normal ?_
      refine H_cond rfl (fun hless => ?_) (fun hless => ?_)
      · have hst2 : S (s.1 + 1) = ((S s.1).1, x) := by rw [hst, scanStep, if_neg hd', if_pos hless]
        refine R0 ?_
        refine xV (e_mv (v := .slice _ _ _) (q0 rfl)) rfl rfl ?_
        refine xV (e_mv (v := .int _ _) (q0 rfl)) rfl rfl ?_
        refine xV (e_idx _ Try.underlying25 Try.sizeOf67 (q0 rfl) (q0 rfl) (fun _ => ⟨rfl, by omega⟩)) rfl rfl ?_
        refine xV (e_lds Try.isAgg67 Try.sizeOf67 (q0 rfl) (by first | exact bxs 0 rfl | exact bxs 1 rfl | exact bxs 2 rfl | exact bxs 3 rfl | exact bxs 4 rfl | exact bxs 5 rfl | exact bxs 6 rfl | exact bxs 7 rfl | exact bxs 8 rfl | exact bxs 9 rfl | exact rcs ‹_› ‹_› | exact rrs 0 rfl ‹_› | exact rrs 1 rfl ‹_› | exact rrs 2 rfl ‹_› | exact rrs 3 rfl ‹_› | exact rrs 4 rfl ‹_› | exact rrs 5 rfl ‹_› | exact rrs 6 rfl ‹_› | exact rrs 7 rfl ‹_›) rfl) rfl rfl ?_
        (first | refine X_store 0 (v := .agg _) rfl rfl Try.sizeOf67 rfl rfl rfl rfl ?_ | refine X_store 1 (v := .agg _) rfl rfl Try.sizeOf67 rfl rfl rfl rfl ?_ | refine X_store 2 (v := .agg _) rfl rfl Try.sizeOf67 rfl rfl rfl rfl ?_ | refine X_store 3 (v := .agg _) rfl rfl Try.sizeOf67 rfl rfl rfl rfl ?_ | refine X_store 4 (v := .agg _) rfl rfl Try.sizeOf67 rfl rfl rfl rfl ?_ | refine X_store 5 (v := .agg _) rfl rfl Try.sizeOf67 rfl rfl rfl rfl ?_ | refine X_store 6 (v := .agg _) rfl rfl Try.sizeOf67 rfl rfl rfl rfl ?_ | refine X_store 7 (v := .agg _) rfl rfl Try.sizeOf67 rfl rfl rfl rfl ?_ | refine X_store 8 (v := .agg _) rfl rfl Try.sizeOf67 rfl rfl rfl rfl ?_)
        refine XN ?_
        refine blockJ_normal ?_
        refine thenJ_normal ?_
        refine R0 ?_
        refine xV (e_mv (v := .int _ _) (q0 rfl)) rfl rfl ?_
        refine xV (e_add (q0 rfl) (q0 rfl) (fun _ => ⟨rfl, by omega, by omega⟩)) rfl rfl ?_
        refine xV (e_as (v := .int _ _) (q0 rfl)) rfl rfl ?_
        refine XN ?_
        exact loopJ_normal (s.1 + 1, s.2.1, s.2.2) (by repeat (first | exact agree_self | exact agree_over | refine agree_upd rfl ?_ | refine agree_updL rfl ?_ | refine agree_over2 rfl ?_)) ⟨rfl, by show _ = Value.slice _ (S (s.1 + 1)).1.length _; rw [hst2]; rfl, trivial⟩ (fun w hw => by show Mem _ [evRow s.2.1 s.2.2 (S (s.1 + 1)).1, box b3 67 (S (s.1 + 1)).2.cells] w; rw [hst2]; exact hw) rfl (by show s.1 + 1 ≤ n; omega) (by show n - (s.1 + 1) < n - s.1; omega)
      · have hst2 : S (s.1 + 1) = S s.1 := by rw [hst, scanStep, if_neg hd', if_neg (by rw [hless]; decide)]
        refine H_skip ?_
        refine blockJ_normal ?_
        refine thenJ_normal ?_
        refine R0 ?_
        refine xV (e_mv (v := .int _ _) (q0 rfl)) rfl rfl ?_
        refine xV (e_add (q0 rfl) (q0 rfl) (fun _ => ⟨rfl, by omega, by omega⟩)) rfl rfl ?_
        refine xV (e_as (v := .int _ _) (q0 rfl)) rfl rfl ?_
        refine XN ?_
        exact loopJ_normal (s.1 + 1, s.2.1, s.2.2) (by repeat (first | exact agree_self | exact agree_over | refine agree_upd rfl ?_ | refine agree_updL rfl ?_ | refine agree_over2 rfl ?_)) ⟨rfl, by show _ = Value.slice _ (S (s.1 + 1)).1.length _; rw [hst2]; rfl, trivial⟩ (fun w hw => by show Mem _ [evRow s.2.1 s.2.2 (S (s.1 + 1)).1, box b3 67 (S (s.1 + 1)).2.cells] w; rw [hst2]; exact hw) rfl (by show s.1 + 1 ≤ n; omega) (by show n - (s.1 + 1) < n - s.1; omega)
  · have hend : s.1 = n := by simp at hlt; omega
    have hwith : withE xs e = (S s.1).1.takeWhile (fun x => evLess x (S s.1).2) ++ (S s.1).2 :: (S s.1).1.dropWhile (fun x => evLess x (S s.1).2) := by rw [hend, hSn]; rfl
    have hll := hlen' s.1
    clear hstep' hlen' hSn hend hk hlt
    rw [hwith]
    clear hwith
    generalize (S s.1).1 = out at *
    generalize (S s.1).2 = e1 at *
    generalize s.2.1 = A1 at *
    generalize s.2.2 = c1 at *
    refine H_exit ?_
    refine thenJ_exit ?_
    refine loopJ_exit ?_
    refine blockJ_hit ?_
    refine thenJ_normal ?_
    refine H_seq ?_
    refine R0 ?_
    refine xV (e_as (v := .int _ _) (q0 rfl)) rfl rfl ?_
    refine XN ?_
    refine thenJ_normal ?_
    refine H_seq ?_
    refine H_block ?_
    refine H_know (fun w hw => rowT_cap (j := 0) hw rfl) fun hcap => ?_
    refine H_loop [7, 50, 51, 52, 53, 54, 55, 56, 57, 58, 59, 60, 61, 62, 63] (fun k : Nat => [(7, .int .i64 k)]) (fun _ => _) (fun k => k ≤ out.length ∧ (out.take k).all (fun x => evLess x e1) = true) (fun k => out.length - k) 0 ⟨rfl, trivial⟩ (fun _ h => h) rfl ⟨Nat.zero_le _, rfl⟩ ?_
    rintro k g2 ⟨hk, hall⟩
    refine H_seq ?_
    refine H_seq ?_
    refine H_cut [50, 51, 52, 53, 54, 55, 56, 57, 58, 59, 60, 61] (fun _ : Unit => [(61, .bool (decide (k < out.length) && out[k]?.any (fun x => evLess x e1)))]) (fun _ => [evRow A1 c1 out, box b3 67 e1.cells]) (fun _ => True) ?_ ?_
    · have _ht : True := trivial
      by_cases hlt : k < out.length
      case neg =>
        have hd : decide ((k : Int) < (out.length : Int)) = false := by simp; omega
        refine R1 rfl (by decide +kernel) ?_
        refine xV (e_mv (v := .int _ _) (q0 rfl)) rfl rfl ?_
        refine xV (e_mv (v := .slice _ _ _) (q0 rfl)) rfl rfl ?_
        refine xV (e_len Try.underlying25 (q0 rfl)) rfl rfl ?_
        refine xV (e_lt (q0 rfl) (q0 rfl)) rfl rfl ?_
        refine xV (e_mv (v := .bool _) (q0 rfl)) rfl rfl ?_
        refine xVT (e_dead (v := .slice none 0 0) (hd)) rfl rfl rfl rfl ?_
        refine xVT (e_dead (v := .int .i64 0) (hd)) rfl rfl rfl rfl ?_
        refine xVT (e_dead (v := .pointer none) (hd)) rfl rfl rfl rfl ?_
        refine xVT (e_dead (v := .agg #[]) (hd)) rfl rfl rfl rfl ?_
        refine xVT (e_dead (v := .agg #[]) (hd)) rfl rfl rfl rfl ?_
        refine xVT (e_dead (v := .bool false) (hd)) rfl rfl rfl rfl ?_
        refine xV (e_and (q0 rfl) rfl (fun h => by first | rfl | (rw [h]; rfl))) rfl rfl ?_
        refine XN ?_
        exact cutJ_normal () (by repeat (first | exact agree_self | exact agree_over | refine agree_upd rfl ?_ | refine agree_updL rfl ?_ | refine agree_over2 rfl ?_)) ⟨by show Value.bool (decide ((k : Int) < (out.length : Int)) && _) = _; rw [hd]; simp [hlt], trivial⟩ (fun w hw => hw) rfl trivial
      case pos =>
        obtain ⟨y, hy⟩ : ∃ y, out[k]? = some y := ⟨_, List.getElem?_eq_getElem hlt⟩
        refine H_know (fun w hw => rowT_at (j := 0) hw rfl (by omega)) fun ⟨b4, hb4⟩ => ?_
        subst hb4
        refine R1 rfl (by decide +kernel) ?_
        refine xV (e_mv (v := .int _ _) (q0 rfl)) rfl rfl ?_
        refine xV (e_mv (v := .slice _ _ _) (q0 rfl)) rfl rfl ?_
        refine xV (e_len Try.underlying25 (q0 rfl)) rfl rfl ?_
        refine xV (e_lt (q0 rfl) (q0 rfl)) rfl rfl ?_
        refine xV (e_mv (v := .bool _) (q0 rfl)) rfl rfl ?_
        refine xVT (e_mv (v := .slice _ _ _) (q0 rfl)) rfl rfl rfl rfl ?_
        refine xVT (e_mv (v := .int _ _) (q0 rfl)) rfl rfl rfl rfl ?_
        refine xVT (e_idx _ Try.underlying25 Try.sizeOf67 (q1 rfl) (q1 rfl) (fun _ => ⟨rfl, by omega⟩)) rfl rfl rfl rfl ?_
        refine xVT (e_lds Try.isAgg67 Try.sizeOf67 (q1 rfl) (rrs 0 rfl hy) rfl) rfl rfl rfl rfl ?_
        refine xVT (e_lds Try.isAgg67 Try.sizeOf67 (q0 rfl) (by first | exact bxs 0 rfl | exact bxs 1 rfl | exact bxs 2 rfl | exact bxs 3 rfl | exact bxs 4 rfl | exact bxs 5 rfl | exact bxs 6 rfl | exact bxs 7 rfl | exact bxs 8 rfl | exact bxs 9 rfl | exact rcs ‹_› ‹_› | exact rrs 0 rfl ‹_› | exact rrs 1 rfl ‹_› | exact rrs 2 rfl ‹_› | exact rrs 3 rfl ‹_› | exact rrs 4 rfl ‹_› | exact rrs 5 rfl ‹_› | exact rrs 6 rfl ‹_› | exact rrs 7 rfl ‹_›) rfl) rfl rfl rfl rfl ?_
        refine xCT (en Try.call103 (ha2 (q1 (v := .agg _) rfl) (q1 (v := .agg _) rfl))) (fun _ w _ => less_w y e1 w) rfl rfl rfl rfl ?_
        refine xV (e_and (q0 rfl) rfl (fun h => by first | rfl | (rw [h]; rfl))) rfl rfl ?_
        refine XN ?_
        exact cutJ_normal () (by repeat (first | exact agree_self | exact agree_over | refine agree_upd rfl ?_ | refine agree_updL rfl ?_ | refine agree_over2 rfl ?_)) ⟨by show Value.bool (decide ((k : Int) < (out.length : Int)) && evLess y e1) = _; rw [hy]; simp [hlt], trivial⟩ (fun w hw => hw) rfl trivial
    · intro s2 g3 _
      refine thenJ_normal ?_
      refine H_cond rfl (fun hc => ?_) (fun hc => ?_)
      · simp only [Bool.and_eq_true, decide_eq_true_eq] at hc
        obtain ⟨hlt, hc⟩ := hc
        obtain ⟨y, hy⟩ : ∃ y, out[k]? = some y := ⟨_, List.getElem?_eq_getElem hlt⟩
        rw [hy] at hc
        refine H_skip ?_
        refine thenJ_normal ?_
        refine H_block ?_
        refine R0 ?_
        refine xV (e_mv (v := .int _ _) (q0 rfl)) rfl rfl ?_
        refine xV (e_add (q0 rfl) (q0 rfl) (fun _ => ⟨rfl, by omega, by omega⟩)) rfl rfl ?_
        refine xV (e_as (v := .int _ _) (q0 rfl)) rfl rfl ?_
        refine XN ?_
        refine blockJ_normal ?_
        exact loopJ_normal (k + 1) (by repeat (first | exact agree_self | exact agree_over | refine agree_upd rfl ?_ | refine agree_updL rfl ?_ | refine agree_over2 rfl ?_)) ⟨rfl, trivial⟩ (fun _ h => h) rfl ⟨by omega, by rw [take_snoc _ _ _ hy, List.all_append, hall]; simpa using hc⟩ (by show out.length - (k + 1) < out.length - k; omega)
      · obtain ⟨e2, e3⟩ := take_while (p := fun x => evLess x e1) hk hall (fun x hx => by
          have hlt : k < out.length := (List.getElem?_eq_some_iff.1 hx).1
          rw [hx] at hc
          simpa [hlt] using hc)
        rw [e2, e3]
        refine H_exit ?_
        refine thenJ_exit ?_
        refine loopJ_exit ?_
        refine blockJ_hit ?_
        refine thenJ_normal ?_
        refine H_seq ?_
        refine R0 ?_
        refine X_eff (f_slit0 Ev.cells Try.underlying25 Try.sizeOf67 rfl fun A2 c2 => ?_)
        refine xV (e_mv (v := .slice _ _ _) (q0 rfl)) rfl rfl ?_
        refine xV (e_mv (v := .int _ _) (q0 rfl)) rfl rfl ?_
        refine xV (e_slHi _ Try.underlying25 Try.sizeOf67 (q0 rfl) (q0 rfl) (fun _ => ⟨rfl, by omega⟩)) rfl rfl ?_
        refine X_append (f_append (k := 9) (i := Try.t67) (enc := Ev.cells) 0 Try.underlying25 (by kernel_rfl) rfl rfl rfl rfl (fun _ => rfl) (fun _ => rfl) rfl rfl rfl (fun w hw => (slAt_row hw (j := 1) rfl (fun _ => rfl) (by omega)).take hk) ⟨by simp; omega, by decide⟩ rfl fun A3 c3 => ?_)
        refine xV (e_as (v := .slice _ _ _) (q0 rfl)) rfl rfl ?_
        refine XN ?_
        refine thenJ_normal ?_
        refine H_seq ?_
        refine RAd 1 rfl (by decide +kernel) ?_
        refine aV 0 (by decide +kernel) rfl (e_mv (v := .slice _ _ _) (q0 rfl)) rfl ?_
        refine aV 1 (by decide +kernel) rfl (e_lds Try.isAgg67 Try.sizeOf67 (q0 rfl) (by first | exact bxs 0 rfl | exact bxs 1 rfl | exact bxs 2 rfl | exact bxs 3 rfl | exact bxs 4 rfl | exact bxs 5 rfl | exact bxs 6 rfl | exact bxs 7 rfl | exact bxs 8 rfl | exact bxs 9 rfl | exact rcs ‹_› ‹_› | exact rrs 0 rfl ‹_› | exact rrs 1 rfl ‹_› | exact rrs 2 rfl ‹_› | exact rrs 3 rfl ‹_› | exact rrs 4 rfl ‹_› | exact rrs 5 rfl ‹_› | exact rrs 6 rfl ‹_› | exact rrs 7 rfl ‹_›) rfl) rfl ?_
        refine aV 4 (by decide +kernel) rfl (e_mv (v := .slice _ _ _) (q0 rfl)) rfl ?_
        refine aV 5 (by decide +kernel) rfl (e_mv (v := .int _ _) (q0 rfl)) rfl ?_
        refine aV 6 (by decide +kernel) rfl (e_slLoG k Try.underlying25 Try.sizeOf67 (q0 rfl) (q0 rfl) (fun _ => ⟨rfl, hk⟩)) rfl ?_
        refine rdy1 (i := 2) (by decide +kernel) (sub_drop 1) ?_
        refine aL rfl (f_slit [(.int .i64 0), (.int .i64 0), (.int .i64 0), (.int .i64 0), (.int .i64 0), (.int .i64 0), (.int .i64 0), (.int .i64 0), (.int .i64 0)] Try.underlying25 Try.sizeOf67 Try.zeroValue67 rfl (by kernel_rfl) (pt (v := .agg _) rfl E.p0) rfl rfl fun b71 => ?_)
        refine rdy1 (i := 3) (by decide +kernel) (sub_drop 2) ?_
        refine aL rfl (f_append (k := 9) (i := Try.t67) (enc := Ev.cells) 1 Try.underlying25 (by kernel_rfl) rfl rfl rfl rfl (fun _ => rfl) (fun _ => rfl) rfl rfl rfl (fun w hw => slAt_box (xs := [e1]) hw (j := 0) rfl (fun _ => rfl) (by simp)) ⟨by simp; omega, by decide⟩ rfl fun A4 c4 => ?_)
        refine rdy1 (i := 7) (by decide +kernel) (sub_drop 2) ?_
        refine aL rfl (f_append (k := 9) (i := Try.t67) (enc := Ev.cells) 1 Try.underlying25 (by kernel_rfl) rfl rfl rfl rfl (fun _ => rfl) (fun _ => rfl) rfl rfl rfl (fun w hw => (slAt_row hw (j := 2) rfl (fun _ => rfl) (by omega)).drop hk hcap.1) ⟨by simp; omega, by decide⟩ rfl fun A5 c5 => ?_)
        refine aV 8 (by decide +kernel) rfl (e_as (v := .slice _ _ _) (q0 rfl)) rfl ?_
        refine aZ (by decide +kernel) (sub_drop 2) ?_
        refine thenJ_normal ?_
        refine H_ret ?_
        exact ret1 (v := .slice _ _ _) rfl rfl rfl fun w' hw => ⟨(A5, c5), by simp, by simpa using hw.pick [1] (by decide)⟩

theorem refSet_len : ∀ (l s : List Ev), (l.foldl withE s).length ≤ s.length + l.length
  | [], s => by simp
  | x :: l, s => by
    have h1 := refSet_len l (withE s x)
    have h2 : (withE s x).length ≤ s.length + 1 := by
      have h3 := scan_len s x s.length
      rw [List.take_length] at h3
      simp only [withE, List.length_append, List.length_cons]
      have : ∀ (p : Ev → Bool) (o : List Ev), (o.takeWhile p).length + (o.dropWhile p).length = o.length := fun p o => by
        rw [← List.length_append, List.takeWhile_append_dropWhile]
      have := this (fun y => evLess y (s.foldl scanStep ([], x)).2) (s.foldl scanStep ([], x)).1
      omega
    simp only [List.foldl_cons, List.length_cons]
    omega
attribute [local irreducible] withE
theorem rset_w (A : Option Addr) (n c : Nat) (xs : List Ev) (w : World) (hx : EvsAt w A n xs) (hn : n ≤ 10000) :
    Calls Try.prog 73 #[.slice A n c] w fun r w' => ∃ x : Option Addr × Nat, r = .returned (.slice x.1 (setOf xs).length x.2) ∧ Mem w [evRow x.1 x.2 (setOf xs)] w' := by
  have hl := hx.1
  obtain ⟨S, hS⟩ : ∃ S : Nat → List Ev, S = fun k => (xs.take k).foldl withE [] := ⟨_, rfl⟩
  have hstep : ∀ k x, xs[k]? = some x → S (k + 1) = withE (S k) x := fun k x hx => by
    rw [hS]; simp only; rw [take_snoc _ _ _ hx, List.foldl_append]; rfl
  have hlen : ∀ k, (S k).length ≤ xs.length := fun k => by
    rw [hS]
    have h1 := refSet_len (xs.take k) []
    have h2 : (xs.take k).length ≤ xs.length := by rw [List.length_take]; omega
    simp only [List.length_nil] at h1
    simp only
    omega
  have hS0 : S 0 = [] := by rw [hS]; rfl
  have hSn : S n = setOf xs := by rw [hS, ← refSet_eq]; simp only [← hl, List.take_length]; rfl
  clear hS
  refine H_enter Try.func73 rfl Try.ntmps73 rfl ?_
  refine H_seq ?_
  refine R0 ?_
  refine xV (e_as (v := .slice _ _ _) (q0 rfl)) rfl rfl ?_
  refine XN ?_
  refine thenJ_normal ?_
  refine H_seq ?_
  refine R0 ?_
  refine xV (e_as (v := .slice _ _ _) (q0 rfl)) rfl rfl ?_
  refine XN ?_
  refine thenJ_normal ?_
  refine H_seq ?_
  refine H_seq ?_
  refine R0 ?_
  refine xV (e_as (v := .int _ _) (q0 rfl)) rfl rfl ?_
  refine XN ?_
  refine thenJ_normal ?_
  refine H_block ?_
  refine H_loop [3, 4, 5, 6, 7, 8, 9, 10, 11, 12, 13, 14, 15, 16] (fun s : Nat × Option Addr × Nat => [(4, .int .i64 s.1), (3, .slice s.2.1 (S s.1).length s.2.2)]) (fun s => [evRow s.2.1 s.2.2 (S s.1)]) (fun s => s.1 ≤ n) (fun s => n - s.1) (0, none, 0) ⟨rfl, by show _ = Value.slice none (S 0).length 0; rw [hS0]; rfl, trivial⟩ (fun w hw => by show Mem _ [evRow none 0 (S 0)] w; rw [hS0]; exact hw.nilRow _ _ _ rfl) rfl (Nat.zero_le _) ?_
  rintro s g hk
  refine H_seq ?_
  refine H_seq ?_
  refine R0 ?_
  refine xV (e_mv (v := .int _ _) (q0 rfl)) rfl rfl ?_
  refine xV (e_mv (v := .slice _ _ _) (q0 rfl)) rfl rfl ?_
  refine xV (e_len Try.underlying25 (q0 rfl)) rfl rfl ?_
  refine xV (e_lt (q0 rfl) (q0 rfl)) rfl rfl ?_
  refine XN ?_
  refine thenJ_normal ?_
  refine H_cond rfl (fun hlt => ?_) (fun hlt => ?_)
  · have hlt' : s.1 < n := by simpa using hlt
    obtain ⟨b, off, x, rfl, hbl, hxk, hrx⟩ := hx.at_ hlt'
    have hst := hstep s.1 x hxk
    have hll := hlen s.1
    refine H_skip ?_
    refine thenJ_normal ?_
    refine H_seq ?_
    refine H_block ?_
    refine R0 ?_
    refine xV (e_mv (v := .slice _ _ _) (q0 rfl)) rfl rfl ?_
    refine xV (e_mv (v := .slice _ _ _) (q0 rfl)) rfl rfl ?_
    refine xV (e_mv (v := .int _ _) (q0 rfl)) rfl rfl ?_
    refine xV (e_idx _ Try.underlying25 Try.sizeOf67 (q0 rfl) (q0 rfl) (fun _ => ⟨rfl, by omega⟩)) rfl rfl ?_
    refine xV (e_lds Try.isAgg67 Try.sizeOf67 (q0 rfl) (by first | exact bxs 0 rfl | exact bxs 1 rfl | exact bxs 2 rfl | exact bxs 3 rfl | exact bxs 4 rfl | exact bxs 5 rfl | exact bxs 6 rfl | exact bxs 7 rfl | exact bxs 8 rfl | exact bxs 9 rfl | exact rcs ‹_› ‹_› | exact rrs 0 rfl ‹_› | exact rrs 1 rfl ‹_› | exact rrs 2 rfl ‹_› | exact rrs 3 rfl ‹_› | exact rrs 4 rfl ‹_› | exact rrs 5 rfl ‹_› | exact rrs 6 rfl ‹_› | exact rrs 7 rfl ‹_›) rfl) rfl rfl ?_
    refine xCX (en Try.call88 (ha2 (q0 rfl) (q0 rfl))) (fun w hw => with_w s.2.1 (S s.1).length s.2.2 (S s.1) x w (slAt_row hw (j := 0) rfl (fun _ => rfl) (by omega)) (by omega)) rfl (fun _ => rfl) fun y => ?_
    refine xV (e_as (v := .slice _ _ _) (q0 rfl)) rfl rfl ?_
    refine XN ?_
    refine blockJ_normal ?_
    refine thenJ_normal ?_
    refine R0 ?_
    refine xV (e_mv (v := .int _ _) (q0 rfl)) rfl rfl ?_
    refine xV (e_add (q0 rfl) (q0 rfl) (fun _ => ⟨rfl, by omega, by omega⟩)) rfl rfl ?_
    refine xV (e_as (v := .int _ _) (q0 rfl)) rfl rfl ?_
    refine XN ?_
    exact loopJ_normal (s.1 + 1, y.1, y.2) (by repeat (first | exact agree_self | exact agree_over | refine agree_upd rfl ?_ | refine agree_updL rfl ?_ | refine agree_over2 rfl ?_)) ⟨rfl, by show _ = Value.slice _ (S (s.1 + 1)).length _; rw [hst]; rfl, trivial⟩ (fun w hw => by show Mem _ [evRow y.1 y.2 (S (s.1 + 1))] w; rw [hst]; exact hw.pick [0] (by decide)) rfl (by show s.1 + 1 ≤ n; omega) (by show n - (s.1 + 1) < n - s.1; omega)
  · have hend : s.1 = n := by simp at hlt; omega
    refine H_exit ?_
    refine thenJ_exit ?_
    refine loopJ_exit ?_
    refine blockJ_hit ?_
    refine thenJ_normal ?_
    refine H_seq ?_
    refine R0 ?_
    refine xV (e_mv (v := .slice _ _ _) (q0 rfl)) rfl rfl ?_
    refine xV (e_as (v := .slice _ _ _) (q0 rfl)) rfl rfl ?_
    refine XN ?_
    refine thenJ_normal ?_
    refine H_ret ?_
    exact ret1 (v := .slice _ _ _) rfl rfl rfl fun w' hw => ⟨(s.2.1, s.2.2), by rw [← hSn, ← hend], by rw [← hSn, ← hend]; exact hw⟩

end Go.Proofs.Cus
