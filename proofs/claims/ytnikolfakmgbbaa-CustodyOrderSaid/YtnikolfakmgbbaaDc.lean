/-
  The walks: few, turned; the law of the order.
-/
import Derived.Test.YtnikolfakmgbbaaDb
namespace Go.Proofs.Cus
open Go Go.RowKit Go.Proofs.E

def fewP (a : FA) (n : Nat) : Bool := (decide ((n : Int) ≤ 60) && decide ((a.dn : Int) ≤ 40)) && decide ((a.tn : Int) ≤ 20)
theorem few_w (f : Fl) (a : FA) (A : Option Addr) (n c : Nat) (w : World) : Calls Try.prog 12 #[.agg (f.cells a).toArray, .slice A n c] w fun e w' => e = .returned (.bool (fewP a n)) ∧ Bel w w' := by
  refine H_enter Try.func12 rfl Try.ntmps12 rfl ?_
  refine H_seq ?_
  refine R0 ?_
  refine X_box (v := .agg _) rfl rfl fun b2 => ?_
  refine xV (e_as (v := .bool _) (q0 rfl)) rfl rfl ?_
  refine XN ?_
  refine thenJ_normal ?_
  refine H_seq ?_
  refine R0 ?_
  refine xV (e_mv (v := .slice _ _ _) (q0 rfl)) rfl rfl ?_
  refine xV (e_len Try.underlying25 (q0 rfl)) rfl rfl ?_
  refine xV (e_le (q0 rfl) (q0 rfl)) rfl rfl ?_
  refine xV (e_mv (v := .bool _) (q0 rfl)) rfl rfl ?_
  refine xVT (e_fld Try.underlying24 rfl Try.sizeOf22 rfl (q0 rfl)) rfl rfl rfl rfl ?_
  refine xVT (e_ld Try.isAgg22 (q1 rfl) (by first | exact bx 0 rfl rfl | exact bx 1 rfl rfl | exact bx 2 rfl rfl | exact bx 3 rfl rfl | exact bx 4 rfl rfl | exact bx 5 rfl rfl | exact bx 6 rfl rfl | exact bx 7 rfl rfl | exact bx 8 rfl rfl | exact bx 9 rfl rfl | exact rc ‹_› ‹_› rfl | exact rc0 ‹_› ‹_› rfl | exact xc ‹_› ‹_› | exact rr 0 rfl ‹_› rfl | exact rr0 0 rfl ‹_› rfl | exact rr 1 rfl ‹_› rfl | exact rr0 1 rfl ‹_› rfl | exact rr 2 rfl ‹_› rfl | exact rr0 2 rfl ‹_› rfl | exact rr 3 rfl ‹_› rfl | exact rr0 3 rfl ‹_› rfl | exact rr 4 rfl ‹_› rfl | exact rr0 4 rfl ‹_› rfl | exact rr 5 rfl ‹_› rfl | exact rr0 5 rfl ‹_› rfl | exact rr 6 rfl ‹_› rfl | exact rr0 6 rfl ‹_› rfl | exact rr 7 rfl ‹_› rfl | exact rr0 7 rfl ‹_› rfl)) rfl rfl rfl rfl ?_
  refine xVT (e_len Try.underlying22 (q1 rfl)) rfl rfl rfl rfl ?_
  refine xVT (e_le (q1 rfl) (q0 rfl)) rfl rfl rfl rfl ?_
  refine xV (e_and (q0 rfl) rfl (fun h => by first | rfl | (rw [h]; rfl))) rfl rfl ?_
  refine xV (e_mv (v := .bool _) (q0 rfl)) rfl rfl ?_
  refine xVT (e_fld Try.underlying24 rfl Try.sizeOf22 rfl (q0 rfl)) rfl rfl rfl rfl ?_
  refine xVT (e_ld Try.isAgg22 (q1 rfl) (by first | exact bx 0 rfl rfl | exact bx 1 rfl rfl | exact bx 2 rfl rfl | exact bx 3 rfl rfl | exact bx 4 rfl rfl | exact bx 5 rfl rfl | exact bx 6 rfl rfl | exact bx 7 rfl rfl | exact bx 8 rfl rfl | exact bx 9 rfl rfl | exact rc ‹_› ‹_› rfl | exact rc0 ‹_› ‹_› rfl | exact xc ‹_› ‹_› | exact rr 0 rfl ‹_› rfl | exact rr0 0 rfl ‹_› rfl | exact rr 1 rfl ‹_› rfl | exact rr0 1 rfl ‹_› rfl | exact rr 2 rfl ‹_› rfl | exact rr0 2 rfl ‹_› rfl | exact rr 3 rfl ‹_› rfl | exact rr0 3 rfl ‹_› rfl | exact rr 4 rfl ‹_› rfl | exact rr0 4 rfl ‹_› rfl | exact rr 5 rfl ‹_› rfl | exact rr0 5 rfl ‹_› rfl | exact rr 6 rfl ‹_› rfl | exact rr0 6 rfl ‹_› rfl | exact rr 7 rfl ‹_› rfl | exact rr0 7 rfl ‹_› rfl)) rfl rfl rfl rfl ?_
  refine xVT (e_len Try.underlying22 (q1 rfl)) rfl rfl rfl rfl ?_
  refine xVT (e_le (q1 rfl) (q0 rfl)) rfl rfl rfl rfl ?_
  refine xV (e_and (q0 rfl) rfl (fun h => by first | rfl | (rw [h]; rfl))) rfl rfl ?_
  refine xV (e_as (v := .bool _) (q0 rfl)) rfl rfl ?_
  refine XN ?_
  refine thenJ_normal ?_
  refine H_ret ?_
  exact ret1 (v := .bool _) rfl rfl rfl fun w' hw => ⟨rfl, hw.1⟩

def turnEl (step : Int) (i : Nat) (x : Ev) : List Ev := if ((i : Int) + step) % 3 = 0 then [x, x] else [x]
/-- from the k-th element down -/
def turnP (xs : List Ev) (step : Int) : Nat → List Ev
  | 0 => []
  | k + 1 => (match xs[k]? with | some x => turnEl step k x | none => []) ++ turnP xs step k
def turnTo (xs : List Ev) (step : Int) (n : Nat) : Nat → List Ev
  | 0 => []
  | d + 1 => turnTo xs step n d ++ (match xs[n - 1 - d]? with | some x => turnEl step (n - 1 - d) x | none => [])
theorem turnTo_len (xs : List Ev) (step : Int) (n : Nat) : ∀ d, (turnTo xs step n d).length ≤ 2 * d
  | 0 => by simp [turnTo]
  | d + 1 => by
    have := turnTo_len xs step n d
    simp only [turnTo, List.length_append]
    split
    · unfold turnEl; split <;> simp <;> omega
    · simp; omega
theorem turnTo_mem {n : Nat} (xs : List Ev) (step : Int) (hn : xs.length = n) : ∀ d, d ≤ n → ∀ e, e ∈ turnTo xs step n d ↔ ∃ i, n - d ≤ i ∧ xs[i]? = some e
  | 0, _, e => by
    simp only [turnTo, List.not_mem_nil, false_iff, not_exists, not_and]
    intro i hi h
    have := (List.getElem?_eq_some_iff.1 h).1
    omega
  | d + 1, hd, e => by
    simp only [turnTo, List.mem_append, turnTo_mem xs step hn d (by omega)]
    obtain ⟨x, hx⟩ : ∃ x, xs[n - 1 - d]? = some x := ⟨_, List.getElem?_eq_getElem (by omega)⟩
    rw [hx]
    simp only
    have hmem : e ∈ turnEl step (n - 1 - d) x ↔ e = x := by unfold turnEl; split <;> simp
    rw [hmem]
    constructor
    · rintro (⟨i, hi, h⟩ | rfl)
      · exact ⟨i, by omega, h⟩
      · exact ⟨n - 1 - d, by omega, hx⟩
    · rintro ⟨i, hi, h⟩
      by_cases hid : i = n - 1 - d
      · right; rw [hid, hx] at h; simpa using h.symm
      · left; exact ⟨i, by omega, h⟩
theorem turned_set (xs : List Ev) (step : Int) : setOf (turnTo xs step xs.length xs.length) = setOf xs := by
  refine (set_isSet _).unique ((set_isSet xs).congr fun e => ?_)
  rw [turnTo_mem xs step rfl _ (Nat.le_refl _)]
  simp only [Nat.sub_self, Nat.zero_le, true_and]
  exact List.mem_iff_getElem?
theorem turned_pl (xs : List Ev) (step : Int) (h : PlOk xs) : PlOk (turnTo xs step xs.length xs.length) := fun e he => by
  obtain ⟨i, _, hi⟩ := (turnTo_mem xs step rfl _ (Nat.le_refl _) e).1 he
  exact h e (List.mem_of_getElem? hi)
attribute [local irreducible] turnTo
theorem turned_w (A : Option Addr) (n c : Nat) (xs : List Ev) (step : Int) (w : World) (hx : EvsAt w A n xs) (hn : n ≤ 10000) (hst : 0 ≤ step ∧ step ≤ 255) :
    Calls Try.prog 31 #[.slice A n c, .int .u8 step] w fun e w' => ∃ x : Option Addr × Nat, e = .returned (.slice x.1 (turnTo xs step n n).length x.2) ∧ Mem w [evRow x.1 x.2 (turnTo xs step n n)] w' := by
  have hl := hx.1
  have h0 : turnTo xs step n 0 = [] := by unfold turnTo; rfl
  have hs : ∀ d x, xs[n - 1 - d]? = some x → turnTo xs step n (d + 1) = turnTo xs step n d ++ turnEl step (n - 1 - d) x := fun d x hx => by conv => lhs; unfold turnTo; rw [hx]
  have hlen := turnTo_len xs step n
  generalize turnTo xs step n = T at *
  refine H_enter Try.func31 rfl Try.ntmps31 rfl ?_
  refine H_seq ?_
  refine R0 ?_
  refine xV (e_as (v := .slice _ _ _) (q0 rfl)) rfl rfl ?_
  refine XN ?_
  refine thenJ_normal ?_
  refine H_seq ?_
  refine R0 ?_
  refine xV (e_as (v := .slice _ _ _) (q0 rfl)) rfl rfl ?_
  refine XN ?_
  refine thenJ_normal ?_
  refine H_seq ?_
  refine H_seq ?_
  refine R0 ?_
  refine xV (e_mv (v := .slice _ _ _) (q0 rfl)) rfl rfl ?_
  refine xV (e_len Try.underlying25 (q0 rfl)) rfl rfl ?_
  refine xV (e_sub (q0 rfl) (q0 rfl) (fun _ => ⟨rfl, by omega, by omega⟩)) rfl rfl ?_
  refine xV (e_as (v := .int _ _) (q0 rfl)) rfl rfl ?_
  refine XN ?_
  refine thenJ_normal ?_
  refine H_block ?_
  refine H_loop [5, 6, 10, 11, 12, 13, 14, 15, 16, 17, 18, 19, 20, 21, 22, 23, 24, 25, 26, 27, 28, 29, 30, 31, 32, 33] (fun s : Nat × Option Addr × Nat => [(6, .int .i64 ((n : Int) - 1 - s.1)), (5, .slice s.2.1 (T s.1).length s.2.2)]) (fun s => [evRow s.2.1 s.2.2 (T s.1)]) (fun s => s.1 ≤ n) (fun s => n - s.1) (0, none, 0) ⟨by show Value.int .i64 ((n : Int) - 1) = Value.int .i64 ((n : Int) - 1 - 0); simp, by show _ = Value.slice none (T 0).length 0; rw [h0]; rfl, trivial⟩ (fun w hw => by show Mem _ [evRow none 0 (T 0)] w; rw [h0]; exact hw.nilRow _ _ _ rfl) rfl (Nat.zero_le _) ?_
  rintro s g hk
  refine H_seq ?_
  refine H_seq ?_
  refine R0 ?_
  refine xV (e_mv (v := .int _ _) (q0 rfl)) rfl rfl ?_
  refine xV (e_ge (q0 rfl) (q0 rfl)) rfl rfl ?_
  refine XN ?_
  refine thenJ_normal ?_
  refine H_cond rfl (fun hlt => ?_) (fun hlt => ?_)
  · have hlt' : s.1 < n := by simp at hlt; omega
    obtain ⟨i, hi⟩ : ∃ i : Nat, i = n - 1 - s.1 := ⟨_, rfl⟩
    have hin : (n : Int) - 1 - (s.1 : Int) = (i : Int) := by omega
    have hi2 : i < n := by omega
    obtain ⟨b, off, x, rfl, hbl, hxk, hrx⟩ := hx.at_ hi2
    have hst2 := hs s.1 x (by rw [← hi]; exact hxk)
    have hll := hlen s.1
    rw [← hi] at hst2
    rw [hin]
    refine H_skip ?_
    refine thenJ_normal ?_
    refine H_seq ?_
    refine H_block ?_
    refine H_seq ?_
    refine R0 ?_
    refine xV (e_mv (v := .slice _ _ _) (q0 rfl)) rfl rfl ?_
    refine xV (e_mv (v := .slice _ _ _) (q0 rfl)) rfl rfl ?_
    refine xV (e_mv (v := .int _ _) (q0 rfl)) rfl rfl ?_
    refine xV (e_idx _ Try.underlying25 Try.sizeOf67 (q0 rfl) (q0 rfl) (fun _ => ⟨rfl, by omega⟩)) rfl rfl ?_
    refine xV (e_lds Try.isAgg67 Try.sizeOf67 (q0 rfl) (by first | exact bxs 0 rfl | exact bxs 1 rfl | exact bxs 2 rfl | exact bxs 3 rfl | exact bxs 4 rfl | exact bxs 5 rfl | exact bxs 6 rfl | exact bxs 7 rfl | exact bxs 8 rfl | exact bxs 9 rfl | exact rcs ‹_› ‹_› | exact rrs 0 rfl ‹_› | exact rrs 1 rfl ‹_› | exact rrs 2 rfl ‹_› | exact rrs 3 rfl ‹_› | exact rrs 4 rfl ‹_› | exact rrs 5 rfl ‹_› | exact rrs 6 rfl ‹_› | exact rrs 7 rfl ‹_›) rfl) rfl rfl ?_
    refine X_push (k := 9) (i := Try.t67) 0 (x) Try.underlying25 (by kernel_rfl) rfl rfl rfl rfl Try.sizeOf67 Try.zeroValue67 rfl rfl rfl rfl rfl rfl ⟨by omega, by decide⟩ rfl rfl fun B A1 c1 => ?_
    refine xV (e_as (v := .slice _ _ _) (q0 rfl)) rfl rfl ?_
    refine XN ?_
    refine thenJ_normal ?_
    refine H_seq ?_
    refine R0 ?_
    refine xV (e_mv (v := .int _ _) (q0 rfl)) rfl rfl ?_
    refine xV (e_mv (v := .int _ _) (q0 rfl)) rfl rfl ?_
    refine xV (e_cvt Try.underlying5 Try.underlying3 (q0 rfl) (fun _ => by omega)) rfl rfl ?_
    refine xV (e_add (q0 rfl) (q0 rfl) (fun _ => ⟨rfl, by omega, by omega⟩)) rfl rfl ?_
    refine xV (e_rem (q0 rfl) (q0 rfl) (fun _ => by omega)) rfl rfl ?_
    refine xV (e_eq (q0 rfl) (q0 rfl)) rfl rfl ?_
    refine XN ?_
    refine thenJ_normal ?_
    refine H_cond rfl (fun hm => ?_) (fun hm => ?_)
    · have hm' : ((i : Int) + step) % 3 = 0 := by simpa using hm
      have hT : T (s.1 + 1) = T s.1 ++ [x] ++ [x] := by rw [hst2]; unfold turnEl; rw [if_pos hm']; simp
      refine R0 ?_
      refine xV (e_mv (v := .slice _ _ _) (q0 rfl)) rfl rfl ?_
      refine xV (e_mv (v := .slice _ _ _) (q0 rfl)) rfl rfl ?_
      refine xV (e_mv (v := .int _ _) (q0 rfl)) rfl rfl ?_
      refine xV (e_idx _ Try.underlying25 Try.sizeOf67 (q0 rfl) (q0 rfl) (fun _ => ⟨rfl, by omega⟩)) rfl rfl ?_
      refine xV (e_lds Try.isAgg67 Try.sizeOf67 (q0 rfl) (by first | exact bxs 0 rfl | exact bxs 1 rfl | exact bxs 2 rfl | exact bxs 3 rfl | exact bxs 4 rfl | exact bxs 5 rfl | exact bxs 6 rfl | exact bxs 7 rfl | exact bxs 8 rfl | exact bxs 9 rfl | exact rcs ‹_› ‹_› | exact rrs 0 rfl ‹_› | exact rrs 1 rfl ‹_› | exact rrs 2 rfl ‹_› | exact rrs 3 rfl ‹_› | exact rrs 4 rfl ‹_› | exact rrs 5 rfl ‹_› | exact rrs 6 rfl ‹_› | exact rrs 7 rfl ‹_›) rfl) rfl rfl ?_
      refine X_push (k := 9) (i := Try.t67) 0 (x) Try.underlying25 (by kernel_rfl) rfl rfl rfl rfl Try.sizeOf67 Try.zeroValue67 rfl rfl rfl rfl rfl rfl ⟨by simp; omega, by decide⟩ rfl rfl fun B2 A2 c2 => ?_
      refine xV (e_as (v := .slice _ _ _) (q0 rfl)) rfl rfl ?_
      refine XN ?_
      refine blockJ_normal ?_
      refine thenJ_normal ?_
      refine R0 ?_
      refine xV (e_mv (v := .int _ _) (q0 rfl)) rfl rfl ?_
      refine xV (e_sub (q0 rfl) (q0 rfl) (fun _ => ⟨rfl, by omega, by omega⟩)) rfl rfl ?_
      refine xV (e_as (v := .int _ _) (q0 rfl)) rfl rfl ?_
      refine XN ?_
      exact loopJ_normal (s.1 + 1, A2, c2) (by repeat (first | exact agree_self | exact agree_over | refine agree_upd rfl ?_ | refine agree_updL rfl ?_ | refine agree_over2 rfl ?_)) ⟨by show Value.int .i64 ((i : Int) - 1) = Value.int .i64 ((n : Int) - 1 - ((s.1 + 1 : Nat) : Int)); congr 1; omega, by show _ = Value.slice _ (T (s.1 + 1)).length _; rw [hT]; rfl, trivial⟩ (fun w hw => by show Mem _ [evRow A2 c2 (T (s.1 + 1))] w; rw [hT]; exact hw) rfl (by show s.1 + 1 ≤ n; omega) (by show n - (s.1 + 1) < n - s.1; omega)
    · have hm' : ¬ ((i : Int) + step) % 3 = 0 := by simpa using hm
      have hT : T (s.1 + 1) = T s.1 ++ [x] := by rw [hst2]; unfold turnEl; rw [if_neg hm']
      refine H_skip ?_
      refine blockJ_normal ?_
      refine thenJ_normal ?_
      refine R0 ?_
      refine xV (e_mv (v := .int _ _) (q0 rfl)) rfl rfl ?_
      refine xV (e_sub (q0 rfl) (q0 rfl) (fun _ => ⟨rfl, by omega, by omega⟩)) rfl rfl ?_
      refine xV (e_as (v := .int _ _) (q0 rfl)) rfl rfl ?_
      refine XN ?_
      exact loopJ_normal (s.1 + 1, A1, c1) (by repeat (first | exact agree_self | exact agree_over | refine agree_upd rfl ?_ | refine agree_updL rfl ?_ | refine agree_over2 rfl ?_)) ⟨by show Value.int .i64 ((i : Int) - 1) = Value.int .i64 ((n : Int) - 1 - ((s.1 + 1 : Nat) : Int)); congr 1; omega, by show _ = Value.slice _ (T (s.1 + 1)).length _; rw [hT]; rfl, trivial⟩ (fun w hw => by show Mem _ [evRow A1 c1 (T (s.1 + 1))] w; rw [hT]; exact hw) rfl (by show s.1 + 1 ≤ n; omega) (by show n - (s.1 + 1) < n - s.1; omega)
  · have hend : s.1 = n := by simp at hlt; omega
    refine H_exit ?_
    refine thenJ_exit ?_
    refine loopJ_exit ?_
    refine blockJ_hit ?_
    refine thenJ_normal ?_
    refine H_seq ?_
    refine R0 ?_
    refine xV (e_mv (v := .slice _ _ _) (q0 rfl)) rfl rfl ?_
    refine xV (e_as (v := .slice _ _ _) (q0 rfl)) rfl rfl ?_
    refine XN ?_
    refine thenJ_normal ?_
    refine H_ret ?_
    exact ret1 (v := .slice _ _ _) rfl rfl rfl fun w' hw => ⟨(s.2.1, s.2.2), by rw [← hend], by rw [← hend]; exact hw⟩

theorem slRow {α : Type} {e : TypeId} {k : Nat} {enc : α → List Value} {A : Option Addr} {xs : List α} {w0 w : World} {L : List E.Item} {j c : Nat} (h : Mem w0 L w) (hk : L[j]? = some (rowT e k enc A c xs)) (he : ∀ x, (enc x).length = k) : SlAt w k enc A xs.length xs :=
  slAt_row h hk he (by have := rowT_cap h hk; omega)
theorem ord_eq {f : Fl} {xs ys : List Ev} (h : setOf xs = setOf ys) (bike : Int) : spotsOf f xs = spotsOf f ys ∧ rejOf f xs = rejOf f ys ∧ staysOf f xs bike = staysOf f ys bike := by
  unfold spotsOf rejOf staysOf
  rw [h]
  exact ⟨rfl, rfl, rfl⟩
attribute [local irreducible] spotsOf rejOf staysOf flErr stayErr fewP
set_option maxRecDepth 20000 in
theorem order_w (f : Fl) (a : FA) (A : Option Addr) (n c : Nat) (xs : List Ev) (bike step : Int) (w : World) (hf : FlAt w f a) (hx : EvsAt w A n xs) (hpl : PlOk xs) (hst : 0 ≤ step ∧ step ≤ 255) :
    Calls Try.prog 7 #[.agg (f.cells a).toArray, .slice A n c, .int .i64 bike, .int .u8 step] w fun e w' => e = .returned (.bool true) ∧ Bel w w' := by
  have hl := hx.1
  refine H_enter Try.func7 rfl Try.ntmps7 rfl ?_
  refine H_seq ?_
  refine R0 ?_
  refine X_box (v := .agg _) rfl rfl fun b4 => ?_
  refine xV (e_as (v := .bool _) (q0 rfl)) rfl rfl ?_
  refine XN ?_
  refine thenJ_normal ?_
  refine H_seq ?_
  refine H_seq ?_
  refine R0 ?_
  refine xV (e_lds Try.isAgg24 Try.sizeOf24 (q0 rfl) (by first | exact bxs 0 rfl | exact bxs 1 rfl | exact bxs 2 rfl | exact bxs 3 rfl | exact bxs 4 rfl | exact bxs 5 rfl | exact bxs 6 rfl | exact bxs 7 rfl | exact bxs 8 rfl | exact bxs 9 rfl | exact rcs ‹_› ‹_› | exact rrs 0 rfl ‹_› | exact rrs 1 rfl ‹_› | exact rrs 2 rfl ‹_› | exact rrs 3 rfl ‹_› | exact rrs 4 rfl ‹_› | exact rrs 5 rfl ‹_› | exact rrs 6 rfl ‹_› | exact rrs 7 rfl ‹_›) rfl) rfl rfl ?_
  refine xV (e_mv (v := .slice _ _ _) (q0 rfl)) rfl rfl ?_
  refine xC (en Try.call12 (ha2 (q0 rfl) (q0 rfl))) (fun _ w _ => few_w f a A n c w) rfl rfl ?_
  refine xV (e_not (q0 rfl)) rfl rfl ?_
  refine xV (e_mv (v := .bool _) (q0 rfl)) rfl rfl ?_
  refine xVF (e_mv (v := .slice _ _ _) (q0 rfl)) rfl rfl rfl rfl ?_
  refine xVF (e_len Try.underlying25 (q1 rfl)) rfl rfl rfl rfl ?_
  refine xVF (e_gt (q1 rfl) (q0 rfl)) rfl rfl rfl rfl ?_
  refine xV (e_or (q0 rfl) rfl (fun h => by first | rfl | (rw [h]; rfl))) rfl rfl ?_
  refine XN ?_
  refine thenJ_normal ?_
  refine H_cond rfl (fun h1 => ?_) (fun h1 => ?_)
  · refine H_seq ?_
    refine R0 ?_
    refine xC (en Try.call13 (ha0)) (fun _ w _ => awake_w w) rfl rfl ?_
    refine xV (e_as (v := .bool _) (q0 rfl)) rfl rfl ?_
    refine XN ?_
    refine thenJ_normal ?_
    refine H_ret ?_
    refine thenJ_ret ?_
    exact ret1 (v := .bool _) rfl rfl rfl fun w' hw => ⟨rfl, hw.1⟩
  · have hn : n ≤ 40 := by
      have h2 : (!fewP a n || decide ((40 : Int) < n)) = false := h1
      simp at h2
      omega
    subst hl
    obtain ⟨e1, e2, e3⟩ := ord_eq (f := f) (turned_set xs step) bike
    have hlen := turnTo_len xs step xs.length xs.length
    have hpl2 := turned_pl xs step hpl
    refine H_skip ?_
    refine thenJ_normal ?_
    refine H_seq ?_
    refine R0 ?_
    refine xV (e_mv (v := .slice _ _ _) (q0 rfl)) rfl rfl ?_
    refine xV (e_mv (v := .int _ _) (q0 rfl)) rfl rfl ?_
    refine xCX (en Try.call31 (ha2 (q0 rfl) (q0 rfl))) (fun w hw => turned_w A xs.length c xs step w (hx.mem hw) (by omega) hst) rfl (fun _ => rfl) fun m => ?_
    refine xV (e_as (v := .slice _ _ _) (q0 rfl)) rfl rfl ?_
    refine XN ?_
    refine thenJ_normal ?_
    refine H_seq ?_
    refine R0 ?_
    refine xV (e_lds Try.isAgg24 Try.sizeOf24 (q0 rfl) (by first | exact bxs 0 rfl | exact bxs 1 rfl | exact bxs 2 rfl | exact bxs 3 rfl | exact bxs 4 rfl | exact bxs 5 rfl | exact bxs 6 rfl | exact bxs 7 rfl | exact bxs 8 rfl | exact bxs 9 rfl | exact rcs ‹_› ‹_› | exact rrs 0 rfl ‹_› | exact rrs 1 rfl ‹_› | exact rrs 2 rfl ‹_› | exact rrs 3 rfl ‹_› | exact rrs 4 rfl ‹_› | exact rrs 5 rfl ‹_› | exact rrs 6 rfl ‹_› | exact rrs 7 rfl ‹_›) rfl) rfl rfl ?_
    refine xV (e_mv (v := .slice _ _ _) (q0 rfl)) rfl rfl ?_
    refine xCX (en Try.call20 (ha2 (q0 rfl) (q0 rfl))) (fun w hw => spots_w f a A xs.length c xs w (hf.mem hw) (hx.mem hw) (by omega) hpl) rfl (fun _ => rfl) fun s1 => ?_
    refine xV (e_mv (q0 rfl)) rfl rfl ?_
    refine xV (e_ext (q0 rfl) rfl) rfl rfl ?_
    refine xV (e_ext (q0 rfl) rfl) rfl rfl ?_
    refine xV (e_as (v := .slice _ _ _) (q0 rfl)) rfl rfl ?_
    refine xV (e_as (v := .int _ _) (q0 rfl)) rfl rfl ?_
    refine XN ?_
    refine thenJ_normal ?_
    refine H_seq ?_
    refine R0 ?_
    refine xV (e_lds Try.isAgg24 Try.sizeOf24 (q0 rfl) (by first | exact bxs 0 rfl | exact bxs 1 rfl | exact bxs 2 rfl | exact bxs 3 rfl | exact bxs 4 rfl | exact bxs 5 rfl | exact bxs 6 rfl | exact bxs 7 rfl | exact bxs 8 rfl | exact bxs 9 rfl | exact rcs ‹_› ‹_› | exact rrs 0 rfl ‹_› | exact rrs 1 rfl ‹_› | exact rrs 2 rfl ‹_› | exact rrs 3 rfl ‹_› | exact rrs 4 rfl ‹_› | exact rrs 5 rfl ‹_› | exact rrs 6 rfl ‹_› | exact rrs 7 rfl ‹_›) rfl) rfl rfl ?_
    refine xV (e_mv (v := .slice _ _ _) (q0 rfl)) rfl rfl ?_
    refine xCX (en Try.call20 (ha2 (q0 rfl) (q0 rfl))) (fun w hw => spots_w f a m.1 _ m.2 (turnTo xs step xs.length xs.length) w (hf.mem hw) (slAt_row hw (j := 1) rfl (fun _ => rfl) (by omega)) (by omega) hpl2) rfl (fun _ => rfl) fun s2 => ?_
    refine xV (e_mv (q0 rfl)) rfl rfl ?_
    refine xV (e_ext (q0 rfl) rfl) rfl rfl ?_
    refine xV (e_ext (q0 rfl) rfl) rfl rfl ?_
    refine xV (e_as (v := .slice _ _ _) (q0 rfl)) rfl rfl ?_
    refine xV (e_as (v := .int _ _) (q0 rfl)) rfl rfl ?_
    refine XN ?_
    refine thenJ_normal ?_
    refine H_seq ?_
    refine R0 ?_
    refine xV (e_lds Try.isAgg24 Try.sizeOf24 (q0 rfl) (by first | exact bxs 0 rfl | exact bxs 1 rfl | exact bxs 2 rfl | exact bxs 3 rfl | exact bxs 4 rfl | exact bxs 5 rfl | exact bxs 6 rfl | exact bxs 7 rfl | exact bxs 8 rfl | exact bxs 9 rfl | exact rcs ‹_› ‹_› | exact rrs 0 rfl ‹_› | exact rrs 1 rfl ‹_› | exact rrs 2 rfl ‹_› | exact rrs 3 rfl ‹_› | exact rrs 4 rfl ‹_› | exact rrs 5 rfl ‹_› | exact rrs 6 rfl ‹_› | exact rrs 7 rfl ‹_›) rfl) rfl rfl ?_
    refine xV (e_mv (v := .slice _ _ _) (q0 rfl)) rfl rfl ?_
    refine xCX (en Try.call16 (ha2 (q0 rfl) (q0 rfl))) (fun w hw => rejected_w f a A xs.length c xs w (hf.mem hw) (hx.mem hw) (by omega) hpl) rfl (fun _ => rfl) fun s3 => ?_
    refine xV (e_mv (q0 rfl)) rfl rfl ?_
    refine xV (e_ext (q0 rfl) rfl) rfl rfl ?_
    refine xV (e_ext (q0 rfl) rfl) rfl rfl ?_
    refine xV (e_as (v := .slice _ _ _) (q0 rfl)) rfl rfl ?_
    refine xV (e_as (v := .int _ _) (q0 rfl)) rfl rfl ?_
    refine XN ?_
    refine thenJ_normal ?_
    refine H_seq ?_
    refine R0 ?_
    refine xV (e_lds Try.isAgg24 Try.sizeOf24 (q0 rfl) (by first | exact bxs 0 rfl | exact bxs 1 rfl | exact bxs 2 rfl | exact bxs 3 rfl | exact bxs 4 rfl | exact bxs 5 rfl | exact bxs 6 rfl | exact bxs 7 rfl | exact bxs 8 rfl | exact bxs 9 rfl | exact rcs ‹_› ‹_› | exact rrs 0 rfl ‹_› | exact rrs 1 rfl ‹_› | exact rrs 2 rfl ‹_› | exact rrs 3 rfl ‹_› | exact rrs 4 rfl ‹_› | exact rrs 5 rfl ‹_› | exact rrs 6 rfl ‹_› | exact rrs 7 rfl ‹_›) rfl) rfl rfl ?_
    refine xV (e_mv (v := .slice _ _ _) (q0 rfl)) rfl rfl ?_
    refine xCX (en Try.call16 (ha2 (q0 rfl) (q0 rfl))) (fun w hw => rejected_w f a m.1 _ m.2 (turnTo xs step xs.length xs.length) w (hf.mem hw) (slAt_row hw (j := 3) rfl (fun _ => rfl) (by omega)) (by omega) hpl2) rfl (fun _ => rfl) fun s4 => ?_
    refine xV (e_mv (q0 rfl)) rfl rfl ?_
    refine xV (e_ext (q0 rfl) rfl) rfl rfl ?_
    refine xV (e_ext (q0 rfl) rfl) rfl rfl ?_
    refine xV (e_as (v := .slice _ _ _) (q0 rfl)) rfl rfl ?_
    refine xV (e_as (v := .int _ _) (q0 rfl)) rfl rfl ?_
    refine XN ?_
    refine thenJ_normal ?_
    refine H_seq ?_
    refine R0 ?_
    refine xV (e_lds Try.isAgg24 Try.sizeOf24 (q0 rfl) (by first | exact bxs 0 rfl | exact bxs 1 rfl | exact bxs 2 rfl | exact bxs 3 rfl | exact bxs 4 rfl | exact bxs 5 rfl | exact bxs 6 rfl | exact bxs 7 rfl | exact bxs 8 rfl | exact bxs 9 rfl | exact rcs ‹_› ‹_› | exact rrs 0 rfl ‹_› | exact rrs 1 rfl ‹_› | exact rrs 2 rfl ‹_› | exact rrs 3 rfl ‹_› | exact rrs 4 rfl ‹_› | exact rrs 5 rfl ‹_› | exact rrs 6 rfl ‹_› | exact rrs 7 rfl ‹_›) rfl) rfl rfl ?_
    refine xV (e_mv (v := .slice _ _ _) (q0 rfl)) rfl rfl ?_
    refine xV (e_mv (v := .int _ _) (q0 rfl)) rfl rfl ?_
    refine xCX (en Try.call25 (ha3 (q0 rfl) (q0 rfl) (q0 rfl))) (fun w hw => stays_w f a A xs.length c xs bike w (hf.mem hw) (hx.mem hw) (by omega) hpl) rfl (fun _ => rfl) fun s5 => ?_
    refine xV (e_mv (q0 rfl)) rfl rfl ?_
    refine xV (e_ext (q0 rfl) rfl) rfl rfl ?_
    refine xV (e_ext (q0 rfl) rfl) rfl rfl ?_
    refine xV (e_as (v := .slice _ _ _) (q0 rfl)) rfl rfl ?_
    refine xV (e_as (v := .int _ _) (q0 rfl)) rfl rfl ?_
    refine XN ?_
    refine thenJ_normal ?_
    refine H_seq ?_
    refine R0 ?_
    refine xV (e_lds Try.isAgg24 Try.sizeOf24 (q0 rfl) (by first | exact bxs 0 rfl | exact bxs 1 rfl | exact bxs 2 rfl | exact bxs 3 rfl | exact bxs 4 rfl | exact bxs 5 rfl | exact bxs 6 rfl | exact bxs 7 rfl | exact bxs 8 rfl | exact bxs 9 rfl | exact rcs ‹_› ‹_› | exact rrs 0 rfl ‹_› | exact rrs 1 rfl ‹_› | exact rrs 2 rfl ‹_› | exact rrs 3 rfl ‹_› | exact rrs 4 rfl ‹_› | exact rrs 5 rfl ‹_› | exact rrs 6 rfl ‹_› | exact rrs 7 rfl ‹_›) rfl) rfl rfl ?_
    refine xV (e_mv (v := .slice _ _ _) (q0 rfl)) rfl rfl ?_
    refine xV (e_mv (v := .int _ _) (q0 rfl)) rfl rfl ?_
    refine xCX (en Try.call25 (ha3 (q0 rfl) (q0 rfl) (q0 rfl))) (fun w hw => stays_w f a m.1 _ m.2 (turnTo xs step xs.length xs.length) bike w (hf.mem hw) (slAt_row hw (j := 5) rfl (fun _ => rfl) (by omega)) (by omega) hpl2) rfl (fun _ => rfl) fun s6 => ?_
    rw [e1, e2, e3]
    refine xV (e_mv (q0 rfl)) rfl rfl ?_
    refine xV (e_ext (q0 rfl) rfl) rfl rfl ?_
    refine xV (e_ext (q0 rfl) rfl) rfl rfl ?_
    refine xV (e_as (v := .slice _ _ _) (q0 rfl)) rfl rfl ?_
    refine xV (e_as (v := .int _ _) (q0 rfl)) rfl rfl ?_
    refine XN ?_
    refine thenJ_normal ?_
    refine H_seq ?_
    refine R0 ?_
    refine xV (e_mv (v := .int _ _) (q0 rfl)) rfl rfl ?_
    refine xV (e_mv (v := .int _ _) (q0 rfl)) rfl rfl ?_
    refine xV (e_eq (q0 rfl) (q0 rfl)) rfl rfl ?_
    refine xV (e_mv (v := .bool _) (q0 rfl)) rfl rfl ?_
    refine xVT (e_mv (v := .int _ _) (q0 rfl)) rfl rfl rfl rfl ?_
    refine xVT (e_mv (v := .int _ _) (q0 rfl)) rfl rfl rfl rfl ?_
    refine xVT (e_eq (q1 rfl) (q1 rfl)) rfl rfl rfl rfl ?_
    refine xV (e_and (q0 rfl) rfl (fun h => by first | rfl | (rw [h]; rfl))) rfl rfl ?_
    refine xV (e_mv (v := .bool _) (q0 rfl)) rfl rfl ?_
    refine xVT (e_mv (v := .int _ _) (q0 rfl)) rfl rfl rfl rfl ?_
    refine xVT (e_mv (v := .int _ _) (q0 rfl)) rfl rfl rfl rfl ?_
    refine xVT (e_eq (q1 rfl) (q1 rfl)) rfl rfl rfl rfl ?_
    refine xV (e_and (q0 rfl) rfl (fun h => by first | rfl | (rw [h]; rfl))) rfl rfl ?_
    refine xV (e_mv (v := .bool _) (q0 rfl)) rfl rfl ?_
    refine xVT (e_mv (v := .slice _ _ _) (q0 rfl)) rfl rfl rfl rfl ?_
    refine xVT (e_mv (v := .slice _ _ _) (q0 rfl)) rfl rfl rfl rfl ?_
    refine xCT (en Try.call24 (ha2 (q1 (v := .slice _ _ _) rfl) (q1 (v := .slice _ _ _) rfl))) (fun _ w hw => sameSp_w s1.1 s2.1 _ _ s1.2 s2.2 (spotsOf f xs) (spotsOf f xs) w (slRow hw (j := 5) rfl (fun _ => rfl)) (slRow hw (j := 4) rfl (fun _ => rfl))) rfl rfl rfl rfl ?_
    refine xV (e_and (q0 rfl) rfl (fun h => by first | rfl | (rw [h]; rfl))) rfl rfl ?_
    refine xV (e_mv (v := .bool _) (q0 rfl)) rfl rfl ?_
    refine xVT (e_mv (v := .slice _ _ _) (q0 rfl)) rfl rfl rfl rfl ?_
    refine xVT (e_mv (v := .slice _ _ _) (q0 rfl)) rfl rfl rfl rfl ?_
    refine xCT (en Try.call19 (ha2 (q1 (v := .slice _ _ _) rfl) (q1 (v := .slice _ _ _) rfl))) (fun _ w hw => sameRj_w s3.1 s4.1 _ _ s3.2 s4.2 (rejOf f xs) (rejOf f xs) w (slRow hw (j := 3) rfl (fun _ => rfl)) (slRow hw (j := 2) rfl (fun _ => rfl))) rfl rfl rfl rfl ?_
    refine xV (e_and (q0 rfl) rfl (fun h => by first | rfl | (rw [h]; rfl))) rfl rfl ?_
    refine xV (e_mv (v := .bool _) (q0 rfl)) rfl rfl ?_
    refine xVT (e_mv (v := .slice _ _ _) (q0 rfl)) rfl rfl rfl rfl ?_
    refine xVT (e_mv (v := .slice _ _ _) (q0 rfl)) rfl rfl rfl rfl ?_
    refine xCT (en Try.call29 (ha2 (q1 (v := .slice _ _ _) rfl) (q1 (v := .slice _ _ _) rfl))) (fun _ w hw => sameSty_w s5.1 s6.1 _ _ s5.2 s6.2 (staysOf f xs bike) (staysOf f xs bike) w (slRow hw (j := 1) rfl (fun _ => rfl)) (slRow hw (j := 0) rfl (fun _ => rfl))) rfl rfl rfl rfl ?_
    refine xV (e_and (q0 rfl) rfl (fun h => by first | rfl | (rw [h]; rfl))) rfl rfl ?_
    refine xV (e_mv (v := .bool _) (q0 rfl)) rfl rfl ?_
    refine xCT (en Try.call13 (ha0)) (fun _ w _ => awake_w w) rfl rfl rfl rfl ?_
    refine xV (e_and (q0 rfl) rfl (fun h => by first | rfl | (rw [h]; rfl))) rfl rfl ?_
    refine xV (e_as (v := .bool _) (q0 rfl)) rfl rfl ?_
    refine XN ?_
    refine thenJ_normal ?_
    refine H_ret ?_
    exact ret1 (v := .bool _) rfl rfl rfl fun w' hw => ⟨ret_bool (by simp), hw.1⟩

end Go.Proofs.Cus
