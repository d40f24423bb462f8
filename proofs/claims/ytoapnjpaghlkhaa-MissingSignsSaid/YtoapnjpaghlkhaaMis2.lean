import Derived.Test.YtoapnjpaghlkhaaMis1
import Derived.Test.YtoapnjpaghlkhaaEng2
import Derived.Test.YtoapnjpaghlkhaaCusD
set_option linter.unusedVariables false
set_option linter.unusedSimpArgs false
/-
  The walks: the program's Reports, and the reference's.
-/
namespace Go.Proofs.Mis
open Go Go.RowKit Go.Proofs.E Go.Proofs.Cus

theorem fl49 {fs : Array Field} (h : Try.prog.underlying 49 = some (.struct fs) := by exact Try.underlying49) : FieldsLie Try.prog fs [(0, 1), (1, 1), (2, 1), (3, 1), (4, 1), (5, 1), (6, 1), (7, 1), (8, 1)] := by
  rw [Try.underlying49] at h
  cases h
  intro w
  kernel_rfl
theorem overOf_len (f : Fl) (xs : List Ev) (signs : List Sg) (si ri now : Int) : (overOf f xs signs si ri now).length ≤ 128 := by
  unfold overOf
  split
  · rename_i h
    have h1 := overL_len (accOf f xs) signs si ri now (stAtT f xs now).spots (nbOf f)
    obtain ⟨_, hok, _⟩ := over_ok h
    obtain ⟨hbk, -⟩ := flErr_ok hok
    have := nb_eq hok
    omega
  · simp
theorem repF {device seq now : Int} {bs : List Int} {n : Nat} (hn : n = bs.length) : ∃ F : Nat → List Ev, F 0 = [] ∧ F n = repL device seq now bs ∧ (∀ k b, bs[k]? = some b → F (k + 1) = F k ++ [repEv device seq now k b]) ∧ ∀ k, (F k).length ≤ n :=
  ⟨fun k => repL device seq now (bs.take k), rfl, by simp [hn], fun k b h => repL_snoc h, fun k => by rw [repL_len]; simp; omega⟩
attribute [local irreducible] seenP notices accOf flErr sv chkP overErr overL begunP spotsOf upTo overOf
set_option maxRecDepth 20000 in
theorem reports_w (f : Fl) (a : FA) (A : Option Addr) (n c : Nat) (xs : List Ev) (sA : Option Addr) (sn sc : Nat) (signs : List Sg) (si ri now device seq : Int) (w : World) (hf : FlAt w f a) (hx : EvsAt w A n xs) (hs : SgsAt w sA sn signs) (hn : n ≤ 1000) (hpl : PlOk xs) :
    Calls Try.prog 19 #[.agg (f.cells a).toArray, .slice A n c, .slice sA sn sc, .agg (paV si ri).toArray, .int .i64 now, .int .i64 device, .int .i64 seq] w fun r w' => ∃ x : Option Addr × Nat, r = .returned (.tuple #[.slice x.1 (repOf f xs signs si ri now device seq).length x.2, .int .i64 (repErr f xs signs si ri now device seq)]) ∧ Mem w [evRow x.1 x.2 (repOf f xs signs si ri now device seq)] w' := by
  have hlen := overOf_len f xs signs si ri now
  refine H_enter Try.func19 rfl Try.ntmps19 rfl ?_
  refine H_seq ?_
  refine R0 ?_
  refine X_box (v := .agg _) rfl rfl fun b7 => ?_
  refine X_box (v := .agg _) rfl rfl fun b10 => ?_
  refine xV (e_as (v := .slice _ _ _) (q0 rfl)) rfl rfl ?_
  refine xV (e_as (v := .int _ _) (q0 rfl)) rfl rfl ?_
  refine XN ?_
  refine thenJ_normal ?_
  refine H_seq ?_
  refine R0 ?_
  refine xV (eS Try.isAgg24 Try.sizeOf24 (q0 rfl)) rfl rfl ?_
  refine xV (e_mv (v := .slice _ _ _) (q0 rfl)) rfl rfl ?_
  refine xV (e_mv (v := .slice _ _ _) (q0 rfl)) rfl rfl ?_
  refine xV (eS Try.isAgg34 Try.sizeOf34 (q0 rfl)) rfl rfl ?_
  refine xV (e_mv (v := .int _ _) (q0 rfl)) rfl rfl ?_
  refine xCX (en Try.call14 (fun _ => rfl)) (fun w hw => overdue_w f a A n c xs sA sn sc signs si ri now w (hf.mem hw) (hx.mem hw) (hs.mem hw) hn hpl) rfl (fun _ => rfl) fun r1 => ?_
  refine xV (e_mv (q0 rfl)) rfl rfl ?_
  refine xV (e_ext (q0 rfl) rfl) rfl rfl ?_
  refine xV (e_ext (q0 rfl) rfl) rfl rfl ?_
  refine xV (e_as (v := .slice _ _ _) (q0 rfl)) rfl rfl ?_
  refine xV (e_as (v := .int _ _) (q0 rfl)) rfl rfl ?_
  refine XN ?_
  refine thenJ_normal ?_
  refine H_seq ?_
  refine H_seq ?_
  refine R0 ?_
  refine xV (e_mv (v := .int _ _) (q0 rfl)) rfl rfl ?_
  refine xV (e_ne (q0 rfl) (q0 rfl)) rfl rfl ?_
  refine XN ?_
  refine thenJ_normal ?_
  refine H_cond rfl (fun h1 => ?_) (fun h1 => ?_)
  · have h1' : overErr f si ri now ≠ 0 := by simpa using h1
    have he : repErr f xs signs si ri now device seq = overErr f si ri now := by unfold repErr; rw [if_pos h1']
    have ho : repOf f xs signs si ri now device seq = [] := by unfold repOf; rw [he, if_neg h1']
    rw [he, ho]
    refine H_seq ?_
    refine R0 ?_
    refine xV (e_mv (v := .int _ _) (q0 rfl)) rfl rfl ?_
    refine xV (e_as (v := .slice _ _ _) (q0 rfl)) rfl rfl ?_
    refine xV (e_as (v := .int _ _) (q0 rfl)) rfl rfl ?_
    refine XN ?_
    refine thenJ_normal ?_
    refine H_ret ?_
    refine thenJ_ret ?_
    exact ret2 (v := .slice _ _ _) (x := .int _ _) rfl rfl rfl rfl fun w' hw => ⟨(none, 0), rfl, (mem_nil.2 hw.1).nilRow _ _ _ rfl⟩
  · have h1' : overErr f si ri now = 0 := by simpa using h1
    refine H_skip ?_
    refine thenJ_normal ?_
    refine H_seq ?_
    refine H_seq ?_
    refine R0 ?_
    refine xV (e_mv (v := .int _ _) (q0 rfl)) rfl rfl ?_
    refine xV (e_lt (q0 rfl) (q0 rfl)) rfl rfl ?_
    refine xV (e_mv (v := .bool _) (q0 rfl)) rfl rfl ?_
    refine xVF (e_mv (v := .int _ _) (q0 rfl)) rfl rfl rfl rfl ?_
    refine xVF (e_fld Try.underlying24 rfl Try.sizeOf3 rfl (q0 rfl)) rfl rfl rfl rfl ?_
    refine xVF (eL Try.isAgg3 (q1 rfl)) rfl rfl rfl rfl ?_
    refine xVF (e_ge (q1 rfl) (q1 rfl)) rfl rfl rfl rfl ?_
    refine xV (e_or (q0 rfl) rfl (fun h => by first | rfl | (rw [h]; rfl))) rfl rfl ?_
    refine xV (e_mv (v := .bool _) (q0 rfl)) rfl rfl ?_
    refine xVF (e_mv (v := .int _ _) (q0 rfl)) rfl rfl rfl rfl ?_
    refine xVF (e_lt (q1 rfl) (q0 rfl)) rfl rfl rfl rfl ?_
    refine xV (e_or (q0 rfl) rfl (fun h => by first | rfl | (rw [h]; rfl))) rfl rfl ?_
    refine xV (e_mv (v := .bool _) (q0 rfl)) rfl rfl ?_
    refine xVF (e_mv (v := .int _ _) (q0 rfl)) rfl rfl rfl rfl ?_
    refine xVF (e_gt (q1 rfl) (q0 rfl)) rfl rfl rfl rfl ?_
    refine xV (e_or (q0 rfl) rfl (fun h => by first | rfl | (rw [h]; rfl))) rfl rfl ?_
    refine xV (e_mv (v := .bool _) (q0 rfl)) rfl rfl ?_
    refine xVF (e_mv (v := .int _ _) (q0 rfl)) rfl rfl rfl rfl ?_
    refine xVF (e_mv (v := .slice _ _ _) (q0 rfl)) rfl rfl rfl rfl ?_
    refine xVF (e_len Try.underlying22 (q1 rfl)) rfl rfl rfl rfl ?_
    refine xVF (e_add (q1 rfl) (q1 rfl) (r := seq + (overOf f xs signs si ri now).length) (fun hg => by simp at hg; exact ⟨rfl, by omega, by omega⟩)) rfl rfl rfl rfl ?_
    refine xVF (e_sub (q1 rfl) (q0 rfl) (r := seq + (overOf f xs signs si ri now).length - 1) (fun hg => by simp at hg; exact ⟨rfl, by omega, by omega⟩)) rfl rfl rfl rfl ?_
    refine xVF (e_gt (q1 rfl) (q0 rfl)) rfl rfl rfl rfl ?_
    refine xV (e_or (q0 rfl) rfl (fun h => by first | rfl | (rw [h]; rfl))) rfl rfl ?_
    refine XN ?_
    refine thenJ_normal ?_
    refine H_cond rfl (fun h2 => ?_) (fun h2 => ?_)
    · have he : repErr f xs signs si ri now device seq = 1 := by unfold repErr; rw [if_neg (fun h => h h1'), if_pos h2]
      have ho : repOf f xs signs si ri now device seq = [] := by unfold repOf; rw [he, if_neg (by decide)]
      rw [he, ho]
      refine H_seq ?_
      refine R0 ?_
      refine xV (e_as (v := .slice _ _ _) (q0 rfl)) rfl rfl ?_
      refine xV (e_as (v := .int _ _) (q0 rfl)) rfl rfl ?_
      refine XN ?_
      refine thenJ_normal ?_
      refine H_ret ?_
      refine thenJ_ret ?_
      exact ret2 (v := .slice _ _ _) (x := .int _ _) rfl rfl rfl rfl fun w' hw => ⟨(none, 0), rfl, (mem_nil.2 hw.1).nilRow _ _ _ rfl⟩
    · have he : repErr f xs signs si ri now device seq = 0 := by unfold repErr; rw [if_neg (fun h => h h1'), if_neg (by rw [h2]; decide)]
      have ho : repOf f xs signs si ri now device seq = repL device seq now (overOf f xs signs si ri now) := by unfold repOf; rw [if_pos he]
      have hsq : 1 ≤ seq ∧ seq ≤ 1048576 := by simp at h2; omega
      rw [he, ho]
      generalize overOf f xs signs si ri now = bs at *
      obtain ⟨F, hF0, hFn, hFs, hFl⟩ := repF (device := device) (seq := seq) (now := now) (bs := bs) rfl
      rw [← hFn]
      obtain ⟨r11, r12⟩ := r1
      refine H_skip ?_
      refine thenJ_normal ?_
      refine H_seq ?_
      refine R0 ?_
      refine xV (e_as (v := .slice _ _ _) (q0 rfl)) rfl rfl ?_
      refine XN ?_
      refine thenJ_normal ?_
      refine H_seq ?_
      refine H_seq ?_
      refine R0 ?_
      refine xV (e_mv (v := .slice _ _ _) (q0 rfl)) rfl rfl ?_
      refine xV (e_len Try.underlying22 (q0 rfl)) rfl rfl ?_
      refine xV (e_mv (v := .int _ _) (q0 rfl)) rfl rfl ?_
      refine XN ?_
      refine thenJ_normal ?_
      refine H_block ?_
      refine H_loop [18, 19, 20, 59, 60, 61, 62, 63, 64, 65, 66, 67, 68, 69, 70, 71, 72, 73, 74, 75] (fun q : Nat × Option Addr × Nat => [(59, .int .i64 q.1), (18, .slice q.2.1 (F q.1).length q.2.2)]) (fun q => [evRow q.2.1 q.2.2 (F q.1), inRow r11 r12 bs]) (fun q => q.1 ≤ bs.length) (fun q => bs.length - q.1) (0, none, 0) ⟨rfl, by show _ = Value.slice none (F 0).length 0; rw [hF0]; rfl, trivial⟩ (fun w hw => by show Mem _ (evRow none 0 (F 0) :: _) w; rw [hF0]; exact (hw.pick [0] (by decide)).nilRow _ _ _ rfl) rfl (Nat.zero_le _) ?_
      rintro ⟨k, oA, oc⟩ g hk
      simp only at hk
      refine H_seq ?_
      refine R0 ?_
      refine xV (e_lt (q0 rfl) (q0 rfl)) rfl rfl ?_
      refine XN ?_
      refine thenJ_normal ?_
      refine H_seq ?_
      refine H_cond rfl (fun hlt => ?_) (fun hlt => ?_)
      · have hlt' : k < bs.length := by simpa using hlt
        obtain ⟨b, hb⟩ : ∃ b, bs[k]? = some b := ⟨_, List.getElem?_eq_getElem hlt'⟩
        have hs2 := hFs k b hb
        have hl2 := hFl k
        refine H_know (fun w hw => rowT_at (j := 1) hw rfl (by omega)) fun ⟨rb, hrb⟩ => ?_
        subst hrb
        refine H_skip ?_
        refine thenJ_normal ?_
        refine H_seq ?_
        refine H_block ?_
        refine H_seq ?_
        refine R0 ?_
        refine xV (e_mv (v := .int _ _) (q0 rfl)) rfl rfl ?_
        refine xV (e_idx _ Try.underlying22 Try.sizeOf3 (q0 rfl) (q0 rfl) (fun _ => ⟨rfl, by omega⟩)) rfl rfl ?_
        refine xV (e_ld (v := .int .i64 b) Try.isAgg3 (q0 rfl) (by exact rr0 1 (k := 1) (enc := encInt) rfl hb rfl)) rfl rfl ?_
        refine xV (e_as (v := .int _ _) (q0 rfl)) rfl rfl ?_
        refine xV (e_as (v := .int _ _) (q0 rfl)) rfl rfl ?_
        refine XN ?_
        refine thenJ_normal ?_
        refine R0 ?_
        refine xV (e_mv (v := .slice _ _ _) (q0 rfl)) rfl rfl ?_
        refine xV (e_mv (v := .int _ _) (q0 rfl)) rfl rfl ?_
        refine xV (e_mv (v := .int _ _) (q0 rfl)) rfl rfl ?_
        refine xV (e_mv (v := .int _ _) (q0 rfl)) rfl rfl ?_
        refine xV (e_add (q0 rfl) (q0 rfl) (fun _ => ⟨rfl, by omega, by omega⟩)) rfl rfl ?_
        refine xV (e_mv (v := .int _ _) (q0 rfl)) rfl rfl ?_
        refine xV (e_mv (v := .int _ _) (q0 rfl)) rfl rfl ?_
        refine xV (e_mv (v := .int _ _) (q0 rfl)) rfl rfl ?_
        refine xV (e_build Try.underlying49 fl49 Try.zeroValue49 (pt (v := .int _ _) rfl (pt (v := .int _ _) rfl (pt (v := .int _ _) rfl (pt (v := .int _ _) rfl (pt (v := .int _ _) rfl (pt (v := .int _ _) rfl E.p0)))))) rfl) rfl rfl ?_
        refine X_push (k := 9) (i := Try.t49) 0 ((repEv device seq now k b)) Try.underlying25 (by kernel_rfl) rfl rfl rfl rfl Try.sizeOf49 Try.zeroValue49 rfl rfl rfl rfl rfl rfl ⟨by simp only; omega, by decide⟩ rfl rfl fun PB A1 c1 => ?_
        refine xV (e_as (v := .slice _ _ _) (q0 rfl)) rfl rfl ?_
        refine XN ?_
        refine blockJ_normal ?_
        refine thenJ_normal ?_
        refine R0 ?_
        refine xV (e_add (q0 rfl) (q0 rfl) (fun _ => ⟨rfl, by omega, by omega⟩)) rfl rfl ?_
        refine xV (e_mv (v := .int _ _) (q0 rfl)) rfl rfl ?_
        refine XN ?_
        exact loopJ_normal (k + 1, A1, c1) (by repeat (first | exact agree_self | exact agree_over | refine agree_upd rfl ?_ | refine agree_updL rfl ?_ | refine agree_over2 rfl ?_)) ⟨rfl, by show _ = Value.slice A1 (F (k + 1)).length c1; rw [hs2]; rfl, trivial⟩ (fun w hw => by show Mem _ (evRow A1 c1 (F (k + 1)) :: _) w; rw [hs2]; exact hw) rfl (by show k + 1 ≤ _; omega) (by show bs.length - (k + 1) < bs.length - k; omega)
      · have hend : k = bs.length := by simp at hlt; omega
        subst hend
        refine H_exit ?_
        refine thenJ_exit ?_
        refine loopJ_exit ?_
        refine blockJ_hit ?_
        refine thenJ_normal ?_
        refine H_seq ?_
        refine R0 ?_
        refine xV (e_mv (v := .slice _ _ _) (q0 rfl)) rfl rfl ?_
        refine xV (e_as (v := .slice _ _ _) (q0 rfl)) rfl rfl ?_
        refine xV (e_as (v := .int _ _) (q0 rfl)) rfl rfl ?_
        refine XN ?_
        refine thenJ_normal ?_
        refine H_ret ?_
        exact ret2 (v := .slice _ _ _) (x := .int _ _) rfl rfl rfl rfl fun w' hw => ⟨(oA, oc), rfl, hw.pick [0] (by decide)⟩

end Go.Proofs.Mis

/-
  The walks: the reference's begun, Overdue, Reports, Ints and Has.
-/
namespace Go.Proofs.Mis
open Go Go.RowKit Go.Proofs.E Go.Proofs.Cus

theorem find_first {α : Type} {p : α → Bool} : ∀ {l : List α} {k : Nat} {e : α}, (l.take k).find? p = none → l[k]? = some e → p e = true → l.find? p = some e
  | x :: l, 0, e, _, h, hp => by simp at h; subst h; rw [List.find?_cons_of_pos hp]
  | x :: l, k + 1, e, hn, h, hp => by
    rw [List.take_succ_cons, List.find?_cons] at hn
    cases hx : p x with
    | true => rw [hx] at hn; cases hn
    | false => rw [hx] at hn; rw [List.find?_cons_of_neg (by rw [hx]; decide)]; exact find_first hn (by simpa using h) hp
theorem rbegun_w (A : Option Addr) (n c : Nat) (xs : List Ev) (ride : Int) (w : World) (hx : EvsAt w A n xs) :
    Calls Try.prog 35 #[.slice A n c, .int .i64 ride] w fun e w' => e = .returned (.int .i64 (begunP xs ride)) ∧ Bel w w' := by
  have hl := hx.1
  have hn := hx.2.1
  refine H_enter Try.func35 rfl Try.ntmps35 rfl ?_
  refine H_seq ?_
  refine R0 ?_
  refine xV (e_as (v := .int _ _) (q0 rfl)) rfl rfl ?_
  refine XN ?_
  refine thenJ_normal ?_
  refine H_seq ?_
  refine H_seq ?_
  refine R0 ?_
  refine xV (e_as (v := .int _ _) (q0 rfl)) rfl rfl ?_
  refine XN ?_
  refine thenJ_normal ?_
  refine H_block ?_
  refine H_loop [4, 5, 6, 7, 8, 9, 10, 11, 12, 13, 14, 15, 16, 17, 18, 19, 20, 21, 22, 23, 24, 25, 26, 27, 28, 29, 30, 31] (fun k : Nat => [(5, .int .i64 k)]) (fun _ => []) (fun k => k ≤ n ∧ (xs.take k).find? (isStart ride) = none) (fun k => n - k) 0 ⟨rfl, trivial⟩ (fun _ h => h) rfl ⟨Nat.zero_le _, rfl⟩ ?_
  rintro k g ⟨hk, hnone⟩
  refine H_seq ?_
  refine H_seq ?_
  refine R0 ?_
  refine xV (e_mv (v := .int _ _) (q0 rfl)) rfl rfl ?_
  refine xV (e_mv (v := .slice _ _ _) (q0 rfl)) rfl rfl ?_
  refine xV (e_len Try.underlying25 (q0 rfl)) rfl rfl ?_
  refine xV (e_lt (q0 rfl) (q0 rfl)) rfl rfl ?_
  refine XN ?_
  refine thenJ_normal ?_
  refine H_cond rfl (fun hlt => ?_) (fun hlt => ?_)
  · have hlt' : k < n := by simpa using hlt
    obtain ⟨b, off, e, rfl, hbl, he, hre⟩ := hx.at_ hlt'
    refine H_skip ?_
    refine thenJ_normal ?_
    refine H_seq ?_
    refine H_block ?_
    refine H_seq ?_
    refine R0 ?_
    refine xV (e_mv (v := .slice _ _ _) (q0 rfl)) rfl rfl ?_
    refine xV (e_mv (v := .int _ _) (q0 rfl)) rfl rfl ?_
    refine xV (e_idx _ Try.underlying25 Try.sizeOf49 (q0 rfl) (q0 rfl) (fun _ => ⟨rfl, by omega⟩)) rfl rfl ?_
    refine xV (e_fld Try.underlying49 rfl Try.sizeOf3 rfl (q0 rfl)) rfl rfl ?_
    refine xV (eL Try.isAgg3 (q0 rfl)) rfl rfl ?_
    refine xV (e_eq (q0 rfl) (q0 rfl)) rfl rfl ?_
    refine xV (e_mv (v := .bool _) (q0 rfl)) rfl rfl ?_
    refine xVT (e_mv (v := .slice _ _ _) (q0 rfl)) rfl rfl rfl rfl ?_
    refine xVT (e_mv (v := .int _ _) (q0 rfl)) rfl rfl rfl rfl ?_
    refine xVT (e_idx _ Try.underlying25 Try.sizeOf49 (q1 rfl) (q1 rfl) (fun _ => ⟨rfl, by omega⟩)) rfl rfl rfl rfl ?_
    refine xVT (e_fld Try.underlying49 rfl Try.sizeOf3 rfl (q1 rfl)) rfl rfl rfl rfl ?_
    refine xVT (eL Try.isAgg3 (q1 rfl)) rfl rfl rfl rfl ?_
    refine xVT (e_mv (v := .int _ _) (q0 rfl)) rfl rfl rfl rfl ?_
    refine xVT (e_eq (q1 rfl) (q1 rfl)) rfl rfl rfl rfl ?_
    refine xV (e_and (q0 rfl) rfl (fun h => by first | rfl | (rw [h]; rfl))) rfl rfl ?_
    refine XN ?_
    refine thenJ_normal ?_
    refine H_cond rfl (fun hb => ?_) (fun hb => ?_)
    · have hs : isStart ride e = true := by unfold isStart; exact hb
      have hbe : begunP xs ride = e.at_ := by unfold begunP; rw [find_first hnone he hs]; rfl
      refine H_seq ?_
      refine R0 ?_
      refine xV (e_mv (v := .slice _ _ _) (q0 rfl)) rfl rfl ?_
      refine xV (e_mv (v := .int _ _) (q0 rfl)) rfl rfl ?_
      refine xV (e_idx _ Try.underlying25 Try.sizeOf49 (q0 rfl) (q0 rfl) (fun _ => ⟨rfl, by omega⟩)) rfl rfl ?_
      refine xV (e_fld Try.underlying49 rfl Try.sizeOf3 rfl (q0 rfl)) rfl rfl ?_
      refine xV (eL Try.isAgg3 (q0 rfl)) rfl rfl ?_
      refine xV (e_as (v := .int _ _) (q0 rfl)) rfl rfl ?_
      refine XN ?_
      refine thenJ_normal ?_
      refine H_ret ?_
      refine blockJ_ret ?_
      refine thenJ_ret ?_
      refine loopJ_ret ?_
      refine blockJ_ret ?_
      refine thenJ_ret ?_
      exact ret1 (v := .int _ _) rfl rfl rfl fun w' hw => ⟨ret_int hbe.symm, hw.1⟩
    · refine H_skip ?_
      refine blockJ_normal ?_
      refine thenJ_normal ?_
      refine R0 ?_
      refine xV (e_mv (v := .int _ _) (q0 rfl)) rfl rfl ?_
      refine xV (e_add (q0 rfl) (q0 rfl) (fun _ => ⟨rfl, by omega, by omega⟩)) rfl rfl ?_
      refine xV (e_as (v := .int _ _) (q0 rfl)) rfl rfl ?_
      refine XN ?_
      exact loopJ_normal (k + 1) (by repeat (first | exact agree_self | exact agree_over | refine agree_upd rfl ?_ | refine agree_updL rfl ?_ | refine agree_over2 rfl ?_)) ⟨rfl, trivial⟩ (fun w hw => mem_nil.2 hw.1) rfl ⟨by omega, by rw [take_snoc _ _ _ he, List.find?_append, hnone]; have hs : isStart ride e = false := hb; simp [hs]⟩ (by show n - (k + 1) < n - k; omega)
  · have hend : k = n := by simp at hlt; omega
    rw [hend, ← hl, List.take_length] at hnone
    refine H_exit ?_
    refine thenJ_exit ?_
    refine loopJ_exit ?_
    refine blockJ_hit ?_
    refine thenJ_normal ?_
    refine H_seq ?_
    refine R0 ?_
    refine xV (e_as (v := .int _ _) (q0 rfl)) rfl rfl ?_
    refine XN ?_
    refine thenJ_normal ?_
    refine H_ret ?_
    exact ret1 (v := .int _ _) rfl rfl rfl fun w' hw => ⟨ret_int (by unfold begunP; rw [hnone]; rfl), hw.1⟩
theorem at_spot {f : Fl} {xs : List Ev} {now : Int} {k : Nat} (hok : flErr f = 0) (hn : 0 ≤ now ∧ now ≤ 4294943999) (hk : k < nbOf f) : atErr f k now = 0 ∧ atOf f xs k now = (stAtT f xs now).spots.getD k default := by
  have hnb := nb_eq hok
  have he : atErr f k now = 0 := by
    unfold atErr
    rw [if_neg (fun h => h hok), if_neg (by simp; omega), if_neg (by simp; omega)]
  refine ⟨he, ?_⟩
  unfold atOf
  rw [if_pos he, spots_until hok]
  simp
attribute [local irreducible] seenP notices accOf flErr sv chkP overErr overL begunP spotsOf upTo atOf atErr
set_option maxHeartbeats 1000000 in
set_option maxRecDepth 20000 in
theorem roverdue_w (f : Fl) (a : FA) (A : Option Addr) (n c : Nat) (xs : List Ev) (sA : Option Addr) (sn sc : Nat) (signs : List Sg) (si ri now : Int) (w : World) (hf : FlAt w f a) (hx : EvsAt w A n xs) (hs : SgsAt w sA sn signs) (hn : n ≤ 1000) (hpl : PlOk xs) :
    Calls Try.prog 15 #[.agg (f.cells a).toArray, .slice A n c, .slice sA sn sc, .agg (paV si ri).toArray, .int .i64 now] w fun r w' => ∃ x : Option Addr × Nat, r = .returned (.tuple #[.slice x.1 (overOf f xs signs si ri now).length x.2, .int .i64 (overErr f si ri now)]) ∧ Mem w [inRow x.1 x.2 (overOf f xs signs si ri now)] w' := by
  have hxl := hx.1
  have hal := accOf_len f xs
  refine H_enter Try.func15 rfl Try.ntmps15 rfl ?_
  refine H_seq ?_
  refine R0 ?_
  refine X_box (v := .agg _) rfl rfl fun b5 => ?_
  refine X_box (v := .agg _) rfl rfl fun b8 => ?_
  refine xV (e_as (v := .slice _ _ _) (q0 rfl)) rfl rfl ?_
  refine xV (e_as (v := .int _ _) (q0 rfl)) rfl rfl ?_
  refine XN ?_
  refine thenJ_normal ?_
  refine H_seq ?_
  refine H_seq ?_
  refine R0 ?_
  refine xV (eS Try.isAgg34 Try.sizeOf34 (q0 rfl)) rfl rfl ?_
  refine xC (en Try.call18 (ha1 (q0 rfl))) (fun _ w _ => rcheck_w si ri w) rfl rfl ?_
  refine xV (e_as (v := .int _ _) (q0 rfl)) rfl rfl ?_
  refine XN ?_
  refine thenJ_normal ?_
  refine H_seq ?_
  refine R0 ?_
  refine xV (e_mv (v := .int _ _) (q0 rfl)) rfl rfl ?_
  refine xV (e_ne (q0 rfl) (q0 rfl)) rfl rfl ?_
  refine XN ?_
  refine thenJ_normal ?_
  refine H_cond rfl (fun h1 => ?_) (fun h1 => ?_)
  · have h1' : chkP si ri ≠ 0 := by simpa using h1
    have he : overErr f si ri now = chkP si ri := by unfold overErr; rw [if_pos h1']
    have ho : overOf f xs signs si ri now = [] := by unfold overOf; rw [he, if_neg h1']
    rw [he, ho]
    refine H_seq ?_
    refine R0 ?_
    refine xV (e_mv (v := .int _ _) (q0 rfl)) rfl rfl ?_
    refine xV (e_as (v := .slice _ _ _) (q0 rfl)) rfl rfl ?_
    refine xV (e_as (v := .int _ _) (q0 rfl)) rfl rfl ?_
    refine XN ?_
    refine thenJ_normal ?_
    refine H_ret ?_
    refine thenJ_ret ?_
    exact ret2 (v := .slice _ _ _) (x := .int _ _) rfl rfl rfl rfl fun w' hw => ⟨(none, 0), rfl, (mem_nil.2 hw.1).nilRow _ _ _ rfl⟩
  · have h1' : chkP si ri = 0 := by simpa using h1
    refine H_skip ?_
    refine thenJ_normal ?_
    refine H_seq ?_
    refine R0 ?_
    refine xV (eS Try.isAgg24 Try.sizeOf24 (q0 rfl)) rfl rfl ?_
    refine xV (e_mv (v := .slice _ _ _) (q0 rfl)) rfl rfl ?_
    refine xCX (en Try.call30 (ha2 (q0 rfl) (q0 rfl))) (fun w hw => raccepted_w f a A n c xs w (hf.mem hw) (hx.mem hw) (by omega) hpl) rfl (fun _ => rfl) fun r1 => ?_
    refine xV (e_mv (q0 rfl)) rfl rfl ?_
    refine xV (e_ext (q0 rfl) rfl) rfl rfl ?_
    refine xV (e_ext (q0 rfl) rfl) rfl rfl ?_
    refine xV (e_as (v := .slice _ _ _) (q0 rfl)) rfl rfl ?_
    refine xV (e_as (v := .int _ _) (q0 rfl)) rfl rfl ?_
    refine XN ?_
    refine thenJ_normal ?_
    refine H_seq ?_
    refine H_seq ?_
    refine R0 ?_
    refine xV (e_mv (v := .int _ _) (q0 rfl)) rfl rfl ?_
    refine xV (e_ne (q0 rfl) (q0 rfl)) rfl rfl ?_
    refine XN ?_
    refine thenJ_normal ?_
    refine H_cond rfl (fun h2 => ?_) (fun h2 => ?_)
    · have h2' : flErr f ≠ 0 := by simpa using h2
      have he : overErr f si ri now = flErr f := by unfold overErr; rw [if_neg (fun h => h h1'), if_pos h2']
      have ho : overOf f xs signs si ri now = [] := by unfold overOf; rw [he, if_neg h2']
      rw [he, ho]
      refine H_seq ?_
      refine R0 ?_
      refine xV (e_mv (v := .int _ _) (q0 rfl)) rfl rfl ?_
      refine xV (e_as (v := .slice _ _ _) (q0 rfl)) rfl rfl ?_
      refine xV (e_as (v := .int _ _) (q0 rfl)) rfl rfl ?_
      refine XN ?_
      refine thenJ_normal ?_
      refine H_ret ?_
      refine thenJ_ret ?_
      exact ret2 (v := .slice _ _ _) (x := .int _ _) rfl rfl rfl rfl fun w' hw => ⟨(none, 0), rfl, (mem_nil.2 hw.1).nilRow _ _ _ rfl⟩
    · have h2' : flErr f = 0 := by simpa using h2
      obtain ⟨hbk, -⟩ := flErr_ok h2'
      have hnb := nb_eq h2'
      refine H_skip ?_
      refine thenJ_normal ?_
      refine H_seq ?_
      refine H_seq ?_
      refine R0 ?_
      refine xV (e_mv (v := .int _ _) (q0 rfl)) rfl rfl ?_
      refine xV (e_lt (q0 rfl) (q0 rfl)) rfl rfl ?_
      refine xV (e_mv (v := .bool _) (q0 rfl)) rfl rfl ?_
      refine xVF (e_mv (v := .int _ _) (q0 rfl)) rfl rfl rfl rfl ?_
      refine xVF (e_gt (q1 rfl) (q0 rfl)) rfl rfl rfl rfl ?_
      refine xV (e_or (q0 rfl) rfl (fun h => by first | rfl | (rw [h]; rfl))) rfl rfl ?_
      refine XN ?_
      refine thenJ_normal ?_
      refine H_cond rfl (fun h3 => ?_) (fun h3 => ?_)
      · have he : overErr f si ri now = 1 := by unfold overErr; rw [if_neg (fun h => h h1'), if_neg (fun h => h h2'), if_pos h3]
        have ho : overOf f xs signs si ri now = [] := by unfold overOf; rw [he, if_neg (by decide)]
        rw [he, ho]
        refine H_seq ?_
        refine R0 ?_
        refine xV (e_as (v := .slice _ _ _) (q0 rfl)) rfl rfl ?_
        refine xV (e_as (v := .int _ _) (q0 rfl)) rfl rfl ?_
        refine XN ?_
        refine thenJ_normal ?_
        refine H_ret ?_
        refine thenJ_ret ?_
        exact ret2 (v := .slice _ _ _) (x := .int _ _) rfl rfl rfl rfl fun w' hw => ⟨(none, 0), rfl, (mem_nil.2 hw.1).nilRow _ _ _ rfl⟩
      · have he : overErr f si ri now = 0 := by unfold overErr; rw [if_neg (fun h => h h1'), if_neg (fun h => h h2'), if_neg (by rw [h3]; decide)]
        have ho : overOf f xs signs si ri now = overL (accOf f xs) signs si ri now (stAtT f xs now).spots (nbOf f) := by unfold overOf; rw [if_pos he]
        obtain ⟨_, _, hn0, hnM⟩ := over_ok he
        rw [he, ho]
        obtain ⟨hrep, _⟩ := replay_of h2' xs (fun _ => ())
        have hspl : (stAtT f xs now).spots.length = nbOf f := (runR_inv (cb := nobCb) (nb_eq h2') _ _ (PInv.begin _)).len
        have hat := fun k => at_spot (xs := xs) (k := k) h2' ⟨hn0, hnM⟩
        generalize hsp0 : (stAtT f xs now).spots = sp at *
        generalize hac0 : accOf f xs = acc at *
        have hbb := begun_bound hrep
        obtain ⟨r11, r12⟩ := r1
        have hO0 : overL acc signs si ri now sp 0 = [] := by unfold overL; rfl
        refine H_skip ?_
        refine thenJ_normal ?_
        refine H_seq ?_
        refine R0 ?_
        refine xV (e_as (v := .slice _ _ _) (q0 rfl)) rfl rfl ?_
        refine XN ?_
        refine thenJ_normal ?_
        refine H_seq ?_
        refine H_seq ?_
        refine R0 ?_
        refine xV (e_as (v := .int _ _) (q0 rfl)) rfl rfl ?_
        refine XN ?_
        refine thenJ_normal ?_
        refine H_block ?_
        refine H_loop [15, 16, 17, 18, 19, 40, 41, 42, 43, 44, 45, 46, 47, 48, 49, 50, 51, 52, 53, 54, 55, 56, 57, 58, 59, 60, 61, 62, 63, 64, 65, 66, 67, 68, 69, 70, 71, 72, 73, 74, 75, 76, 77, 78, 79, 80, 81, 82, 83, 84, 85, 86, 87, 88, 89, 90, 91, 92, 93, 94] (fun q : Nat × Option Addr × Nat => [(16, .int .i64 q.1), (15, .slice q.2.1 (overL acc signs si ri now sp q.1).length q.2.2)]) (fun q => [inRow q.2.1 q.2.2 (overL acc signs si ri now sp q.1), evRow r11 r12 acc, box b8 34 (paV si ri), box b5 24 (f.cells a)]) (fun q => q.1 ≤ nbOf f) (fun q => nbOf f - q.1) (0, none, 0) ⟨rfl, by show _ = Value.slice none (overL acc signs si ri now sp 0).length 0; rw [hO0]; rfl, trivial⟩ (fun w hw => by show Mem _ (inRow none 0 (overL acc signs si ri now sp 0) :: _) w; rw [hO0]; exact hw.nilRow _ _ _ rfl) rfl (Nat.zero_le _) ?_
        rintro ⟨k, oA, oc⟩ g hk
        simp only at hk
        refine H_seq ?_
        refine H_seq ?_
        refine R0 ?_
        refine xV (e_mv (v := .int _ _) (q0 rfl)) rfl rfl ?_
        refine xV (e_fld Try.underlying24 rfl Try.sizeOf3 rfl (q0 rfl)) rfl rfl ?_
        refine xV (eL Try.isAgg3 (q0 rfl)) rfl rfl ?_
        refine xV (e_lt (q0 rfl) (q0 rfl)) rfl rfl ?_
        refine XN ?_
        refine thenJ_normal ?_
        refine H_cond rfl (fun hlt => ?_) (fun hlt => ?_)
        · have hlt' : k < nbOf f := by simp at hlt; omega
          obtain ⟨x, hxk⟩ : ∃ x, sp[k]? = some x := ⟨_, List.getElem?_eq_getElem (by omega)⟩
          obtain ⟨hae, hao⟩ := hat k hlt'
          rw [spSel hxk] at hao
          have hsvb := sv_bound (notices acc signs) k now hn0
          have hbx := hbb x.ride
          have hsn := overL_snoc acc signs si ri now sp k
          rw [spSel hxk] at hsn
          have hll := overL_len acc signs si ri now sp k
          refine H_skip ?_
          refine thenJ_normal ?_
          refine H_seq ?_
          refine H_block ?_
          refine H_seq ?_
          refine R0 ?_
          refine xV (eS Try.isAgg24 Try.sizeOf24 (q0 rfl)) rfl rfl ?_
          refine xV (e_mv (v := .slice _ _ _) (q0 rfl)) rfl rfl ?_
          refine xV (e_mv (v := .int _ _) (q0 rfl)) rfl rfl ?_
          refine xV (e_mv (v := .int _ _) (q0 rfl)) rfl rfl ?_
          refine xC (en Try.call34 (ha4 (q0 rfl) (q0 rfl) (q0 rfl) (q0 rfl))) (fun _ w hm => (rat_w f a A n c xs k now w (hf.mem hm) (hx.mem hm) (by omega) hpl)) rfl rfl ?_
          refine xV (e_mv (q0 rfl)) rfl rfl ?_
          refine xV (e_ext (q0 rfl) rfl) rfl rfl ?_
          refine xV (e_ext (q0 rfl) rfl) rfl rfl ?_
          refine X_alloc Try.zeroValue55 rfl fun b17 => ?_
          refine X_st (v := .agg _) rfl rfl Try.sizeOf55 ?_
          refine xV (e_as (v := .int _ _) (q0 rfl)) rfl rfl ?_
          refine XN ?_
          refine thenJ_normal ?_
          refine H_seq ?_
          rw [hao]
          refine R0 ?_
          refine xV (e_fld Try.underlying55 rfl Try.sizeOf3 rfl (q0 rfl)) rfl rfl ?_
          refine xV (eL Try.isAgg3 (q0 rfl)) rfl rfl ?_
          refine xV (e_eq (q0 rfl) (q0 rfl)) rfl rfl ?_
          refine xV (e_mv (v := .bool _) (q0 rfl)) rfl rfl ?_
          refine xVF (e_fld Try.underlying55 rfl Try.sizeOf3 rfl (q0 rfl)) rfl rfl rfl rfl ?_
          refine xVF (eL Try.isAgg3 (q1 rfl)) rfl rfl rfl rfl ?_
          refine xVF (e_eq (q1 rfl) (q0 rfl)) rfl rfl rfl rfl ?_
          refine xV (e_or (q0 rfl) rfl (fun h => by first | rfl | (rw [h]; rfl))) rfl rfl ?_
          refine xV (e_as (v := .bool _) (q0 rfl)) rfl rfl ?_
          refine XN ?_
          refine thenJ_normal ?_
          refine H_seq ?_
          refine R1 rfl (by decide +kernel) ?_
          refine xV (e_mv (v := .bool _) (q0 rfl)) rfl rfl ?_
          refine xV (e_mv (v := .bool _) (q0 rfl)) rfl rfl ?_
          refine xVT (e_mv (v := .int _ _) (q0 rfl)) rfl rfl rfl rfl ?_
          refine xVT (e_mv (v := .slice _ _ _) (q0 rfl)) rfl rfl rfl rfl ?_
          refine xVT (e_mv (v := .slice _ _ _) (q0 rfl)) rfl rfl rfl rfl ?_
          refine xVT (e_mv (v := .int _ _) (q0 rfl)) rfl rfl rfl rfl ?_
          refine xVT (e_mv (v := .int _ _) (q0 rfl)) rfl rfl rfl rfl ?_
          refine xCT (en Try.call31 (ha4 (q1 (v := .slice _ _ _) rfl) (q1 (v := .slice _ _ _) rfl) (q1 (v := .int _ _) rfl) (q1 (v := .int _ _) rfl))) (fun _ w hm => rseen_w f (nbOf f) r11 _ r12 acc sA sn sc signs k now w hnb hrep (slAt_row hm (j := 2) rfl (fun _ => rfl) (by omega)) (hs.mem hm)) rfl rfl rfl rfl ?_
          refine xVT (e_sub (q1 rfl) (q1 rfl) (fun _ => ⟨rfl, by omega, by omega⟩)) rfl rfl rfl rfl ?_
          refine xVT (e_fld Try.underlying34 rfl Try.sizeOf3 rfl (q0 rfl)) rfl rfl rfl rfl ?_
          refine xVT (eL Try.isAgg3 (q1 rfl)) rfl rfl rfl rfl ?_
          refine xVT (e_gt (q1 rfl) (q1 rfl)) rfl rfl rfl rfl ?_
          refine xV (e_and (q0 rfl) rfl (fun h => by first | rfl | (rw [h]; rfl))) rfl rfl ?_
          refine xV (e_mv (v := .bool _) (q0 rfl)) rfl rfl ?_
          refine xVF (e_fld Try.underlying55 rfl Try.sizeOf3 rfl (q0 rfl)) rfl rfl rfl rfl ?_
          refine xVF (eL Try.isAgg3 (q1 rfl)) rfl rfl rfl rfl ?_
          refine xVF (e_eq (q1 rfl) (q0 rfl)) rfl rfl rfl rfl ?_
          refine xVF (e_mv (v := .bool _) (q1 rfl)) rfl rfl rfl rfl ?_
          refine xVT2 (e_mv (v := .int _ _) (q0 rfl)) rfl rfl rfl rfl ?_
          refine xVT2 (e_mv (v := .slice _ _ _) (q0 rfl)) rfl rfl rfl rfl ?_
          refine xVT2 (e_fld Try.underlying55 rfl Try.sizeOf3 rfl (q0 rfl)) rfl rfl rfl rfl ?_
          refine xVT2 (eL Try.isAgg3 (q1 rfl)) rfl rfl rfl rfl ?_
          refine xCT2 (en Try.call35 (ha2 (q1 (v := .slice _ _ _) rfl) (q1 (v := .int _ _) rfl))) (fun _ w hm => rbegun_w r11 _ r12 acc x.ride w (slAt_row hm (j := 2) rfl (fun _ => rfl) (by omega))) rfl rfl rfl rfl ?_
          refine xVT2 (e_sub (q1 rfl) (q1 rfl) (fun _ => ⟨rfl, by omega, by omega⟩)) rfl rfl rfl rfl ?_
          refine xVT2 (e_fld Try.underlying34 rfl Try.sizeOf3 rfl (q0 rfl)) rfl rfl rfl rfl ?_
          refine xVT2 (eL Try.isAgg3 (q1 rfl)) rfl rfl rfl rfl ?_
          refine xVT2 (e_gt (q1 rfl) (q1 rfl)) rfl rfl rfl rfl ?_
          refine xVF (e_and (q1 rfl) rfl (fun h => by first | rfl | (rw [h]; rfl))) rfl rfl rfl rfl ?_
          refine xV (e_or (q0 rfl) rfl (fun h => by first | rfl | (rw [h]; rfl))) rfl rfl ?_
          refine XN ?_
          refine thenJ_normal ?_
          refine H_cond rfl (fun hb1 => ?_) (fun hb1 => ?_)
          · rw [if_pos (by unfold lateP; exact hb1)] at hsn
            refine R0 ?_
            refine xV (e_mv (v := .slice _ _ _) (q0 rfl)) rfl rfl ?_
            refine xV (e_mv (v := .int _ _) (q0 rfl)) rfl rfl ?_
            refine X_push (k := 1) (i := Try.t3) 1 ((k : Int)) Try.underlying22 (by kernel_rfl) rfl rfl rfl rfl Try.sizeOf3 Try.zeroValue3 rfl rfl rfl rfl rfl rfl ⟨by simp only; omega, by decide⟩ rfl rfl fun PB A1 c1 => ?_
            refine xV (e_as (v := .slice _ _ _) (q0 rfl)) rfl rfl ?_
            refine XN ?_
            refine blockJ_normal ?_
            refine thenJ_normal ?_
            refine R0 ?_
            refine xV (e_mv (v := .int _ _) (q0 rfl)) rfl rfl ?_
            refine xV (e_add (q0 rfl) (q0 rfl) (fun _ => ⟨rfl, by omega, by omega⟩)) rfl rfl ?_
            refine xV (e_as (v := .int _ _) (q0 rfl)) rfl rfl ?_
            refine XN ?_
            exact loopJ_normal (k + 1, A1, c1) (by repeat (first | exact agree_self | exact agree_over | refine agree_upd rfl ?_ | refine agree_updL rfl ?_ | refine agree_over2 rfl ?_)) ⟨rfl, by show _ = Value.slice A1 (overL acc signs si ri now sp (k + 1)).length c1; rw [hsn]; rfl, trivial⟩ (fun w hw => by show Mem _ (inRow A1 c1 (overL acc signs si ri now sp (k + 1)) :: _) w; rw [hsn]; exact hw.pick [1, 2, 3, 4] (by decide)) rfl (by show k + 1 ≤ _; omega) (by show nbOf f - (k + 1) < nbOf f - k; omega)
          · have hl2 : lateP acc signs si ri now k x = false := hb1
            rw [if_neg (by rw [hl2]; decide), List.append_nil] at hsn
            refine H_skip ?_
            refine blockJ_normal ?_
            refine thenJ_normal ?_
            refine R0 ?_
            refine xV (e_mv (v := .int _ _) (q0 rfl)) rfl rfl ?_
            refine xV (e_add (q0 rfl) (q0 rfl) (fun _ => ⟨rfl, by omega, by omega⟩)) rfl rfl ?_
            refine xV (e_as (v := .int _ _) (q0 rfl)) rfl rfl ?_
            refine XN ?_
            exact loopJ_normal (k + 1, oA, oc) (by repeat (first | exact agree_self | exact agree_over | refine agree_upd rfl ?_ | refine agree_updL rfl ?_ | refine agree_over2 rfl ?_)) ⟨rfl, by show _ = Value.slice oA (overL acc signs si ri now sp (k + 1)).length oc; rw [hsn]; rfl, trivial⟩ (fun w hw => by show Mem _ (inRow oA oc (overL acc signs si ri now sp (k + 1)) :: _) w; rw [hsn]; exact hw.pick [1, 2, 3, 4] (by decide)) rfl (by show k + 1 ≤ _; omega) (by show nbOf f - (k + 1) < nbOf f - k; omega)
        · have hend2 : k = nbOf f := by simp at hlt; omega
          subst hend2
          refine H_exit ?_
          refine thenJ_exit ?_
          refine loopJ_exit ?_
          refine blockJ_hit ?_
          refine thenJ_normal ?_
          refine H_seq ?_
          refine R0 ?_
          refine xV (e_mv (v := .slice _ _ _) (q0 rfl)) rfl rfl ?_
          refine xV (e_as (v := .slice _ _ _) (q0 rfl)) rfl rfl ?_
          refine xV (e_as (v := .int _ _) (q0 rfl)) rfl rfl ?_
          refine XN ?_
          refine thenJ_normal ?_
          refine H_ret ?_
          exact ret2 (v := .slice _ _ _) (x := .int _ _) rfl rfl rfl rfl fun w' hw => ⟨(oA, oc), rfl, hw.pick [0] (by decide)⟩
theorem has_w (A : Option Addr) (n c : Nat) (xs : List Int) (v : Int) (w : World) (hx : IntsAt w A n xs) :
    Calls Try.prog 22 #[.slice A n c, .int .i64 v] w fun e w' => e = .returned (.bool (decide (v ∈ xs))) ∧ Bel w w' := by
  have hl := hx.1
  have hn := hx.2.1
  refine H_enter Try.func22 rfl Try.ntmps22 rfl ?_
  refine H_seq ?_
  refine R0 ?_
  refine xV (e_as (v := .bool _) (q0 rfl)) rfl rfl ?_
  refine XN ?_
  refine thenJ_normal ?_
  refine H_seq ?_
  refine H_seq ?_
  refine R0 ?_
  refine xV (e_as (v := .int _ _) (q0 rfl)) rfl rfl ?_
  refine XN ?_
  refine thenJ_normal ?_
  refine H_block ?_
  refine H_loop [4, 5, 6, 7, 8, 9, 10, 11, 12, 13, 14, 15, 16, 17] (fun k : Nat => [(5, .int .i64 k)]) (fun _ => []) (fun k => k ≤ n ∧ v ∉ xs.take k) (fun k => n - k) 0 ⟨rfl, trivial⟩ (fun _ h => h) rfl ⟨Nat.zero_le _, by simp⟩ ?_
  rintro k g ⟨hk, hno⟩
  refine H_seq ?_
  refine H_seq ?_
  refine R0 ?_
  refine xV (e_mv (v := .int _ _) (q0 rfl)) rfl rfl ?_
  refine xV (e_mv (v := .slice _ _ _) (q0 rfl)) rfl rfl ?_
  refine xV (e_len Try.underlying22 (q0 rfl)) rfl rfl ?_
  refine xV (e_lt (q0 rfl) (q0 rfl)) rfl rfl ?_
  refine XN ?_
  refine thenJ_normal ?_
  refine H_cond rfl (fun hlt => ?_) (fun hlt => ?_)
  · have hlt' : k < n := by simpa using hlt
    obtain ⟨b, off, y, rfl, hbl, hy, hry⟩ := hx.at_ hlt'
    refine H_skip ?_
    refine thenJ_normal ?_
    refine H_seq ?_
    refine H_block ?_
    refine H_seq ?_
    refine R0 ?_
    refine xV (e_mv (v := .slice _ _ _) (q0 rfl)) rfl rfl ?_
    refine xV (e_mv (v := .int _ _) (q0 rfl)) rfl rfl ?_
    refine xV (e_idx _ Try.underlying22 Try.sizeOf3 (q0 rfl) (q0 rfl) (fun _ => ⟨rfl, by omega⟩)) rfl rfl ?_
    refine xV (e_ld (v := .int .i64 y) Try.isAgg3 (q0 rfl) (rc0 hry hbl rfl)) rfl rfl ?_
    refine xV (e_mv (v := .int _ _) (q0 rfl)) rfl rfl ?_
    refine xV (e_eq (q0 rfl) (q0 rfl)) rfl rfl ?_
    refine XN ?_
    refine thenJ_normal ?_
    refine H_cond rfl (fun hb => ?_) (fun hb => ?_)
    · have hyv : y = v := by simpa using hb
      refine H_seq ?_
      refine R0 ?_
      refine xV (e_as (v := .bool _) (q0 rfl)) rfl rfl ?_
      refine XN ?_
      refine thenJ_normal ?_
      refine H_ret ?_
      refine blockJ_ret ?_
      refine thenJ_ret ?_
      refine loopJ_ret ?_
      refine blockJ_ret ?_
      refine thenJ_ret ?_
      exact ret1 (v := .bool _) rfl rfl rfl fun w' hw => ⟨ret_bool (by rw [eq_comm, decide_eq_true_eq, ← hyv]; exact List.mem_of_getElem? hy), hw.1⟩
    · have hyv : ¬ y = v := by simpa using hb
      refine H_skip ?_
      refine blockJ_normal ?_
      refine thenJ_normal ?_
      refine R0 ?_
      refine xV (e_mv (v := .int _ _) (q0 rfl)) rfl rfl ?_
      refine xV (e_add (q0 rfl) (q0 rfl) (fun _ => ⟨rfl, by omega, by omega⟩)) rfl rfl ?_
      refine xV (e_as (v := .int _ _) (q0 rfl)) rfl rfl ?_
      refine XN ?_
      exact loopJ_normal (k + 1) (by repeat (first | exact agree_self | exact agree_over | refine agree_upd rfl ?_ | refine agree_updL rfl ?_ | refine agree_over2 rfl ?_)) ⟨rfl, trivial⟩ (fun w hw => mem_nil.2 hw.1) rfl ⟨by omega, by rw [take_snoc _ _ _ hy, List.mem_append]; simp; exact ⟨by simpa using hno, fun e => hyv e.symm⟩⟩ (by show n - (k + 1) < n - k; omega)
  · have hend : k = n := by simp at hlt; omega
    rw [hend, ← hl, List.take_length] at hno
    refine H_exit ?_
    refine thenJ_exit ?_
    refine loopJ_exit ?_
    refine blockJ_hit ?_
    refine thenJ_normal ?_
    refine H_seq ?_
    refine R0 ?_
    refine xV (e_as (v := .bool _) (q0 rfl)) rfl rfl ?_
    refine XN ?_
    refine thenJ_normal ?_
    refine H_ret ?_
    exact ret1 (v := .bool _) rfl rfl rfl fun w' hw => ⟨ret_bool (by rw [eq_comm, decide_eq_false_iff_not]; exact hno), hw.1⟩
theorem ints_w (A B : Option Addr) (n m c d : Nat) (xs ys : List Int) (w : World) (hx : IntsAt w A n xs) (hy : IntsAt w B m ys) :
    Calls Try.prog 16 #[.slice A n c, .slice B m d] w fun e w' => e = .returned (.bool (decide (xs = ys))) ∧ Bel w w' := by
  have hl := hx.1
  have hn := hx.2.1
  have hl2 := hy.1
  refine H_enter Try.func16 rfl Try.ntmps16 rfl ?_
  refine H_seq ?_
  refine R0 ?_
  refine xV (e_as (v := .bool _) (q0 rfl)) rfl rfl ?_
  refine XN ?_
  refine thenJ_normal ?_
  refine H_seq ?_
  refine H_seq ?_
  refine R0 ?_
  refine xV (e_mv (v := .slice _ _ _) (q0 rfl)) rfl rfl ?_
  refine xV (e_len Try.underlying22 (q0 rfl)) rfl rfl ?_
  refine xV (e_mv (v := .slice _ _ _) (q0 rfl)) rfl rfl ?_
  refine xV (e_len Try.underlying22 (q0 rfl)) rfl rfl ?_
  refine xV (e_ne (q0 rfl) (q0 rfl)) rfl rfl ?_
  refine XN ?_
  refine thenJ_normal ?_
  refine H_cond rfl (fun h1 => ?_) (fun h1 => ?_)
  · refine H_seq ?_
    refine R0 ?_
    refine xV (e_as (v := .bool _) (q0 rfl)) rfl rfl ?_
    refine XN ?_
    refine thenJ_normal ?_
    refine H_ret ?_
    refine thenJ_ret ?_
    exact ret1 (v := .bool _) rfl rfl rfl fun w' hw => ⟨ret_bool (by
      rw [eq_comm, decide_eq_false_iff_not]
      intro e
      rw [e] at hl
      simp at h1
      omega), hw.1⟩
  · have hnm : n = m := by simp at h1; omega
    subst hnm
    refine H_skip ?_
    refine thenJ_normal ?_
    refine H_seq ?_
    refine H_seq ?_
    refine R0 ?_
    refine xV (e_as (v := .int _ _) (q0 rfl)) rfl rfl ?_
    refine XN ?_
    refine thenJ_normal ?_
    refine H_block ?_
    refine H_loop [4, 5, 11, 12, 13, 14, 15, 16, 17, 18, 19, 20, 21, 22, 23, 24, 25] (fun k : Nat => [(5, .int .i64 k)]) (fun _ => []) (fun k => k ≤ n ∧ xs.take k = ys.take k) (fun k => n - k) 0 ⟨rfl, trivial⟩ (fun _ h => h) rfl ⟨Nat.zero_le _, rfl⟩ ?_
    rintro k g ⟨hk, hall⟩
    refine H_seq ?_
    refine H_seq ?_
    refine R0 ?_
    refine xV (e_mv (v := .int _ _) (q0 rfl)) rfl rfl ?_
    refine xV (e_mv (v := .slice _ _ _) (q0 rfl)) rfl rfl ?_
    refine xV (e_len Try.underlying22 (q0 rfl)) rfl rfl ?_
    refine xV (e_lt (q0 rfl) (q0 rfl)) rfl rfl ?_
    refine XN ?_
    refine thenJ_normal ?_
    refine H_cond rfl (fun hlt => ?_) (fun hlt => ?_)
    · simp at hlt
      obtain ⟨b, off, x, rfl, hbl, hxk, hrx⟩ := hx.at_ hlt
      obtain ⟨b2, off2, y, rfl, hbl2, hyk, hry⟩ := hy.at_ hlt
      refine H_skip ?_
      refine thenJ_normal ?_
      refine H_seq ?_
      refine H_block ?_
      refine H_seq ?_
      refine R1 rfl (by decide +kernel) ?_
      refine xV (e_mv (v := .slice _ _ _) (q0 rfl)) rfl rfl ?_
      refine xV (e_mv (v := .int _ _) (q0 rfl)) rfl rfl ?_
      refine xV (e_idx _ Try.underlying22 Try.sizeOf3 (q0 rfl) (q0 rfl) (fun _ => ⟨rfl, by omega⟩)) rfl rfl ?_
      refine xV (e_ld (v := .int .i64 x) Try.isAgg3 (q0 rfl) (rc0 hrx hbl rfl)) rfl rfl ?_
      refine xV (e_mv (v := .slice _ _ _) (q0 rfl)) rfl rfl ?_
      refine xV (e_mv (v := .int _ _) (q0 rfl)) rfl rfl ?_
      refine xV (e_idx _ Try.underlying22 Try.sizeOf3 (q0 rfl) (q0 rfl) (fun _ => ⟨rfl, by omega⟩)) rfl rfl ?_
      refine xV (e_ld (v := .int .i64 y) Try.isAgg3 (q0 rfl) (rc0 hry hbl2 rfl)) rfl rfl ?_
      refine xV (e_ne (q0 rfl) (q0 rfl)) rfl rfl ?_
      refine XN ?_
      refine thenJ_normal ?_
      refine H_cond rfl (fun hb => ?_) (fun hb => ?_)
      · refine H_seq ?_
        refine R0 ?_
        refine xV (e_as (v := .bool _) (q0 rfl)) rfl rfl ?_
        refine XN ?_
        refine thenJ_normal ?_
        refine H_ret ?_
        refine blockJ_ret ?_
        refine thenJ_ret ?_
        refine loopJ_ret ?_
        refine blockJ_ret ?_
        refine thenJ_ret ?_
        exact ret1 (v := .bool _) rfl rfl rfl fun w' hw => ⟨ret_bool (by
          rw [eq_comm, decide_eq_false_iff_not]
          intro e
          rw [e, hyk] at hxk
          cases hxk
          simp at hb), hw.1⟩
      · have hxy : x = y := by simpa using hb
        refine H_skip ?_
        refine blockJ_normal ?_
        refine thenJ_normal ?_
        refine R0 ?_
        refine xV (e_mv (v := .int _ _) (q0 rfl)) rfl rfl ?_
        refine xV (e_add (q0 rfl) (q0 rfl) (fun _ => ⟨rfl, by omega, by omega⟩)) rfl rfl ?_
        refine xV (e_as (v := .int _ _) (q0 rfl)) rfl rfl ?_
        refine XN ?_
        exact loopJ_normal (k + 1) (by repeat (first | exact agree_self | exact agree_over | refine agree_upd rfl ?_ | refine agree_updL rfl ?_ | refine agree_over2 rfl ?_)) ⟨rfl, trivial⟩ (fun w hw => mem_nil.2 hw.1) rfl ⟨by omega, by rw [take_snoc _ _ _ hxk, take_snoc _ _ _ hyk, hall, hxy]⟩ (by show n - (k + 1) < n - k; omega)
    · obtain rfl : k = n := by simp at hlt; omega
      refine H_exit ?_
      refine thenJ_exit ?_
      refine loopJ_exit ?_
      refine blockJ_hit ?_
      refine thenJ_normal ?_
      refine H_seq ?_
      refine R0 ?_
      refine xV (e_as (v := .bool _) (q0 rfl)) rfl rfl ?_
      refine XN ?_
      refine thenJ_normal ?_
      refine H_ret ?_
      exact ret1 (v := .bool _) rfl rfl rfl fun w' hw => ⟨ret_bool (by
        rw [eq_comm, decide_eq_true_eq]
        rw [List.take_of_length_le (by omega), List.take_of_length_le (by omega)] at hall
        exact hall), hw.1⟩

end Go.Proofs.Mis

/-
  The walks: the laws' own functions: few, before; lists of events compared; the chapter's examples.
-/
namespace Go.Proofs.Mis
open Go Go.RowKit Go.Proofs.E Go.Proofs.Cus

deriving instance DecidableEq for Ev
deriving instance Inhabited for Ev
theorem same18_w_eq (x y : Ev) (w : World) : (Op.equal 49 (.agg (Ev.cells x).toArray) (.agg (Ev.cells y).toArray)).run Try.prog w = .ok (decide (x = y)) w := by
  have h : (Op.equalIn 10000 49 (.agg (Ev.cells x).toArray) (.agg (Ev.cells y).toArray)).run Try.prog w = .ok ((x.device == y.device && (x.seq == y.seq && (x.at_ == y.at_ && (x.late == y.late && (x.kind == y.kind && (x.bike == y.bike && (x.place == y.place && (x.rider == y.rider && (x.ride == y.ride && true)))))))))) w :=
    eqS_of w Try.underlying49 (by kernel_rfl) (eqF_cons w (by decide) (run_part_one w Try.isAgg3 rfl) (run_part_one w Try.isAgg3 rfl) (run_equalIn_int w _ _ .i64 .i64 _ _ Try.underlying3) (eqF_cons w (by decide) (run_part_one w Try.isAgg3 rfl) (run_part_one w Try.isAgg3 rfl) (run_equalIn_int w _ _ .i64 .i64 _ _ Try.underlying3) (eqF_cons w (by decide) (run_part_one w Try.isAgg3 rfl) (run_part_one w Try.isAgg3 rfl) (run_equalIn_int w _ _ .i64 .i64 _ _ Try.underlying3) (eqF_cons w (by decide) (run_part_one w Try.isAgg3 rfl) (run_part_one w Try.isAgg3 rfl) (run_equalIn_int w _ _ .i64 .i64 _ _ Try.underlying3) (eqF_cons w (by decide) (run_part_one w Try.isAgg3 rfl) (run_part_one w Try.isAgg3 rfl) (run_equalIn_int w _ _ .i64 .i64 _ _ Try.underlying3) (eqF_cons w (by decide) (run_part_one w Try.isAgg3 rfl) (run_part_one w Try.isAgg3 rfl) (run_equalIn_int w _ _ .i64 .i64 _ _ Try.underlying3) (eqF_cons w (by decide) (run_part_one w Try.isAgg3 rfl) (run_part_one w Try.isAgg3 rfl) (run_equalIn_int w _ _ .i64 .i64 _ _ Try.underlying3) (eqF_cons w (by decide) (run_part_one w Try.isAgg3 rfl) (run_part_one w Try.isAgg3 rfl) (run_equalIn_int w _ _ .i64 .i64 _ _ Try.underlying3) (eqF_cons w (by decide) (run_part_one w Try.isAgg3 rfl) (run_part_one w Try.isAgg3 rfl) (run_equalIn_int w _ _ .i64 .i64 _ _ Try.underlying3) (eqF_nil w))))))))))
  have e : ((x.device == y.device && (x.seq == y.seq && (x.at_ == y.at_ && (x.late == y.late && (x.kind == y.kind && (x.bike == y.bike && (x.place == y.place && (x.rider == y.rider && (x.ride == y.ride && true)))))))))) = decide (x = y) := by
    rw [Bool.eq_iff_iff]
    cases x; cases y
    simp
  rw [← e]; exact h
theorem same18_w (A B : Option Addr) (n m c d : Nat) (xs ys : List Ev) (w : World) (hx : SlAt w 9 Ev.cells A n xs) (hy : SlAt w 9 Ev.cells B m ys) :
    Calls Try.prog 21 #[.slice A n c, .slice B m d] w fun e w' => e = .returned (.bool (decide (xs = ys))) ∧ Bel w w' := by
  have hl := hx.1
  have hn := hx.2.1
  have hl2 := hy.1
  refine H_enter Try.func21 rfl Try.ntmps21 rfl ?_
  refine H_seq ?_
  refine R0 ?_
  refine xV (e_as (v := .bool _) (q0 rfl)) rfl rfl ?_
  refine XN ?_
  refine thenJ_normal ?_
  refine H_seq ?_
  refine H_seq ?_
  refine R0 ?_
  refine xV (e_mv (v := .slice _ _ _) (q0 rfl)) rfl rfl ?_
  refine xV (e_len Try.underlying25 (q0 rfl)) rfl rfl ?_
  refine xV (e_mv (v := .slice _ _ _) (q0 rfl)) rfl rfl ?_
  refine xV (e_len Try.underlying25 (q0 rfl)) rfl rfl ?_
  refine xV (e_ne (q0 rfl) (q0 rfl)) rfl rfl ?_
  refine XN ?_
  refine thenJ_normal ?_
  refine H_cond rfl (fun h1 => ?_) (fun h1 => ?_)
  · refine H_seq ?_
    refine R0 ?_
    refine xV (e_as (v := .bool _) (q0 rfl)) rfl rfl ?_
    refine XN ?_
    refine thenJ_normal ?_
    refine H_ret ?_
    refine thenJ_ret ?_
    exact ret1 (v := .bool _) rfl rfl rfl fun w' hw => ⟨ret_bool (by
      rw [eq_comm, decide_eq_false_iff_not]
      intro e
      rw [e] at hl
      simp at h1
      omega), hw.1⟩
  · have hnm : n = m := by simp at h1; omega
    subst hnm
    refine H_skip ?_
    refine thenJ_normal ?_
    refine H_seq ?_
    refine H_seq ?_
    refine R0 ?_
    refine xV (e_as (v := .int _ _) (q0 rfl)) rfl rfl ?_
    refine XN ?_
    refine thenJ_normal ?_
    refine H_block ?_
    refine H_loop [4, 5, 11, 12, 13, 14, 15, 16, 17, 18, 19, 20, 21, 22, 23, 24, 25] (fun k : Nat => [(5, .int .i64 k)]) (fun _ => []) (fun k => k ≤ n ∧ xs.take k = ys.take k) (fun k => n - k) 0 ⟨rfl, trivial⟩ (fun _ h => h) rfl ⟨Nat.zero_le _, rfl⟩ ?_
    rintro k g ⟨hk, hall⟩
    refine H_seq ?_
    refine H_seq ?_
    refine R0 ?_
    refine xV (e_mv (v := .int _ _) (q0 rfl)) rfl rfl ?_
    refine xV (e_mv (v := .slice _ _ _) (q0 rfl)) rfl rfl ?_
    refine xV (e_len Try.underlying25 (q0 rfl)) rfl rfl ?_
    refine xV (e_lt (q0 rfl) (q0 rfl)) rfl rfl ?_
    refine XN ?_
    refine thenJ_normal ?_
    refine H_cond rfl (fun hlt => ?_) (fun hlt => ?_)
    · simp at hlt
      obtain ⟨b, off, x, rfl, hbl, hxk, hrx⟩ := hx.at_ hlt
      obtain ⟨b2, off2, y, rfl, hbl2, hyk, hry⟩ := hy.at_ hlt
      refine H_skip ?_
      refine thenJ_normal ?_
      refine H_seq ?_
      refine H_block ?_
      refine H_seq ?_
      refine R1 rfl (by decide +kernel) ?_
      refine xV (e_mv (v := .slice _ _ _) (q0 rfl)) rfl rfl ?_
      refine xV (e_mv (v := .int _ _) (q0 rfl)) rfl rfl ?_
      refine xV (e_idx _ Try.underlying25 Try.sizeOf49 (q0 rfl) (q0 rfl) (fun _ => ⟨rfl, by omega⟩)) rfl rfl ?_
      refine xV (eS Try.isAgg49 Try.sizeOf49 (q0 rfl)) rfl rfl ?_
      refine xV (e_mv (v := .slice _ _ _) (q0 rfl)) rfl rfl ?_
      refine xV (e_mv (v := .int _ _) (q0 rfl)) rfl rfl ?_
      refine xV (e_idx _ Try.underlying25 Try.sizeOf49 (q0 rfl) (q0 rfl) (fun _ => ⟨rfl, by omega⟩)) rfl rfl ?_
      refine xV (eS Try.isAgg49 Try.sizeOf49 (q0 rfl)) rfl rfl ?_
      refine xV (e_neS (fun w => same18_w_eq x y w) (by kernel_rfl) (q0 rfl) (q0 rfl)) rfl rfl ?_
      refine XN ?_
      refine thenJ_normal ?_
      refine H_cond rfl (fun hb => ?_) (fun hb => ?_)
      · refine H_seq ?_
        refine R0 ?_
        refine xV (e_as (v := .bool _) (q0 rfl)) rfl rfl ?_
        refine XN ?_
        refine thenJ_normal ?_
        refine H_ret ?_
        refine blockJ_ret ?_
        refine thenJ_ret ?_
        refine loopJ_ret ?_
        refine blockJ_ret ?_
        refine thenJ_ret ?_
        exact ret1 (v := .bool _) rfl rfl rfl fun w' hw => ⟨ret_bool (by
          rw [eq_comm, decide_eq_false_iff_not]
          intro e
          rw [e, hyk] at hxk
          cases hxk
          simp at hb), hw.1⟩
      · have hxy : x = y := by simpa using hb
        refine H_skip ?_
        refine blockJ_normal ?_
        refine thenJ_normal ?_
        refine R0 ?_
        refine xV (e_mv (v := .int _ _) (q0 rfl)) rfl rfl ?_
        refine xV (e_add (q0 rfl) (q0 rfl) (fun _ => ⟨rfl, by omega, by omega⟩)) rfl rfl ?_
        refine xV (e_as (v := .int _ _) (q0 rfl)) rfl rfl ?_
        refine XN ?_
        exact loopJ_normal (k + 1) (by repeat (first | exact agree_self | exact agree_over | refine agree_upd rfl ?_ | refine agree_updL rfl ?_ | refine agree_over2 rfl ?_)) ⟨rfl, trivial⟩ (fun w hw => mem_nil.2 hw.1) rfl ⟨by omega, by rw [take_snoc _ _ _ hxk, take_snoc _ _ _ hyk, hall, hxy]⟩ (by show n - (k + 1) < n - k; omega)
    · obtain rfl : k = n := by simp at hlt; omega
      refine H_exit ?_
      refine thenJ_exit ?_
      refine loopJ_exit ?_
      refine blockJ_hit ?_
      refine thenJ_normal ?_
      refine H_seq ?_
      refine R0 ?_
      refine xV (e_as (v := .bool _) (q0 rfl)) rfl rfl ?_
      refine XN ?_
      refine thenJ_normal ?_
      refine H_ret ?_
      exact ret1 (v := .bool _) rfl rfl rfl fun w' hw => ⟨ret_bool (by
        rw [eq_comm, decide_eq_true_eq]
        rw [List.take_of_length_le (by omega), List.take_of_length_le (by omega)] at hall
        exact hall), hw.1⟩

def few18 (a : FA) : Bool := decide ((a.dn : Int) ≤ 100) && decide ((a.tn : Int) ≤ 100)
def mfew (a : FA) (n sn : Nat) : Bool := (decide ((n : Int) ≤ 30) && decide ((sn : Int) ≤ 40)) && few18 a
theorem few18_w (f : Fl) (a : FA) (w : World) : Calls Try.prog 25 #[.agg (f.cells a).toArray] w fun e w' => e = .returned (.bool (few18 a)) ∧ Bel w w' := by
  refine H_enter Try.func25 rfl Try.ntmps25 rfl ?_
  refine H_seq ?_
  refine R0 ?_
  refine X_box (v := .agg _) rfl rfl fun b1 => ?_
  refine xV (e_as (v := .bool _) (q0 rfl)) rfl rfl ?_
  refine XN ?_
  refine thenJ_normal ?_
  refine H_seq ?_
  refine R0 ?_
  refine xV (e_fld Try.underlying24 rfl Try.sizeOf22 rfl (q0 rfl)) rfl rfl ?_
  refine xV (eL Try.isAgg22 (q0 rfl)) rfl rfl ?_
  refine xV (e_len Try.underlying22 (q0 rfl)) rfl rfl ?_
  refine xV (e_le (q0 rfl) (q0 rfl)) rfl rfl ?_
  refine xV (e_mv (v := .bool _) (q0 rfl)) rfl rfl ?_
  refine xVT (e_fld Try.underlying24 rfl Try.sizeOf22 rfl (q0 rfl)) rfl rfl rfl rfl ?_
  refine xVT (eL Try.isAgg22 (q1 rfl)) rfl rfl rfl rfl ?_
  refine xVT (e_len Try.underlying22 (q1 rfl)) rfl rfl rfl rfl ?_
  refine xVT (e_le (q1 rfl) (q0 rfl)) rfl rfl rfl rfl ?_
  refine xV (e_and (q0 rfl) rfl (fun h => by first | rfl | (rw [h]; rfl))) rfl rfl ?_
  refine xV (e_as (v := .bool _) (q0 rfl)) rfl rfl ?_
  refine XN ?_
  refine thenJ_normal ?_
  refine H_ret ?_
  exact ret1 (v := .bool _) rfl rfl rfl fun w' hw => ⟨rfl, hw.1⟩
theorem mfew_w (f : Fl) (a : FA) (A : Option Addr) (n c : Nat) (sA : Option Addr) (sn sc : Nat) (w : World) : Calls Try.prog 10 #[.agg (f.cells a).toArray, .slice A n c, .slice sA sn sc] w fun e w' => e = .returned (.bool (mfew a n sn)) ∧ Bel w w' := by
  refine H_enter Try.func10 rfl Try.ntmps10 rfl ?_
  refine H_seq ?_
  refine R0 ?_
  refine X_box (v := .agg _) rfl rfl fun b3 => ?_
  refine xV (e_as (v := .bool _) (q0 rfl)) rfl rfl ?_
  refine XN ?_
  refine thenJ_normal ?_
  refine H_seq ?_
  refine R0 ?_
  refine xV (e_mv (v := .slice _ _ _) (q0 rfl)) rfl rfl ?_
  refine xV (e_len Try.underlying25 (q0 rfl)) rfl rfl ?_
  refine xV (e_le (q0 rfl) (q0 rfl)) rfl rfl ?_
  refine xV (e_mv (v := .bool _) (q0 rfl)) rfl rfl ?_
  refine xVT (e_mv (v := .slice _ _ _) (q0 rfl)) rfl rfl rfl rfl ?_
  refine xVT (e_len Try.underlying26 (q1 rfl)) rfl rfl rfl rfl ?_
  refine xVT (e_le (q1 rfl) (q0 rfl)) rfl rfl rfl rfl ?_
  refine xV (e_and (q0 rfl) rfl (fun h => by first | rfl | (rw [h]; rfl))) rfl rfl ?_
  refine xV (e_mv (v := .bool _) (q0 rfl)) rfl rfl ?_
  refine xVT (eS Try.isAgg24 Try.sizeOf24 (q0 rfl)) rfl rfl rfl rfl ?_
  refine xCT (en Try.call25 (ha1 (q1 (v := .agg _) rfl))) (fun _ w _ => few18_w f a w) rfl rfl rfl rfl ?_
  refine xV (e_and (q0 rfl) rfl (fun h => by first | rfl | (rw [h]; rfl))) rfl rfl ?_
  refine xV (e_as (v := .bool _) (q0 rfl)) rfl rfl ?_
  refine XN ?_
  refine thenJ_normal ?_
  refine H_ret ?_
  exact ret1 (v := .bool _) rfl rfl rfl fun w' hw => ⟨rfl, hw.1⟩
theorem mfew_n {a : FA} {n sn : Nat} (h : (!mfew a n sn) = false) : n ≤ 30 ∧ sn ≤ 40 := by
  unfold mfew at h
  simp at h
  omega
def ordV (now device seq : Int) : List Value := [.int .i64 now, .int .i64 device, .int .i64 seq]
def bfP (now device seq : Int) (e : Ev) : Bool := decide (e.at_ < now) && (!decide (e.device = device) || decide (e.seq < seq))
def bfL (now device seq : Int) (l : List Ev) : List Ev := l.filter (bfP now device seq)
theorem lbefore_w (A : Option Addr) (n c : Nat) (xs : List Ev) (now device seq : Int) (w : World) (hx : EvsAt w A n xs) (hn : n ≤ 10000) :
    Calls Try.prog 23 #[.slice A n c, .agg (ordV now device seq).toArray] w fun r w' => ∃ x : Option Addr × Nat, r = .returned (.slice x.1 (bfL now device seq xs).length x.2) ∧ Mem w [evRow x.1 x.2 (bfL now device seq xs)] w' := by
  have hxl := hx.1
  obtain ⟨F, hF⟩ : ∃ F : Nat → List Ev, F = fun k => bfL now device seq (xs.take k) := ⟨_, rfl⟩
  have hF0 : F 0 = [] := by rw [hF]; rfl
  have hFn : F n = bfL now device seq xs := by rw [hF]; simp only [← hxl, List.take_length]
  have hFs : ∀ k e, xs[k]? = some e → F (k + 1) = F k ++ (if bfP now device seq e = true then [e] else []) := fun k e he => by
    rw [hF]; simp only [bfL, take_snoc _ _ _ he, List.filter_append]
    congr 1
    by_cases h : bfP now device seq e = true
    · rw [if_pos h]; simp [List.filter_cons, h]
    · rw [if_neg h]; simp [List.filter_cons, h]
  have hFl : ∀ k, (F k).length ≤ n := fun k => by
    rw [hF]
    have h1 := List.length_filter_le (bfP now device seq) (xs.take k)
    rw [List.length_take] at h1
    simp only [bfL]
    omega
  rw [← hFn]
  clear hF hFn
  refine H_enter Try.func23 rfl Try.ntmps23 rfl ?_
  refine H_seq ?_
  refine R0 ?_
  refine X_box (v := .agg _) rfl rfl fun b3 => ?_
  refine xV (e_as (v := .slice _ _ _) (q0 rfl)) rfl rfl ?_
  refine XN ?_
  refine thenJ_normal ?_
  refine H_seq ?_
  refine R0 ?_
  refine xV (e_as (v := .slice _ _ _) (q0 rfl)) rfl rfl ?_
  refine XN ?_
  refine thenJ_normal ?_
  refine H_seq ?_
  refine H_seq ?_
  refine R0 ?_
  refine xV (e_as (v := .int _ _) (q0 rfl)) rfl rfl ?_
  refine XN ?_
  refine thenJ_normal ?_
  refine H_block ?_
  refine H_loop [5, 6, 7, 8, 9, 10, 11, 12, 13, 14, 15, 16, 17, 18, 19, 20, 21, 22, 23, 24, 25, 26, 27, 28, 29, 30, 31, 32, 33, 34, 35, 36, 37, 38, 39, 40, 41, 42, 43, 44, 45, 46, 47] (fun q : Nat × Option Addr × Nat => [(6, .int .i64 q.1), (5, .slice q.2.1 (F q.1).length q.2.2)]) (fun q => [evRow q.2.1 q.2.2 (F q.1), box b3 41 (ordV now device seq)]) (fun q => q.1 ≤ n) (fun q => n - q.1) (0, none, 0) ⟨rfl, by show _ = Value.slice none (F 0).length 0; rw [hF0]; rfl, trivial⟩ (fun w hw => by show Mem _ (evRow none 0 (F 0) :: _) w; rw [hF0]; exact hw.nilRow _ _ _ rfl) rfl (Nat.zero_le _) ?_
  rintro ⟨k, oA, oc⟩ g hk
  simp only at hk
  refine H_seq ?_
  refine H_seq ?_
  refine R0 ?_
  refine xV (e_mv (v := .int _ _) (q0 rfl)) rfl rfl ?_
  refine xV (e_mv (v := .slice _ _ _) (q0 rfl)) rfl rfl ?_
  refine xV (e_len Try.underlying25 (q0 rfl)) rfl rfl ?_
  refine xV (e_lt (q0 rfl) (q0 rfl)) rfl rfl ?_
  refine XN ?_
  refine thenJ_normal ?_
  refine H_cond rfl (fun hlt => ?_) (fun hlt => ?_)
  · have hlt' : k < n := by simpa using hlt
    obtain ⟨b, off, e, rfl, hbl, he, hre⟩ := hx.at_ hlt'
    have hs := hFs k e he
    have hl := hFl k
    refine H_skip ?_
    refine thenJ_normal ?_
    refine H_seq ?_
    refine H_block ?_
    refine H_seq ?_
    refine R1 rfl (by decide +kernel) ?_
    refine xV (e_mv (v := .slice _ _ _) (q0 rfl)) rfl rfl ?_
    refine xV (e_mv (v := .int _ _) (q0 rfl)) rfl rfl ?_
    refine xV (e_idx _ Try.underlying25 Try.sizeOf49 (q0 rfl) (q0 rfl) (fun _ => ⟨rfl, by omega⟩)) rfl rfl ?_
    refine xV (e_fld Try.underlying49 rfl Try.sizeOf3 rfl (q0 rfl)) rfl rfl ?_
    refine xV (eL Try.isAgg3 (q0 rfl)) rfl rfl ?_
    refine xV (e_fld Try.underlying41 rfl Try.sizeOf3 rfl (q0 rfl)) rfl rfl ?_
    refine xV (eL Try.isAgg3 (q0 rfl)) rfl rfl ?_
    refine xV (e_lt (q0 rfl) (q0 rfl)) rfl rfl ?_
    refine xV (e_mv (v := .bool _) (q0 rfl)) rfl rfl ?_
    refine xVT (e_mv (v := .slice _ _ _) (q0 rfl)) rfl rfl rfl rfl ?_
    refine xVT (e_mv (v := .int _ _) (q0 rfl)) rfl rfl rfl rfl ?_
    refine xVT (e_idx _ Try.underlying25 Try.sizeOf49 (q1 rfl) (q1 rfl) (fun _ => ⟨rfl, by omega⟩)) rfl rfl rfl rfl ?_
    refine xVT (e_fld Try.underlying49 rfl Try.sizeOf3 rfl (q1 rfl)) rfl rfl rfl rfl ?_
    refine xVT (eL Try.isAgg3 (q1 rfl)) rfl rfl rfl rfl ?_
    refine xVT (e_fld Try.underlying41 rfl Try.sizeOf3 rfl (q0 rfl)) rfl rfl rfl rfl ?_
    refine xVT (eL Try.isAgg3 (q1 rfl)) rfl rfl rfl rfl ?_
    refine xVT (e_ne (q1 rfl) (q1 rfl)) rfl rfl rfl rfl ?_
    refine xVT (e_mv (v := .bool _) (q1 rfl)) rfl rfl rfl rfl ?_
    refine xVF2 (e_mv (v := .slice _ _ _) (q0 rfl)) rfl rfl rfl rfl ?_
    refine xVF2 (e_mv (v := .int _ _) (q0 rfl)) rfl rfl rfl rfl ?_
    refine xVF2 (e_idx _ Try.underlying25 Try.sizeOf49 (q1 rfl) (q1 rfl) (fun _ => ⟨rfl, by omega⟩)) rfl rfl rfl rfl ?_
    refine xVF2 (e_fld Try.underlying49 rfl Try.sizeOf3 rfl (q1 rfl)) rfl rfl rfl rfl ?_
    refine xVF2 (eL Try.isAgg3 (q1 rfl)) rfl rfl rfl rfl ?_
    refine xVF2 (e_fld Try.underlying41 rfl Try.sizeOf3 rfl (q0 rfl)) rfl rfl rfl rfl ?_
    refine xVF2 (eL Try.isAgg3 (q1 rfl)) rfl rfl rfl rfl ?_
    refine xVF2 (e_lt (q1 rfl) (q1 rfl)) rfl rfl rfl rfl ?_
    refine xVT (e_or (q1 rfl) rfl (fun h => by first | rfl | (rw [h]; rfl))) rfl rfl rfl rfl ?_
    refine xV (e_and (q0 rfl) rfl (fun h => by first | rfl | (rw [h]; rfl))) rfl rfl ?_
    refine XN ?_
    refine thenJ_normal ?_
    refine H_cond rfl (fun hb => ?_) (fun hb => ?_)
    · rw [if_pos (by unfold bfP; exact hb)] at hs
      refine R0 ?_
      refine xV (e_mv (v := .slice _ _ _) (q0 rfl)) rfl rfl ?_
      refine xV (e_mv (v := .slice _ _ _) (q0 rfl)) rfl rfl ?_
      refine xV (e_mv (v := .int _ _) (q0 rfl)) rfl rfl ?_
      refine xV (e_idx _ Try.underlying25 Try.sizeOf49 (q0 rfl) (q0 rfl) (fun _ => ⟨rfl, by omega⟩)) rfl rfl ?_
      refine xV (eS Try.isAgg49 Try.sizeOf49 (q0 rfl)) rfl rfl ?_
      refine X_push (k := 9) (i := Try.t49) 0 (e) Try.underlying25 (by kernel_rfl) rfl rfl rfl rfl Try.sizeOf49 Try.zeroValue49 rfl rfl rfl rfl rfl rfl ⟨by simp only; omega, by decide⟩ rfl rfl fun PB A1 c1 => ?_
      refine xV (e_as (v := .slice _ _ _) (q0 rfl)) rfl rfl ?_
      refine XN ?_
      refine blockJ_normal ?_
      refine thenJ_normal ?_
      refine R0 ?_
      refine xV (e_mv (v := .int _ _) (q0 rfl)) rfl rfl ?_
      refine xV (e_add (q0 rfl) (q0 rfl) (fun _ => ⟨rfl, by omega, by omega⟩)) rfl rfl ?_
      refine xV (e_as (v := .int _ _) (q0 rfl)) rfl rfl ?_
      refine XN ?_
      exact loopJ_normal (k + 1, A1, c1) (by repeat (first | exact agree_self | exact agree_over | refine agree_upd rfl ?_ | refine agree_updL rfl ?_ | refine agree_over2 rfl ?_)) ⟨rfl, by show _ = Value.slice A1 (F (k + 1)).length c1; rw [hs]; rfl, trivial⟩ (fun w hw => by show Mem _ (evRow A1 c1 (F (k + 1)) :: _) w; rw [hs]; exact hw) rfl (by show k + 1 ≤ _; omega) (by show n - (k + 1) < n - k; omega)
    · have hb' : bfP now device seq e = false := hb
      rw [if_neg (by rw [hb']; decide), List.append_nil] at hs
      refine H_skip ?_
      refine blockJ_normal ?_
      refine thenJ_normal ?_
      refine R0 ?_
      refine xV (e_mv (v := .int _ _) (q0 rfl)) rfl rfl ?_
      refine xV (e_add (q0 rfl) (q0 rfl) (fun _ => ⟨rfl, by omega, by omega⟩)) rfl rfl ?_
      refine xV (e_as (v := .int _ _) (q0 rfl)) rfl rfl ?_
      refine XN ?_
      exact loopJ_normal (k + 1, oA, oc) (by repeat (first | exact agree_self | exact agree_over | refine agree_upd rfl ?_ | refine agree_updL rfl ?_ | refine agree_over2 rfl ?_)) ⟨rfl, by show _ = Value.slice oA (F (k + 1)).length oc; rw [hs]; rfl, trivial⟩ (fun w hw => by show Mem _ (evRow oA oc (F (k + 1)) :: _) w; rw [hs]; exact hw) rfl (by show k + 1 ≤ _; omega) (by show n - (k + 1) < n - k; omega)
  · have hend : k = n := by simp at hlt; omega
    subst hend
    refine H_exit ?_
    refine thenJ_exit ?_
    refine loopJ_exit ?_
    refine blockJ_hit ?_
    refine thenJ_normal ?_
    refine H_seq ?_
    refine R0 ?_
    refine xV (e_mv (v := .slice _ _ _) (q0 rfl)) rfl rfl ?_
    refine xV (e_as (v := .slice _ _ _) (q0 rfl)) rfl rfl ?_
    refine XN ?_
    refine thenJ_normal ?_
    refine H_ret ?_
    exact ret1 (v := .slice _ _ _) rfl rfl rfl fun w' hw => ⟨(oA, oc), rfl, hw.pick [0] (by decide)⟩

theorem fl24 {fs : Array Field} (h : Try.prog.underlying 24 = some (.struct fs) := by exact Try.underlying24) : FieldsLie Try.prog fs [(0, 1), (1, 1), (2, 1), (3, 1), (4, 1)] := by
  rw [Try.underlying24] at h
  cases h
  intro w
  kernel_rfl
theorem fl34 {fs : Array Field} (h : Try.prog.underlying 34 = some (.struct fs) := by exact Try.underlying34) : FieldsLie Try.prog fs [(0, 1), (1, 1)] := by
  rw [Try.underlying34] at h
  cases h
  intro w
  kernel_rfl
def awF : Fl := ⟨2, 1, 1, [2], []⟩
def awA (b : Nat) : FA := ⟨some ⟨b, 0, none⟩, 1, 1, none, 0, 0⟩
def awL : List Ev := [⟨0, 1, 100, 100, 1, 0, 0, 0, 0⟩]
def awS : List Sg := [⟨0, 600⟩]
theorem afleet_w (w : World) : Calls Try.prog 26 #[] w fun e w' => ∃ b : Nat, e = .returned (.agg (awF.cells (awA b)).toArray) ∧ Mem w [box b 3 [.int .i64 2]] w' := by
  refine H_enter Try.func26 rfl Try.ntmps26 rfl ?_
  refine H_seq ?_
  refine R0 ?_
  refine X_alloc Try.zeroValue24 rfl fun b0 => ?_
  refine XN ?_
  refine thenJ_normal ?_
  refine H_seq ?_
  refine R0 ?_
  refine X_slit [(.int .i64 0)] Try.underlying22 Try.sizeOf3 Try.zeroValue3 rfl (by kernel_rfl) (pt (v := .int _ _) rfl E.p0) rfl rfl fun b1 => ?_
  refine xV (e_build Try.underlying24 fl24 Try.zeroValue24 (pt (v := .int _ _) rfl (pt (v := .int _ _) rfl (pt (v := .int _ _) rfl (pt (v := .slice _ _ _) rfl E.p0)))) rfl) rfl rfl ?_
  refine X_st (v := .agg _) rfl rfl Try.sizeOf24 ?_
  refine XN ?_
  refine thenJ_normal ?_
  refine H_ret ?_
  exact ret_of rfl (resc1 1 rfl rfl Try.isAgg24 Try.sizeOf24 rfl rfl) fun w' hw => ⟨b1, rfl, hw.pick [0] (by decide)⟩
theorem adocked_w (w : World) : Calls Try.prog 27 #[] w fun e w' => ∃ b : Nat, e = .returned (.slice (some ⟨b, 0, none⟩) 1 1) ∧ Mem w [box b 49 (awL.flatMap Ev.cells)] w' := by
  refine H_enter Try.func27 rfl Try.ntmps27 rfl ?_
  refine H_seq ?_
  refine R0 ?_
  refine xV (e_as (v := .slice _ _ _) (q0 rfl)) rfl rfl ?_
  refine XN ?_
  refine thenJ_normal ?_
  refine H_seq ?_
  refine R0 ?_
  refine xV (e_build Try.underlying49 fl49 Try.zeroValue49 (pt (v := .int _ _) rfl (pt (v := .int _ _) rfl (pt (v := .int _ _) rfl (pt (v := .int _ _) rfl E.p0)))) rfl) rfl rfl ?_
  refine X_slit [(.int .i64 0), (.int .i64 0), (.int .i64 0), (.int .i64 0), (.int .i64 0), (.int .i64 0), (.int .i64 0), (.int .i64 0), (.int .i64 0)] Try.underlying25 Try.sizeOf49 Try.zeroValue49 rfl (by kernel_rfl) (pt (v := .agg _) rfl E.p0) rfl rfl fun b2 => ?_
  refine xV (e_as (v := .slice _ _ _) (q0 rfl)) rfl rfl ?_
  refine XN ?_
  refine thenJ_normal ?_
  refine H_ret ?_
  exact ret1 (v := .slice _ _ _) rfl rfl rfl fun w' hw => ⟨b2, rfl, hw⟩
theorem ints_nil (w : World) : IntsAt w none 0 [] := ⟨rfl, by decide, fun h => absurd h (by decide)⟩
theorem sgs_nil (w : World) : SgsAt w none 0 [] := ⟨rfl, by decide, fun h => absurd h (by decide)⟩
theorem aw_fleet {w0 w : World} {L : List E.Item} {b : Nat} (hw : Mem w0 L w) (i : Nat) (hi : L[i]? = some (box b 3 [.int .i64 2])) : FlAt w awF (awA b) :=
  ⟨slAt_box (enc := encInt) (xs := [2]) hw hi (fun _ => rfl) (by decide), ints_nil w⟩
theorem aw_evs {w0 w : World} {L : List E.Item} {b : Nat} (hw : Mem w0 L w) (i : Nat) (hi : L[i]? = some (box b 49 (awL.flatMap Ev.cells))) : EvsAt w (some ⟨b, 0, none⟩) 1 awL := slAt_box (xs := awL) hw hi (fun _ => rfl) (by decide)
theorem aw_sgs {w0 w : World} {L : List E.Item} {b : Nat} (hw : Mem w0 L w) (i : Nat) (hi : L[i]? = some (box b 51 (awS.flatMap Sg.cells))) : SgsAt w (some ⟨b, 0, none⟩) 1 awS := slAt_box (xs := awS) hw hi (fun _ => rfl) (by decide)
theorem aw_pl : PlOk awL := by intro e he; simp [awL] at he; subst he; decide
theorem aw1 : overOf awF awL [] 1000 3600 1101 = [0] := by unfold overOf accOf stAtT untilP; simp only [← refSet_eq]; decide +kernel
theorem aw2 : overOf awF awL [] 1000 3600 1100 = [] := by unfold overOf accOf stAtT untilP; simp only [← refSet_eq]; decide +kernel
theorem aw3 : overOf awF awL awS 1000 3600 1101 = [] := by unfold overOf accOf stAtT untilP; simp only [← refSet_eq]; decide +kernel
theorem aw4 : overErr awF 1000 3600 1101 = 0 := by decide +kernel
theorem aw5 : overErr awF 1000 3600 1100 = 0 := by decide +kernel
theorem aw6 : seenOf awF awL awS 0 1101 = 600 := by unfold seenOf accOf; simp only [← refSet_eq]; decide +kernel
theorem aw7 : seenOf awF awL awS 0 599 = 100 := by unfold seenOf accOf; simp only [← refSet_eq]; decide +kernel
theorem aw8 : atErr awF 0 1101 = 0 := by decide +kernel
theorem aw9 : atErr awF 0 599 = 0 := by decide +kernel
theorem aw10 : repErr awF awL [] 1000 3600 1101 0 9 = 0 := by unfold repErr; rw [aw1]; decide +kernel
theorem aw11 : repOf awF awL [] 1000 3600 1101 0 9 = [⟨0, 9, 1101, 1101, 9, 0, 0, 0, 0⟩] := by unfold repOf; rw [aw10, aw1]; rfl
attribute [local irreducible] overOf overErr seenOf atErr repErr repOf
set_option maxHeartbeats 1000000 in
set_option maxRecDepth 20000 in
theorem awake_w (w : World) : Calls Try.prog 11 #[] w fun e w' => e = .returned (.bool true) ∧ Bel w w' := by
  refine H_enter Try.func11 rfl Try.ntmps11 rfl ?_
  refine H_seq ?_
  refine R0 ?_
  refine xV (e_as (v := .bool _) (q0 rfl)) rfl rfl ?_
  refine XN ?_
  refine thenJ_normal ?_
  refine H_seq ?_
  refine R0 ?_
  refine xV (e_build Try.underlying34 fl34 Try.zeroValue34 (pt (v := .int _ _) rfl (pt (v := .int _ _) rfl E.p0)) rfl) rfl rfl ?_
  refine X_alloc Try.zeroValue34 rfl fun b1 => ?_
  refine X_st (v := .agg _) rfl rfl Try.sizeOf34 ?_
  refine XN ?_
  refine thenJ_normal ?_
  refine H_seq ?_
  refine R0 ?_
  refine xV (e_build Try.underlying51 fl51 Try.zeroValue51 (pt (v := .int _ _) rfl E.p0) rfl) rfl rfl ?_
  refine X_slit [(.int .i64 0), (.int .i64 0)] Try.underlying26 Try.sizeOf51 Try.zeroValue51 rfl (by kernel_rfl) (pt (v := .agg _) rfl E.p0) rfl rfl fun b17 => ?_
  refine xV (e_as (v := .slice _ _ _) (q0 rfl)) rfl rfl ?_
  refine XN ?_
  refine thenJ_normal ?_
  refine H_seq ?_
  refine RA rfl (by decide +kernel) ?_
  refine aV 2 (by decide +kernel) rfl (eS Try.isAgg34 Try.sizeOf34 (q0 rfl)) rfl ?_
  refine rdy1 (i := 0) (by decide +kernel) (sub_drop 0) ?_
  refine aL rfl (f_callx (en Try.call26 (ha0)) (fun w hw => afleet_w w) rfl (fun _ => rfl) fun c3 => ?_)
  refine rdy1 (i := 1) (by decide +kernel) (sub_drop 1) ?_
  refine aL rfl (f_callx (en Try.call27 (ha0)) (fun w hw => adocked_w w) rfl (fun _ => rfl) fun d3 => ?_)
  refine aI 1 ?_
  refine rdy1 (i := 3) (by decide +kernel) (sub_drop 2) ?_
  refine aL rfl (f_callx (en Try.call14 (fun _ => rfl)) (fun w hw => overdue_w awF (awA c3) _ 1 1 awL none 0 0 [] 1000 3600 1101 w (aw_fleet hw 0 rfl) (aw_evs hw 1 rfl) (sgs_nil w) (by decide) aw_pl) rfl (fun _ => rfl) fun x3 => ?_)
  refine aI 2 ?_
  refine aRL (sub_drop 3) ?_
  refine aV 4 (by decide +kernel) rfl (e_mv (q0 rfl)) rfl ?_
  refine aV 5 (by decide +kernel) rfl (e_ext (q0 rfl) rfl) rfl ?_
  refine aV 6 (by decide +kernel) rfl (e_ext (q0 rfl) rfl) rfl ?_
  refine aV 7 (by decide +kernel) rfl (e_as (v := .slice _ _ _) (q0 rfl)) rfl ?_
  refine aV 8 (by decide +kernel) rfl (e_as (v := .int _ _) (q0 rfl)) rfl ?_
  refine aZ (by decide +kernel) (sub_drop 0) ?_
  refine thenJ_normal ?_
  refine H_seq ?_
  rw [aw1, aw4]
  refine H_mem (L' := [inRow x3.1 x3.2 [0], box b17 51 (awS.flatMap Sg.cells), box b1 34 (paV 1000 3600)]) (fun w hw => hw.pick [2, 3, 4] (by decide)) rfl ?_
  refine RA rfl (by decide +kernel) ?_
  refine aV 2 (by decide +kernel) rfl (eS Try.isAgg34 Try.sizeOf34 (q0 rfl)) rfl ?_
  refine rdy1 (i := 0) (by decide +kernel) (sub_drop 0) ?_
  refine aL rfl (f_callx (en Try.call26 (ha0)) (fun w hw => afleet_w w) rfl (fun _ => rfl) fun c4 => ?_)
  refine rdy1 (i := 1) (by decide +kernel) (sub_drop 1) ?_
  refine aL rfl (f_callx (en Try.call27 (ha0)) (fun w hw => adocked_w w) rfl (fun _ => rfl) fun d4 => ?_)
  refine aI 1 ?_
  refine rdy1 (i := 3) (by decide +kernel) (sub_drop 2) ?_
  refine aL rfl (f_callx (en Try.call14 (fun _ => rfl)) (fun w hw => overdue_w awF (awA c4) _ 1 1 awL none 0 0 [] 1000 3600 1100 w (aw_fleet hw 0 rfl) (aw_evs hw 1 rfl) (sgs_nil w) (by decide) aw_pl) rfl (fun _ => rfl) fun x4 => ?_)
  refine aI 2 ?_
  refine aRL (sub_drop 3) ?_
  refine aV 4 (by decide +kernel) rfl (e_mv (q0 rfl)) rfl ?_
  refine aV 5 (by decide +kernel) rfl (e_ext (q0 rfl) rfl) rfl ?_
  refine aV 6 (by decide +kernel) rfl (e_ext (q0 rfl) rfl) rfl ?_
  refine aV 7 (by decide +kernel) rfl (e_as (v := .slice _ _ _) (q0 rfl)) rfl ?_
  refine aV 8 (by decide +kernel) rfl (e_as (v := .int _ _) (q0 rfl)) rfl ?_
  refine aZ (by decide +kernel) (sub_drop 0) ?_
  refine thenJ_normal ?_
  refine H_seq ?_
  rw [aw2, aw5]
  refine H_mem (L' := [inRow x3.1 x3.2 [0], box b17 51 (awS.flatMap Sg.cells), box b1 34 (paV 1000 3600)]) (fun w hw => hw.pick [3, 4, 5] (by decide)) rfl ?_
  refine RA rfl (by decide +kernel) ?_
  refine aV 2 (by decide +kernel) rfl (e_mv (v := .slice _ _ _) (q0 rfl)) rfl ?_
  refine aV 3 (by decide +kernel) rfl (eS Try.isAgg34 Try.sizeOf34 (q0 rfl)) rfl ?_
  refine rdy1 (i := 0) (by decide +kernel) (sub_drop 0) ?_
  refine aL rfl (f_callx (en Try.call26 (ha0)) (fun w hw => afleet_w w) rfl (fun _ => rfl) fun c5 => ?_)
  refine rdy1 (i := 1) (by decide +kernel) (sub_drop 1) ?_
  refine aL rfl (f_callx (en Try.call27 (ha0)) (fun w hw => adocked_w w) rfl (fun _ => rfl) fun d5 => ?_)
  refine aI 1 ?_
  refine rdy1 (i := 4) (by decide +kernel) (sub_drop 2) ?_
  refine aL rfl (f_callx (en Try.call14 (fun _ => rfl)) (fun w hw => overdue_w awF (awA c5) _ 1 1 awL _ 1 1 awS 1000 3600 1101 w (aw_fleet hw 0 rfl) (aw_evs hw 1 rfl) (aw_sgs hw 3 rfl) (by decide) aw_pl) rfl (fun _ => rfl) fun x5 => ?_)
  refine aI 2 ?_
  refine aRL (sub_drop 3) ?_
  refine aV 5 (by decide +kernel) rfl (e_mv (q0 rfl)) rfl ?_
  refine aV 6 (by decide +kernel) rfl (e_ext (q0 rfl) rfl) rfl ?_
  refine aV 7 (by decide +kernel) rfl (e_ext (q0 rfl) rfl) rfl ?_
  refine aV 8 (by decide +kernel) rfl (e_as (v := .slice _ _ _) (q0 rfl)) rfl ?_
  refine aV 9 (by decide +kernel) rfl (e_as (v := .int _ _) (q0 rfl)) rfl ?_
  refine aZ (by decide +kernel) (sub_drop 0) ?_
  refine thenJ_normal ?_
  refine H_seq ?_
  rw [aw3, aw4]
  refine H_mem (L' := [inRow x3.1 x3.2 [0], box b17 51 (awS.flatMap Sg.cells), box b1 34 (paV 1000 3600)]) (fun w hw => hw.pick [3, 4, 5] (by decide)) rfl ?_
  refine R0 ?_
  refine xCX (en Try.call26 (ha0)) (fun w hw => afleet_w w) rfl (fun _ => rfl) fun c6 => ?_
  refine xCX (en Try.call27 (ha0)) (fun w hw => adocked_w w) rfl (fun _ => rfl) fun d6 => ?_
  refine xV (e_mv (v := .slice _ _ _) (q0 rfl)) rfl rfl ?_
  refine xC (en Try.call12 (fun _ => rfl)) (fun _ w hw => mseen_w awF (awA c6) _ 1 1 awL _ 1 1 awS 0 1101 w (aw_fleet hw 1 rfl) (aw_evs hw 0 rfl) (aw_sgs hw 3 rfl) (by decide) aw_pl) rfl rfl ?_
  refine xV (e_mv (q0 rfl)) rfl rfl ?_
  refine xV (e_ext (q0 rfl) rfl) rfl rfl ?_
  refine xV (e_ext (q0 rfl) rfl) rfl rfl ?_
  refine xV (e_as (v := .int _ _) (q0 rfl)) rfl rfl ?_
  refine xV (e_as (v := .int _ _) (q0 rfl)) rfl rfl ?_
  refine XN ?_
  refine thenJ_normal ?_
  refine H_seq ?_
  rw [aw6, aw8]
  refine H_mem (L' := [inRow x3.1 x3.2 [0], box b17 51 (awS.flatMap Sg.cells), box b1 34 (paV 1000 3600)]) (fun w hw => hw.pick [2, 3, 4] (by decide)) rfl ?_
  refine R0 ?_
  refine xCX (en Try.call26 (ha0)) (fun w hw => afleet_w w) rfl (fun _ => rfl) fun c7 => ?_
  refine xCX (en Try.call27 (ha0)) (fun w hw => adocked_w w) rfl (fun _ => rfl) fun d7 => ?_
  refine xV (e_mv (v := .slice _ _ _) (q0 rfl)) rfl rfl ?_
  refine xC (en Try.call12 (fun _ => rfl)) (fun _ w hw => mseen_w awF (awA c7) _ 1 1 awL _ 1 1 awS 0 599 w (aw_fleet hw 1 rfl) (aw_evs hw 0 rfl) (aw_sgs hw 3 rfl) (by decide) aw_pl) rfl rfl ?_
  refine xV (e_mv (q0 rfl)) rfl rfl ?_
  refine xV (e_ext (q0 rfl) rfl) rfl rfl ?_
  refine xV (e_ext (q0 rfl) rfl) rfl rfl ?_
  refine xV (e_as (v := .int _ _) (q0 rfl)) rfl rfl ?_
  refine xV (e_as (v := .int _ _) (q0 rfl)) rfl rfl ?_
  refine XN ?_
  refine thenJ_normal ?_
  refine H_seq ?_
  rw [aw7, aw9]
  refine H_mem (L' := [inRow x3.1 x3.2 [0], box b17 51 (awS.flatMap Sg.cells), box b1 34 (paV 1000 3600)]) (fun w hw => hw.pick [2, 3, 4] (by decide)) rfl ?_
  refine RA rfl (by decide +kernel) ?_
  refine aV 2 (by decide +kernel) rfl (eS Try.isAgg34 Try.sizeOf34 (q0 rfl)) rfl ?_
  refine rdy1 (i := 0) (by decide +kernel) (sub_drop 0) ?_
  refine aL rfl (f_callx (en Try.call26 (ha0)) (fun w hw => afleet_w w) rfl (fun _ => rfl) fun c8 => ?_)
  refine rdy1 (i := 1) (by decide +kernel) (sub_drop 1) ?_
  refine aL rfl (f_callx (en Try.call27 (ha0)) (fun w hw => adocked_w w) rfl (fun _ => rfl) fun d8 => ?_)
  refine aI 1 ?_
  refine rdy1 (i := 3) (by decide +kernel) (sub_drop 2) ?_
  refine aL rfl (f_callx (en Try.call19 (fun _ => rfl)) (fun w hw => reports_w awF (awA c8) _ 1 1 awL none 0 0 [] 1000 3600 1101 0 9 w (aw_fleet hw 0 rfl) (aw_evs hw 1 rfl) (sgs_nil w) (by decide) aw_pl) rfl (fun _ => rfl) fun x8 => ?_)
  refine aI 2 ?_
  refine aRL (sub_drop 3) ?_
  refine aV 4 (by decide +kernel) rfl (e_mv (q0 rfl)) rfl ?_
  refine aV 5 (by decide +kernel) rfl (e_ext (q0 rfl) rfl) rfl ?_
  refine aV 6 (by decide +kernel) rfl (e_ext (q0 rfl) rfl) rfl ?_
  refine aV 7 (by decide +kernel) rfl (e_as (v := .slice _ _ _) (q0 rfl)) rfl ?_
  refine aV 8 (by decide +kernel) rfl (e_as (v := .int _ _) (q0 rfl)) rfl ?_
  refine aZ (by decide +kernel) (sub_drop 0) ?_
  refine thenJ_normal ?_
  refine H_seq ?_
  refine H_seq ?_
  rw [aw10, aw11]
  refine H_mem (L' := [evRow x8.1 x8.2 [⟨0, 9, 1101, 1101, 9, 0, 0, 0, 0⟩], inRow x3.1 x3.2 [0]]) (fun w hw => hw.pick [2, 3] (by decide)) rfl ?_
  obtain ⟨x81, x82⟩ := x8
  refine H_know (fun w hw => rowT_at (j := 0) hw rfl (by decide)) fun ⟨q8, hq8⟩ => ?_
  simp only at hq8
  subst hq8
  refine R0 ?_
  refine xV (e_mv (v := .int _ _) (q0 rfl)) rfl rfl ?_
  refine xV (e_ne (q0 rfl) (q0 rfl)) rfl rfl ?_
  refine xV (e_mv (v := .bool _) (q0 rfl)) rfl rfl ?_
  refine xVF (e_mv (v := .int _ _) (q0 rfl)) rfl rfl rfl rfl ?_
  refine xVF (e_ne (q1 rfl) (q0 rfl)) rfl rfl rfl rfl ?_
  refine xV (e_or (q0 rfl) rfl (fun h => by first | rfl | (rw [h]; rfl))) rfl rfl ?_
  refine xV (e_mv (v := .bool _) (q0 rfl)) rfl rfl ?_
  refine xVF (e_mv (v := .int _ _) (q0 rfl)) rfl rfl rfl rfl ?_
  refine xVF (e_ne (q1 rfl) (q0 rfl)) rfl rfl rfl rfl ?_
  refine xV (e_or (q0 rfl) rfl (fun h => by first | rfl | (rw [h]; rfl))) rfl rfl ?_
  refine xV (e_mv (v := .bool _) (q0 rfl)) rfl rfl ?_
  refine xVF (e_mv (v := .int _ _) (q0 rfl)) rfl rfl rfl rfl ?_
  refine xVF (e_ne (q1 rfl) (q0 rfl)) rfl rfl rfl rfl ?_
  refine xV (e_or (q0 rfl) rfl (fun h => by first | rfl | (rw [h]; rfl))) rfl rfl ?_
  refine xV (e_mv (v := .bool _) (q0 rfl)) rfl rfl ?_
  refine xVF (e_mv (v := .int _ _) (q0 rfl)) rfl rfl rfl rfl ?_
  refine xVF (e_ne (q1 rfl) (q0 rfl)) rfl rfl rfl rfl ?_
  refine xV (e_or (q0 rfl) rfl (fun h => by first | rfl | (rw [h]; rfl))) rfl rfl ?_
  refine xV (e_mv (v := .bool _) (q0 rfl)) rfl rfl ?_
  refine xVF (e_mv (v := .int _ _) (q0 rfl)) rfl rfl rfl rfl ?_
  refine xVF (e_ne (q1 rfl) (q0 rfl)) rfl rfl rfl rfl ?_
  refine xV (e_or (q0 rfl) rfl (fun h => by first | rfl | (rw [h]; rfl))) rfl rfl ?_
  refine xV (e_mv (v := .bool _) (q0 rfl)) rfl rfl ?_
  refine xVF (e_mv (v := .slice _ _ _) (q0 rfl)) rfl rfl rfl rfl ?_
  refine xVF (e_len Try.underlying25 (q1 rfl)) rfl rfl rfl rfl ?_
  refine xVF (e_ne (q1 rfl) (q0 rfl)) rfl rfl rfl rfl ?_
  refine xV (e_or (q0 rfl) rfl (fun h => by first | rfl | (rw [h]; rfl))) rfl rfl ?_
  refine XN ?_
  refine thenJ_normal ?_
  refine H_cond rfl (fun h1 => ?_) (fun h1 => ?_)
  · exact absurd h1 (by decide)
  · have _ht : True := trivial
    refine H_skip ?_
    refine thenJ_normal ?_
    refine H_seq ?_
    refine R0 ?_
    refine xV (e_mv (v := .slice _ _ _) (q0 rfl)) rfl rfl ?_
    refine X_slit [(.int .i64 0)] Try.underlying22 Try.sizeOf3 Try.zeroValue3 rfl (by kernel_rfl) (pt (v := .int _ _) rfl E.p0) rfl rfl fun b89 => ?_
    refine xC (en Try.call16 (ha2 (q0 rfl) (q0 rfl))) (fun _ w hw => ints_w x3.1 (some ⟨b89, 0, none⟩) 1 1 x3.2 1 [0] [0] w (slAt_row hw (j := 2) rfl (fun _ => rfl) (by decide)) (slAt_box (enc := encInt) (xs := [0]) hw (j := 0) rfl (fun _ => rfl) (by decide))) rfl rfl ?_
    refine xV (e_mv (v := .bool _) (q0 rfl)) rfl rfl ?_
    refine xVT (e_mv (v := .slice _ _ _) (q0 rfl)) rfl rfl rfl rfl ?_
    refine xVT (e_len Try.underlying22 (q1 rfl)) rfl rfl rfl rfl ?_
    refine xVT (e_eq (q1 rfl) (q0 rfl)) rfl rfl rfl rfl ?_
    refine xV (e_and (q0 rfl) rfl (fun h => by first | rfl | (rw [h]; rfl))) rfl rfl ?_
    refine xV (e_mv (v := .bool _) (q0 rfl)) rfl rfl ?_
    refine xVT (e_mv (v := .slice _ _ _) (q0 rfl)) rfl rfl rfl rfl ?_
    refine xVT (e_len Try.underlying22 (q1 rfl)) rfl rfl rfl rfl ?_
    refine xVT (e_eq (q1 rfl) (q0 rfl)) rfl rfl rfl rfl ?_
    refine xV (e_and (q0 rfl) rfl (fun h => by first | rfl | (rw [h]; rfl))) rfl rfl ?_
    refine xV (e_mv (v := .bool _) (q0 rfl)) rfl rfl ?_
    refine xVT (e_mv (v := .int _ _) (q0 rfl)) rfl rfl rfl rfl ?_
    refine xVT (e_eq (q1 rfl) (q0 rfl)) rfl rfl rfl rfl ?_
    refine xV (e_and (q0 rfl) rfl (fun h => by first | rfl | (rw [h]; rfl))) rfl rfl ?_
    refine xV (e_mv (v := .bool _) (q0 rfl)) rfl rfl ?_
    refine xVT (e_mv (v := .int _ _) (q0 rfl)) rfl rfl rfl rfl ?_
    refine xVT (e_eq (q1 rfl) (q0 rfl)) rfl rfl rfl rfl ?_
    refine xV (e_and (q0 rfl) rfl (fun h => by first | rfl | (rw [h]; rfl))) rfl rfl ?_
    refine xV (e_mv (v := .bool _) (q0 rfl)) rfl rfl ?_
    refine xVT (e_mv (v := .slice _ _ _) (q0 rfl)) rfl rfl rfl rfl ?_
    refine xVT (e_idx 0 Try.underlying25 Try.sizeOf49 (q1 rfl) (q0 rfl) (fun _ => ⟨rfl, by decide⟩)) rfl rfl rfl rfl ?_
    refine xVT (e_lds Try.isAgg49 Try.sizeOf49 (q1 rfl) (rrs 1 rfl (x := ⟨0, 9, 1101, 1101, 9, 0, 0, 0, 0⟩) rfl) rfl) rfl rfl rfl rfl ?_
    refine xVT (EvG.any (e_build Try.underlying49 fl49 Try.zeroValue49 (pt (v := .int _ _) rfl (pt (v := .int _ _) rfl (pt (v := .int _ _) rfl (pt (v := .int _ _) rfl E.p0)))) rfl)) rfl rfl rfl rfl ?_
    refine xVT (e_eqS (fun w => same18_w_eq ⟨0, 9, 1101, 1101, 9, 0, 0, 0, 0⟩ ⟨0, 9, 1101, 1101, 9, 0, 0, 0, 0⟩ w) (by kernel_rfl) (q1 rfl) (q1 rfl)) rfl rfl rfl rfl ?_
    refine xV (e_and (q0 rfl) rfl (fun h => by first | rfl | (rw [h]; rfl))) rfl rfl ?_
    refine xV (e_mv (v := .bool _) (q0 rfl)) rfl rfl ?_
    refine xVT (EvG.any (e_build Try.underlying34 fl34 Try.zeroValue34 E.p0 rfl)) rfl rfl rfl rfl ?_
    refine xCT (en Try.call17 (ha1 (q1 (v := .agg _) rfl))) (fun _ w hw => check_w 0 0 w) rfl rfl rfl rfl ?_
    refine xVT (e_eq (q1 rfl) (q0 rfl)) rfl rfl rfl rfl ?_
    refine xV (e_and (q0 rfl) rfl (fun h => by first | rfl | (rw [h]; rfl))) rfl rfl ?_
    refine xV (e_as (v := .bool _) (q0 rfl)) rfl rfl ?_
    refine XN ?_
    refine thenJ_normal ?_
    refine H_ret ?_
    exact ret1 (v := .bool _) rfl rfl rfl fun w' hw => ⟨ret_bool (by decide), hw.1⟩

end Go.Proofs.Mis

/-
  The walks of the laws: what is seen, overdue and reported is as specified; greater limits.
-/
namespace Go.Proofs.Mis
open Go Go.RowKit Go.Proofs.E Go.Proofs.Cus Go.ChangeShapes Go.WideShapes Go.ChangeAt

attribute [local irreducible] overOf overErr seenOf atErr repErr repOf flErr chkP
set_option maxRecDepth 20000 in
theorem rmseen_w (f : Fl) (a : FA) (A : Option Addr) (n c : Nat) (xs : List Ev) (sA : Option Addr) (sn sc : Nat) (signs : List Sg) (bike now : Int) (w : World) (hf : FlAt w f a) (hx : EvsAt w A n xs) (hs : SgsAt w sA sn signs) (hn : n ≤ 1000) (hpl : PlOk xs) :
    Calls Try.prog 13 #[.agg (f.cells a).toArray, .slice A n c, .slice sA sn sc, .int .i64 bike, .int .i64 now] w fun r w' => r = .returned (.tuple #[.int .i64 (seenOf f xs signs bike now), .int .i64 (atErr f bike now)]) ∧ Bel w w' := by
  have hxl := hx.1
  have hal := accOf_len f xs
  refine H_enter Try.func13 rfl Try.ntmps13 rfl ?_
  refine H_seq ?_
  refine R0 ?_
  refine X_box (v := .agg _) rfl rfl fun b5 => ?_
  refine xV (e_as (v := .int _ _) (q0 rfl)) rfl rfl ?_
  refine xV (e_as (v := .int _ _) (q0 rfl)) rfl rfl ?_
  refine XN ?_
  refine thenJ_normal ?_
  refine H_seq ?_
  refine R0 ?_
  refine xV (eS Try.isAgg24 Try.sizeOf24 (q0 rfl)) rfl rfl ?_
  refine xV (e_mv (v := .slice _ _ _) (q0 rfl)) rfl rfl ?_
  refine xCX (en Try.call30 (ha2 (q0 rfl) (q0 rfl))) (fun w hw => raccepted_w f a A n c xs w (hf.mem hw) (hx.mem hw) (by omega) hpl) rfl (fun _ => rfl) fun r1 => ?_
  refine xV (e_mv (q0 rfl)) rfl rfl ?_
  refine xV (e_ext (q0 rfl) rfl) rfl rfl ?_
  refine xV (e_ext (q0 rfl) rfl) rfl rfl ?_
  refine xV (e_as (v := .slice _ _ _) (q0 rfl)) rfl rfl ?_
  refine xV (e_as (v := .int _ _) (q0 rfl)) rfl rfl ?_
  refine XN ?_
  refine thenJ_normal ?_
  refine H_seq ?_
  refine H_block ?_
  refine H_seq ?_
  refine R0 ?_
  refine xV (e_mv (v := .int _ _) (q0 rfl)) rfl rfl ?_
  refine xV (e_ne (q0 rfl) (q0 rfl)) rfl rfl ?_
  refine xV (e_as (v := .bool _) (q0 rfl)) rfl rfl ?_
  refine XN ?_
  refine thenJ_normal ?_
  refine H_cond rfl (fun h1 => ?_) (fun h1 => ?_)
  · have h1' : flErr f ≠ 0 := by simpa using h1
    have he : atErr f bike now = flErr f := by unfold atErr; rw [if_pos h1']
    have ho : seenOf f xs signs bike now = 0 := by unfold seenOf; rw [he, if_neg h1']
    rw [he, ho]
    refine H_seq ?_
    refine R0 ?_
    refine xV (e_mv (v := .int _ _) (q0 rfl)) rfl rfl ?_
    refine xV (e_as (v := .int _ _) (q0 rfl)) rfl rfl ?_
    refine xV (e_as (v := .int _ _) (q0 rfl)) rfl rfl ?_
    refine XN ?_
    refine thenJ_normal ?_
    refine H_ret ?_
    refine blockJ_ret ?_
    refine thenJ_ret ?_
    exact ret2 (v := .int _ _) (x := .int _ _) rfl rfl rfl rfl fun w' hw => ⟨rfl, hw.1⟩
  · have h1' : flErr f = 0 := by simpa using h1
    obtain ⟨hbk, -⟩ := flErr_ok h1'
    have hnb := nb_eq h1'
    refine H_seq ?_
    refine R0 ?_
    refine xV (e_mv (v := .int _ _) (q0 rfl)) rfl rfl ?_
    refine xV (e_lt (q0 rfl) (q0 rfl)) rfl rfl ?_
    refine xV (e_mv (v := .bool _) (q0 rfl)) rfl rfl ?_
    refine xVF (e_mv (v := .int _ _) (q0 rfl)) rfl rfl rfl rfl ?_
    refine xVF (e_fld Try.underlying24 rfl Try.sizeOf3 rfl (q0 rfl)) rfl rfl rfl rfl ?_
    refine xVF (eL Try.isAgg3 (q1 rfl)) rfl rfl rfl rfl ?_
    refine xVF (e_ge (q1 rfl) (q1 rfl)) rfl rfl rfl rfl ?_
    refine xV (e_or (q0 rfl) rfl (fun h => by first | rfl | (rw [h]; rfl))) rfl rfl ?_
    refine xV (e_as (v := .bool _) (q0 rfl)) rfl rfl ?_
    refine XN ?_
    refine thenJ_normal ?_
    refine H_cond rfl (fun h2 => ?_) (fun h2 => ?_)
    · have he : atErr f bike now = 7 := by unfold atErr; rw [if_neg (fun h => h h1'), if_pos h2]
      have ho : seenOf f xs signs bike now = 0 := by unfold seenOf; rw [he, if_neg (by decide)]
      rw [he, ho]
      refine H_seq ?_
      refine R0 ?_
      refine xV (e_as (v := .int _ _) (q0 rfl)) rfl rfl ?_
      refine xV (e_as (v := .int _ _) (q0 rfl)) rfl rfl ?_
      refine XN ?_
      refine thenJ_normal ?_
      refine H_ret ?_
      refine blockJ_ret ?_
      refine thenJ_ret ?_
      exact ret2 (v := .int _ _) (x := .int _ _) rfl rfl rfl rfl fun w' hw => ⟨rfl, hw.1⟩
    · refine H_seq ?_
      refine R0 ?_
      refine xV (e_mv (v := .int _ _) (q0 rfl)) rfl rfl ?_
      refine xV (e_lt (q0 rfl) (q0 rfl)) rfl rfl ?_
      refine xV (e_mv (v := .bool _) (q0 rfl)) rfl rfl ?_
      refine xVF (e_mv (v := .int _ _) (q0 rfl)) rfl rfl rfl rfl ?_
      refine xVF (e_gt (q1 rfl) (q0 rfl)) rfl rfl rfl rfl ?_
      refine xV (e_or (q0 rfl) rfl (fun h => by first | rfl | (rw [h]; rfl))) rfl rfl ?_
      refine xV (e_as (v := .bool _) (q0 rfl)) rfl rfl ?_
      refine XN ?_
      refine thenJ_normal ?_
      refine H_cond rfl (fun h3 => ?_) (fun h3 => ?_)
      · have he : atErr f bike now = 1 := by unfold atErr; rw [if_neg (fun h => h h1'), if_neg (by rw [h2]; decide), if_pos h3]
        have ho : seenOf f xs signs bike now = 0 := by unfold seenOf; rw [he, if_neg (by decide)]
        rw [he, ho]
        refine H_seq ?_
        refine R0 ?_
        refine xV (e_as (v := .int _ _) (q0 rfl)) rfl rfl ?_
        refine xV (e_as (v := .int _ _) (q0 rfl)) rfl rfl ?_
        refine XN ?_
        refine thenJ_normal ?_
        refine H_ret ?_
        refine blockJ_ret ?_
        refine thenJ_ret ?_
        exact ret2 (v := .int _ _) (x := .int _ _) rfl rfl rfl rfl fun w' hw => ⟨rfl, hw.1⟩
      · have he : atErr f bike now = 0 := by unfold atErr; rw [if_neg (fun h => h h1'), if_neg (by rw [h2]; decide), if_neg (by rw [h3]; decide)]
        have ho : seenOf f xs signs bike now = sv (notices (accOf f xs) signs) bike now := by unfold seenOf; rw [if_pos he]
        obtain ⟨hrep, _⟩ := replay_of h1' xs (fun _ => ())
        rw [he, ho]
        refine H_skip ?_
        refine blockJ_normal ?_
        refine thenJ_normal ?_
        refine H_seq ?_
        refine R0 ?_
        refine xV (e_mv (v := .slice _ _ _) (q0 rfl)) rfl rfl ?_
        refine xV (e_mv (v := .slice _ _ _) (q0 rfl)) rfl rfl ?_
        refine xV (e_mv (v := .int _ _) (q0 rfl)) rfl rfl ?_
        refine xV (e_mv (v := .int _ _) (q0 rfl)) rfl rfl ?_
        refine xC (en Try.call31 (ha4 (q0 rfl) (q0 rfl) (q0 rfl) (q0 rfl))) (fun _ w hw => rseen_w f (nbOf f) r1.1 _ r1.2 (accOf f xs) sA sn sc signs bike now w hnb hrep (slAt_row hw (j := 0) rfl (fun _ => rfl) (by omega)) (hs.mem hw)) rfl rfl ?_
        refine xV (e_as (v := .int _ _) (q0 rfl)) rfl rfl ?_
        refine xV (e_as (v := .int _ _) (q0 rfl)) rfl rfl ?_
        refine XN ?_
        refine thenJ_normal ?_
        refine H_ret ?_
        exact ret2 (v := .int _ _) (x := .int _ _) rfl rfl rfl rfl fun w' hw => ⟨rfl, hw.1⟩
theorem seenLaw_w (f : Fl) (a : FA) (A : Option Addr) (n c : Nat) (xs : List Ev) (sA : Option Addr) (sn sc : Nat) (signs : List Sg) (bike now : Int) (w : World) (hf : FlAt w f a) (hx : EvsAt w A n xs) (hs : SgsAt w sA sn signs) (hpl : PlOk xs) :
    Calls Try.prog 3 #[.agg (f.cells a).toArray, .slice A n c, .slice sA sn sc, .int .i64 bike, .int .i64 now] w fun r w' => r = .returned (.bool true) ∧ Bel w w' := by
  refine H_enter Try.func3 rfl Try.ntmps3 rfl ?_
  refine H_seq ?_
  refine R0 ?_
  refine X_box (v := .agg _) rfl rfl fun b5 => ?_
  refine xV (e_as (v := .bool _) (q0 rfl)) rfl rfl ?_
  refine XN ?_
  refine thenJ_normal ?_
  refine H_seq ?_
  refine H_seq ?_
  refine R0 ?_
  refine xV (eS Try.isAgg24 Try.sizeOf24 (q0 rfl)) rfl rfl ?_
  refine xV (e_mv (v := .slice _ _ _) (q0 rfl)) rfl rfl ?_
  refine xV (e_mv (v := .slice _ _ _) (q0 rfl)) rfl rfl ?_
  refine xC (en Try.call10 (ha3 (q0 rfl) (q0 rfl) (q0 rfl))) (fun _ w _ => mfew_w f a A n c sA sn sc w) rfl rfl ?_
  refine xV (e_not (q0 rfl)) rfl rfl ?_
  refine XN ?_
  refine thenJ_normal ?_
  refine H_cond rfl (fun h0 => ?_) (fun h0 => ?_)
  · refine H_seq ?_
    refine R0 ?_
    refine xC (en Try.call11 (ha0)) (fun _ w _ => awake_w w) rfl rfl ?_
    refine xV (e_as (v := .bool _) (q0 rfl)) rfl rfl ?_
    refine XN ?_
    refine thenJ_normal ?_
    refine H_ret ?_
    refine thenJ_ret ?_
    exact ret1 (v := .bool _) rfl rfl rfl fun w' hw => ⟨rfl, hw.1⟩
  · obtain ⟨hn, _⟩ := mfew_n h0
    refine H_skip ?_
    refine thenJ_normal ?_
    refine H_seq ?_
    refine R0 ?_
    refine xV (eS Try.isAgg24 Try.sizeOf24 (q0 rfl)) rfl rfl ?_
    refine xV (e_mv (v := .slice _ _ _) (q0 rfl)) rfl rfl ?_
    refine xV (e_mv (v := .slice _ _ _) (q0 rfl)) rfl rfl ?_
    refine xV (e_mv (v := .int _ _) (q0 rfl)) rfl rfl ?_
    refine xV (e_mv (v := .int _ _) (q0 rfl)) rfl rfl ?_
    refine xC (en Try.call12 (fun _ => rfl)) (fun _ w hw => mseen_w f a A n c xs sA sn sc signs bike now w (hf.mem hw) (hx.mem hw) (hs.mem hw) (by omega) hpl) rfl rfl ?_
    refine xV (e_mv (q0 rfl)) rfl rfl ?_
    refine xV (e_ext (q0 rfl) rfl) rfl rfl ?_
    refine xV (e_ext (q0 rfl) rfl) rfl rfl ?_
    refine xV (e_as (v := .int _ _) (q0 rfl)) rfl rfl ?_
    refine xV (e_as (v := .int _ _) (q0 rfl)) rfl rfl ?_
    refine XN ?_
    refine thenJ_normal ?_
    refine H_seq ?_
    refine R0 ?_
    refine xV (eS Try.isAgg24 Try.sizeOf24 (q0 rfl)) rfl rfl ?_
    refine xV (e_mv (v := .slice _ _ _) (q0 rfl)) rfl rfl ?_
    refine xV (e_mv (v := .slice _ _ _) (q0 rfl)) rfl rfl ?_
    refine xV (e_mv (v := .int _ _) (q0 rfl)) rfl rfl ?_
    refine xV (e_mv (v := .int _ _) (q0 rfl)) rfl rfl ?_
    refine xC (en Try.call13 (fun _ => rfl)) (fun _ w hw => rmseen_w f a A n c xs sA sn sc signs bike now w (hf.mem hw) (hx.mem hw) (hs.mem hw) (by omega) hpl) rfl rfl ?_
    refine xV (e_mv (q0 rfl)) rfl rfl ?_
    refine xV (e_ext (q0 rfl) rfl) rfl rfl ?_
    refine xV (e_ext (q0 rfl) rfl) rfl rfl ?_
    refine xV (e_as (v := .int _ _) (q0 rfl)) rfl rfl ?_
    refine xV (e_as (v := .int _ _) (q0 rfl)) rfl rfl ?_
    refine XN ?_
    refine thenJ_normal ?_
    refine H_seq ?_
    refine R0 ?_
    refine xV (e_mv (v := .int _ _) (q0 rfl)) rfl rfl ?_
    refine xV (e_mv (v := .int _ _) (q0 rfl)) rfl rfl ?_
    refine xV (e_eq (q0 rfl) (q0 rfl)) rfl rfl ?_
    refine xV (e_mv (v := .bool _) (q0 rfl)) rfl rfl ?_
    refine xVT (e_mv (v := .int _ _) (q0 rfl)) rfl rfl rfl rfl ?_
    refine xVT (e_mv (v := .int _ _) (q0 rfl)) rfl rfl rfl rfl ?_
    refine xVT (e_eq (q1 rfl) (q1 rfl)) rfl rfl rfl rfl ?_
    refine xV (e_and (q0 rfl) rfl (fun h => by first | rfl | (rw [h]; rfl))) rfl rfl ?_
    refine xV (e_mv (v := .bool _) (q0 rfl)) rfl rfl ?_
    refine xCT (en Try.call11 (ha0)) (fun _ w _ => awake_w w) rfl rfl rfl rfl ?_
    refine xV (e_and (q0 rfl) rfl (fun h => by first | rfl | (rw [h]; rfl))) rfl rfl ?_
    refine xV (e_as (v := .bool _) (q0 rfl)) rfl rfl ?_
    refine XN ?_
    refine thenJ_normal ?_
    refine H_ret ?_
    exact ret1 (v := .bool _) rfl rfl rfl fun w' hw => ⟨ret_bool (by simp), hw.1⟩
theorem overdueLaw_w (f : Fl) (a : FA) (A : Option Addr) (n c : Nat) (xs : List Ev) (sA : Option Addr) (sn sc : Nat) (signs : List Sg) (si ri now : Int) (w : World) (hf : FlAt w f a) (hx : EvsAt w A n xs) (hs : SgsAt w sA sn signs) (hpl : PlOk xs) :
    Calls Try.prog 4 #[.agg (f.cells a).toArray, .slice A n c, .slice sA sn sc, .agg (paV si ri).toArray, .int .i64 now] w fun r w' => r = .returned (.bool true) ∧ Bel w w' := by
  have hol := overOf_len f xs signs si ri now
  refine H_enter Try.func4 rfl Try.ntmps4 rfl ?_
  refine H_seq ?_
  refine R0 ?_
  refine X_box (v := .agg _) rfl rfl fun b5 => ?_
  refine X_box (v := .agg _) rfl rfl fun b8 => ?_
  refine xV (e_as (v := .bool _) (q0 rfl)) rfl rfl ?_
  refine XN ?_
  refine thenJ_normal ?_
  refine H_seq ?_
  refine H_seq ?_
  refine R0 ?_
  refine xV (eS Try.isAgg24 Try.sizeOf24 (q0 rfl)) rfl rfl ?_
  refine xV (e_mv (v := .slice _ _ _) (q0 rfl)) rfl rfl ?_
  refine xV (e_mv (v := .slice _ _ _) (q0 rfl)) rfl rfl ?_
  refine xC (en Try.call10 (ha3 (q0 rfl) (q0 rfl) (q0 rfl))) (fun _ w _ => mfew_w f a A n c sA sn sc w) rfl rfl ?_
  refine xV (e_not (q0 rfl)) rfl rfl ?_
  refine XN ?_
  refine thenJ_normal ?_
  refine H_cond rfl (fun h0 => ?_) (fun h0 => ?_)
  · refine H_seq ?_
    refine R0 ?_
    refine xC (en Try.call11 (ha0)) (fun _ w _ => awake_w w) rfl rfl ?_
    refine xV (e_as (v := .bool _) (q0 rfl)) rfl rfl ?_
    refine XN ?_
    refine thenJ_normal ?_
    refine H_ret ?_
    refine thenJ_ret ?_
    exact ret1 (v := .bool _) rfl rfl rfl fun w' hw => ⟨rfl, hw.1⟩
  · obtain ⟨hn, _⟩ := mfew_n h0
    refine H_skip ?_
    refine thenJ_normal ?_
    refine H_seq ?_
    refine R0 ?_
    refine xV (eS Try.isAgg24 Try.sizeOf24 (q0 rfl)) rfl rfl ?_
    refine xV (e_mv (v := .slice _ _ _) (q0 rfl)) rfl rfl ?_
    refine xV (e_mv (v := .slice _ _ _) (q0 rfl)) rfl rfl ?_
    refine xV (eS Try.isAgg34 Try.sizeOf34 (q0 rfl)) rfl rfl ?_
    refine xV (e_mv (v := .int _ _) (q0 rfl)) rfl rfl ?_
    refine xCX (en Try.call14 (fun _ => rfl)) (fun w hw => overdue_w f a A n c xs sA sn sc signs si ri now w (hf.mem hw) (hx.mem hw) (hs.mem hw) (by omega) hpl) rfl (fun _ => rfl) fun x => ?_
    refine xV (e_mv (q0 rfl)) rfl rfl ?_
    refine xV (e_ext (q0 rfl) rfl) rfl rfl ?_
    refine xV (e_ext (q0 rfl) rfl) rfl rfl ?_
    refine xV (e_as (v := .slice _ _ _) (q0 rfl)) rfl rfl ?_
    refine xV (e_as (v := .int _ _) (q0 rfl)) rfl rfl ?_
    refine XN ?_
    refine thenJ_normal ?_
    refine H_seq ?_
    refine R0 ?_
    refine xV (eS Try.isAgg24 Try.sizeOf24 (q0 rfl)) rfl rfl ?_
    refine xV (e_mv (v := .slice _ _ _) (q0 rfl)) rfl rfl ?_
    refine xV (e_mv (v := .slice _ _ _) (q0 rfl)) rfl rfl ?_
    refine xV (eS Try.isAgg34 Try.sizeOf34 (q0 rfl)) rfl rfl ?_
    refine xV (e_mv (v := .int _ _) (q0 rfl)) rfl rfl ?_
    refine xCX (en Try.call15 (fun _ => rfl)) (fun w hw => roverdue_w f a A n c xs sA sn sc signs si ri now w (hf.mem hw) (hx.mem hw) (hs.mem hw) (by omega) hpl) rfl (fun _ => rfl) fun y => ?_
    refine xV (e_mv (q0 rfl)) rfl rfl ?_
    refine xV (e_ext (q0 rfl) rfl) rfl rfl ?_
    refine xV (e_ext (q0 rfl) rfl) rfl rfl ?_
    refine xV (e_as (v := .slice _ _ _) (q0 rfl)) rfl rfl ?_
    refine xV (e_as (v := .int _ _) (q0 rfl)) rfl rfl ?_
    refine XN ?_
    refine thenJ_normal ?_
    refine H_seq ?_
    refine R1 rfl (by decide +kernel) ?_
    refine xV (e_mv (v := .slice _ _ _) (q0 rfl)) rfl rfl ?_
    refine xV (e_mv (v := .slice _ _ _) (q0 rfl)) rfl rfl ?_
    refine xC (en Try.call16 (ha2 (q0 rfl) (q0 rfl))) (fun _ w hw => ints_w x.1 y.1 _ _ x.2 y.2 _ _ w (slAt_row hw (j := 1) rfl (fun _ => rfl) (by omega)) (slAt_row hw (j := 0) rfl (fun _ => rfl) (by omega))) rfl rfl ?_
    refine xV (e_mv (v := .bool _) (q0 rfl)) rfl rfl ?_
    refine xVT (e_mv (v := .int _ _) (q0 rfl)) rfl rfl rfl rfl ?_
    refine xVT (e_mv (v := .int _ _) (q0 rfl)) rfl rfl rfl rfl ?_
    refine xVT (e_eq (q1 rfl) (q1 rfl)) rfl rfl rfl rfl ?_
    refine xV (e_and (q0 rfl) rfl (fun h => by first | rfl | (rw [h]; rfl))) rfl rfl ?_
    refine xV (e_mv (v := .bool _) (q0 rfl)) rfl rfl ?_
    refine xVT (eS Try.isAgg34 Try.sizeOf34 (q0 rfl)) rfl rfl rfl rfl ?_
    refine xCT (en Try.call17 (ha1 (q1 (v := .agg _) rfl))) (fun _ w _ => check_w si ri w) rfl rfl rfl rfl ?_
    refine xVT (eS Try.isAgg34 Try.sizeOf34 (q0 rfl)) rfl rfl rfl rfl ?_
    refine xCT (en Try.call18 (ha1 (q1 (v := .agg _) rfl))) (fun _ w _ => rcheck_w si ri w) rfl rfl rfl rfl ?_
    refine xVT (e_eq (q1 rfl) (q1 rfl)) rfl rfl rfl rfl ?_
    refine xV (e_and (q0 rfl) rfl (fun h => by first | rfl | (rw [h]; rfl))) rfl rfl ?_
    refine xV (e_mv (v := .bool _) (q0 rfl)) rfl rfl ?_
    refine xCT (en Try.call11 (ha0)) (fun _ w _ => awake_w w) rfl rfl rfl rfl ?_
    refine xV (e_and (q0 rfl) rfl (fun h => by first | rfl | (rw [h]; rfl))) rfl rfl ?_
    refine xV (e_as (v := .bool _) (q0 rfl)) rfl rfl ?_
    refine XN ?_
    refine thenJ_normal ?_
    refine H_ret ?_
    exact ret1 (v := .bool _) rfl rfl rfl fun w' hw => ⟨ret_bool (by simp), hw.1⟩
theorem patienceLaw_w (f : Fl) (a : FA) (A : Option Addr) (n c : Nat) (xs : List Ev) (sA : Option Addr) (sn sc : Nat) (signs : List Sg) (si ri si2 ri2 now : Int) (w : World) (hf : FlAt w f a) (hx : EvsAt w A n xs) (hs : SgsAt w sA sn signs) (hpl : PlOk xs) :
    Calls Try.prog 6 #[.agg (f.cells a).toArray, .slice A n c, .slice sA sn sc, .agg (paV si ri).toArray, .agg (paV si2 ri2).toArray, .int .i64 now] w fun r w' => r = .returned (.bool true) ∧ Bel w w' := by
  have hol := overOf_len f xs signs si ri now
  have hol2 := overOf_len f xs signs si2 ri2 now
  refine H_enter Try.func6 rfl Try.ntmps6 rfl ?_
  refine H_seq ?_
  refine R0 ?_
  refine X_box (v := .agg _) rfl rfl fun b6 => ?_
  refine X_box (v := .agg _) rfl rfl fun b9 => ?_
  refine X_box (v := .agg _) rfl rfl fun b10 => ?_
  refine xV (e_as (v := .bool _) (q0 rfl)) rfl rfl ?_
  refine XN ?_
  refine thenJ_normal ?_
  refine H_seq ?_
  refine H_seq ?_
  refine R0 ?_
  refine xV (eS Try.isAgg24 Try.sizeOf24 (q0 rfl)) rfl rfl ?_
  refine xV (e_mv (v := .slice _ _ _) (q0 rfl)) rfl rfl ?_
  refine xV (e_mv (v := .slice _ _ _) (q0 rfl)) rfl rfl ?_
  refine xC (en Try.call10 (ha3 (q0 rfl) (q0 rfl) (q0 rfl))) (fun _ w _ => mfew_w f a A n c sA sn sc w) rfl rfl ?_
  refine xV (e_not (q0 rfl)) rfl rfl ?_
  refine xV (e_mv (v := .bool _) (q0 rfl)) rfl rfl ?_
  refine xVF (e_fld Try.underlying34 rfl Try.sizeOf3 rfl (q0 rfl)) rfl rfl rfl rfl ?_
  refine xVF (eL Try.isAgg3 (q1 rfl)) rfl rfl rfl rfl ?_
  refine xVF (e_fld Try.underlying34 rfl Try.sizeOf3 rfl (q0 rfl)) rfl rfl rfl rfl ?_
  refine xVF (eL Try.isAgg3 (q1 rfl)) rfl rfl rfl rfl ?_
  refine xVF (e_lt (q1 rfl) (q1 rfl)) rfl rfl rfl rfl ?_
  refine xV (e_or (q0 rfl) rfl (fun h => by first | rfl | (rw [h]; rfl))) rfl rfl ?_
  refine xV (e_mv (v := .bool _) (q0 rfl)) rfl rfl ?_
  refine xVF (e_fld Try.underlying34 rfl Try.sizeOf3 rfl (q0 rfl)) rfl rfl rfl rfl ?_
  refine xVF (eL Try.isAgg3 (q1 rfl)) rfl rfl rfl rfl ?_
  refine xVF (e_fld Try.underlying34 rfl Try.sizeOf3 rfl (q0 rfl)) rfl rfl rfl rfl ?_
  refine xVF (eL Try.isAgg3 (q1 rfl)) rfl rfl rfl rfl ?_
  refine xVF (e_lt (q1 rfl) (q1 rfl)) rfl rfl rfl rfl ?_
  refine xV (e_or (q0 rfl) rfl (fun h => by first | rfl | (rw [h]; rfl))) rfl rfl ?_
  refine XN ?_
  refine thenJ_normal ?_
  refine H_cond rfl (fun h0 => ?_) (fun h0 => ?_)
  · refine H_seq ?_
    refine R0 ?_
    refine xC (en Try.call11 (ha0)) (fun _ w _ => awake_w w) rfl rfl ?_
    refine xV (e_as (v := .bool _) (q0 rfl)) rfl rfl ?_
    refine XN ?_
    refine thenJ_normal ?_
    refine H_ret ?_
    refine thenJ_ret ?_
    exact ret1 (v := .bool _) rfl rfl rfl fun w' hw => ⟨rfl, hw.1⟩
  · simp only [Bool.or_eq_false_iff, decide_eq_false_iff_not] at h0
    obtain ⟨⟨h0, h0a⟩, h0b⟩ := h0
    obtain ⟨hn, _⟩ := mfew_n h0
    refine H_skip ?_
    refine thenJ_normal ?_
    refine H_seq ?_
    refine R0 ?_
    refine xV (eS Try.isAgg24 Try.sizeOf24 (q0 rfl)) rfl rfl ?_
    refine xV (e_mv (v := .slice _ _ _) (q0 rfl)) rfl rfl ?_
    refine xV (e_mv (v := .slice _ _ _) (q0 rfl)) rfl rfl ?_
    refine xV (eS Try.isAgg34 Try.sizeOf34 (q0 rfl)) rfl rfl ?_
    refine xV (e_mv (v := .int _ _) (q0 rfl)) rfl rfl ?_
    refine xCX (en Try.call14 (fun _ => rfl)) (fun w hw => overdue_w f a A n c xs sA sn sc signs si ri now w (hf.mem hw) (hx.mem hw) (hs.mem hw) (by omega) hpl) rfl (fun _ => rfl) fun x => ?_
    refine xV (e_mv (q0 rfl)) rfl rfl ?_
    refine xV (e_ext (q0 rfl) rfl) rfl rfl ?_
    refine xV (e_ext (q0 rfl) rfl) rfl rfl ?_
    refine xV (e_as (v := .slice _ _ _) (q0 rfl)) rfl rfl ?_
    refine xV (e_as (v := .int _ _) (q0 rfl)) rfl rfl ?_
    refine XN ?_
    refine thenJ_normal ?_
    refine H_seq ?_
    refine R0 ?_
    refine xV (eS Try.isAgg24 Try.sizeOf24 (q0 rfl)) rfl rfl ?_
    refine xV (e_mv (v := .slice _ _ _) (q0 rfl)) rfl rfl ?_
    refine xV (e_mv (v := .slice _ _ _) (q0 rfl)) rfl rfl ?_
    refine xV (eS Try.isAgg34 Try.sizeOf34 (q0 rfl)) rfl rfl ?_
    refine xV (e_mv (v := .int _ _) (q0 rfl)) rfl rfl ?_
    refine xCX (en Try.call14 (fun _ => rfl)) (fun w hw => overdue_w f a A n c xs sA sn sc signs si2 ri2 now w (hf.mem hw) (hx.mem hw) (hs.mem hw) (by omega) hpl) rfl (fun _ => rfl) fun y => ?_
    refine xV (e_mv (q0 rfl)) rfl rfl ?_
    refine xV (e_ext (q0 rfl) rfl) rfl rfl ?_
    refine xV (e_ext (q0 rfl) rfl) rfl rfl ?_
    refine xV (e_as (v := .slice _ _ _) (q0 rfl)) rfl rfl ?_
    refine xV (e_as (v := .int _ _) (q0 rfl)) rfl rfl ?_
    refine XN ?_
    refine thenJ_normal ?_
    refine H_seq ?_
    refine H_seq ?_
    refine R0 ?_
    refine xV (e_mv (v := .int _ _) (q0 rfl)) rfl rfl ?_
    refine xV (e_ne (q0 rfl) (q0 rfl)) rfl rfl ?_
    refine xV (e_mv (v := .bool _) (q0 rfl)) rfl rfl ?_
    refine xVF (e_mv (v := .int _ _) (q0 rfl)) rfl rfl rfl rfl ?_
    refine xVF (e_ne (q1 rfl) (q0 rfl)) rfl rfl rfl rfl ?_
    refine xV (e_or (q0 rfl) rfl (fun h => by first | rfl | (rw [h]; rfl))) rfl rfl ?_
    refine XN ?_
    refine thenJ_normal ?_
    have hz1 : overErr f si ri now ≠ 0 → overOf f xs signs si ri now = [] := fun h => by unfold overOf; rw [if_neg h]
    have hz2 : overErr f si2 ri2 now ≠ 0 → overOf f xs signs si2 ri2 now = [] := fun h => by unfold overOf; rw [if_neg h]
    refine H_cond rfl (fun h1 => ?_) (fun h1 => ?_)
    · refine H_seq ?_
      refine R0 ?_
      refine xV (e_mv (v := .int _ _) (q0 rfl)) rfl rfl ?_
      refine xV (e_eq (q0 rfl) (q0 rfl)) rfl rfl ?_
      refine xV (e_mv (v := .bool _) (q0 rfl)) rfl rfl ?_
      refine xVF (e_mv (v := .slice _ _ _) (q0 rfl)) rfl rfl rfl rfl ?_
      refine xVF (e_len Try.underlying22 (q1 rfl)) rfl rfl rfl rfl ?_
      refine xVF (e_eq (q1 rfl) (q0 rfl)) rfl rfl rfl rfl ?_
      refine xV (e_or (q0 rfl) rfl (fun h => by first | rfl | (rw [h]; rfl))) rfl rfl ?_
      refine xV (e_mv (v := .bool _) (q0 rfl)) rfl rfl ?_
      refine xVT (e_mv (v := .int _ _) (q0 rfl)) rfl rfl rfl rfl ?_
      refine xVT (e_eq (q1 rfl) (q0 rfl)) rfl rfl rfl rfl ?_
      refine xVT (e_mv (v := .bool _) (q1 rfl)) rfl rfl rfl rfl ?_
      refine xVF2 (e_mv (v := .slice _ _ _) (q0 rfl)) rfl rfl rfl rfl ?_
      refine xVF2 (e_len Try.underlying22 (q1 rfl)) rfl rfl rfl rfl ?_
      refine xVF2 (e_eq (q1 rfl) (q0 rfl)) rfl rfl rfl rfl ?_
      refine xVT (e_or (q1 rfl) rfl (fun h => by first | rfl | (rw [h]; rfl))) rfl rfl rfl rfl ?_
      refine xV (e_and (q0 rfl) rfl (fun h => by first | rfl | (rw [h]; rfl))) rfl rfl ?_
      refine xV (e_mv (v := .bool _) (q0 rfl)) rfl rfl ?_
      refine xCT (en Try.call11 (ha0)) (fun _ w _ => awake_w w) rfl rfl rfl rfl ?_
      refine xV (e_and (q0 rfl) rfl (fun h => by first | rfl | (rw [h]; rfl))) rfl rfl ?_
      refine xV (e_as (v := .bool _) (q0 rfl)) rfl rfl ?_
      refine XN ?_
      refine thenJ_normal ?_
      refine H_ret ?_
      refine thenJ_ret ?_
      exact ret1 (v := .bool _) rfl rfl rfl fun w' hw => ⟨ret_bool (by
        by_cases e1 : overErr f si ri now = 0 <;> by_cases e2 : overErr f si2 ri2 now = 0 <;> simp [e1, e2, hz1, hz2]), hw.1⟩
    · have e1 : overErr f si ri now = 0 := by simp at h1; exact h1.1
      have e2 : overErr f si2 ri2 now = 0 := by simp at h1; exact h1.2
      have hsub : ∀ v ∈ overOf f xs signs si2 ri2 now, v ∈ overOf f xs signs si ri now := fun v hv => by
        unfold overOf at hv ⊢
        rw [if_pos e1]
        rw [if_pos e2] at hv
        exact over_mono (by omega) (by omega) hv
      have hsort : (overOf f xs signs si2 ri2 now).Pairwise (· < ·) := by unfold overOf; rw [if_pos e2]; exact over_sorted
      generalize overOf f xs signs si ri now = p at *
      generalize overOf f xs signs si2 ri2 now = q at *
      obtain ⟨x1, x2⟩ := x
      obtain ⟨y1, y2⟩ := y
      refine H_skip ?_
      refine thenJ_normal ?_
      refine H_seq ?_
      refine H_seq ?_
      refine R0 ?_
      refine xV (e_as (v := .int _ _) (q0 rfl)) rfl rfl ?_
      refine XN ?_
      refine thenJ_normal ?_
      refine H_block ?_
      refine H_loop [12, 17, 81, 82, 83, 84, 85, 86, 87, 88, 89, 90, 91, 92, 93, 94, 95, 96, 97, 98, 99, 100, 101, 102, 103, 104, 105, 106, 107, 108, 109] (fun k : Nat => [(17, .int .i64 k)]) (fun _ => [inRow y1 y2 q, inRow x1 x2 p]) (fun k => k ≤ q.length) (fun k => q.length - k) 0 ⟨rfl, trivial⟩ (fun w hw => hw.pick [0, 1] (by decide)) rfl (Nat.zero_le _) ?_
      rintro k g hk
      refine H_seq ?_
      refine H_seq ?_
      refine R0 ?_
      refine xV (e_mv (v := .int _ _) (q0 rfl)) rfl rfl ?_
      refine xV (e_mv (v := .slice _ _ _) (q0 rfl)) rfl rfl ?_
      refine xV (e_len Try.underlying22 (q0 rfl)) rfl rfl ?_
      refine xV (e_lt (q0 rfl) (q0 rfl)) rfl rfl ?_
      refine XN ?_
      refine thenJ_normal ?_
      refine H_cond rfl (fun hlt => ?_) (fun hlt => ?_)
      · have hlt' : k < q.length := by simpa using hlt
        obtain ⟨v, hv⟩ : ∃ v, q[k]? = some v := ⟨_, List.getElem?_eq_getElem hlt'⟩
        have hvp := hsub v (List.mem_of_getElem? hv)
        obtain ⟨u, hu⟩ : ∃ u, q[k - 1]? = some u := ⟨_, List.getElem?_eq_getElem (by omega)⟩
        have huv : 0 < k → u < v := fun h => by
          have := List.pairwise_iff_getElem.1 hsort (k - 1) k (by omega) hlt' (by omega)
          rw [List.getElem?_eq_getElem (by omega)] at hu hv
          cases hu; cases hv
          exact this
        refine H_know (fun w hw => rowT_at (j := 0) hw rfl (by omega)) fun ⟨rb, hrb⟩ => ?_
        subst hrb
        refine H_skip ?_
        refine thenJ_normal ?_
        refine H_seq ?_
        refine H_block ?_
        refine H_seq ?_
        refine R1 rfl (by decide +kernel) ?_
        refine xV (e_mv (v := .slice _ _ _) (q0 rfl)) rfl rfl ?_
        refine xV (e_mv (v := .slice _ _ _) (q0 rfl)) rfl rfl ?_
        refine xV (e_mv (v := .int _ _) (q0 rfl)) rfl rfl ?_
        refine xV (e_idx _ Try.underlying22 Try.sizeOf3 (q0 rfl) (q0 rfl) (fun _ => ⟨rfl, by omega⟩)) rfl rfl ?_
        refine xV (e_ld (v := .int .i64 v) Try.isAgg3 (q0 rfl) (by exact rr0 0 (k := 1) (enc := encInt) rfl hv rfl)) rfl rfl ?_
        refine xC (en Try.call22 (ha2 (q0 rfl) (q0 rfl))) (fun _ w hw => has_w x1 _ x2 p v w (slAt_row hw (j := 1) rfl (fun _ => rfl) (by omega))) rfl rfl ?_
        refine xV (e_not (q0 rfl)) rfl rfl ?_
        refine xV (e_mv (v := .bool _) (q0 rfl)) rfl rfl ?_
        refine xVF (e_mv (v := .int _ _) (q0 rfl)) rfl rfl rfl rfl ?_
        refine xVF (e_gt (q1 rfl) (q0 rfl)) rfl rfl rfl rfl ?_
        refine xVF (e_mv (v := .bool _) (q1 rfl)) rfl rfl rfl rfl ?_
        refine xVT2 (e_mv (v := .slice _ _ _) (q0 rfl)) rfl rfl rfl rfl ?_
        refine xVT2 (e_mv (v := .int _ _) (q0 rfl)) rfl rfl rfl rfl ?_
        refine xVT2 (e_sub (r := ((k - 1 : Nat) : Int)) (q1 rfl) (q0 rfl) (fun hg => by simp at hg; exact ⟨by omega, by omega, by omega⟩)) rfl rfl rfl rfl ?_
        refine xVT2 (e_idx (k - 1) Try.underlying22 Try.sizeOf3 (q1 rfl) (q1 rfl) (fun _ => ⟨rfl, by omega⟩)) rfl rfl rfl rfl ?_
        refine xVT2 (e_ld (v := .int .i64 u) Try.isAgg3 (q1 rfl) (by exact rr0 0 (k := 1) (enc := encInt) rfl hu rfl)) rfl rfl rfl rfl ?_
        refine xVT2 (e_mv (v := .slice _ _ _) (q0 rfl)) rfl rfl rfl rfl ?_
        refine xVT2 (e_mv (v := .int _ _) (q0 rfl)) rfl rfl rfl rfl ?_
        refine xVT2 (e_idx _ Try.underlying22 Try.sizeOf3 (q1 rfl) (q1 rfl) (fun _ => ⟨rfl, by omega⟩)) rfl rfl rfl rfl ?_
        refine xVT2 (e_ld (v := .int .i64 v) Try.isAgg3 (q1 rfl) (by exact rr0 0 (k := 1) (enc := encInt) rfl hv rfl)) rfl rfl rfl rfl ?_
        refine xVT2 (e_ge (q1 rfl) (q1 rfl)) rfl rfl rfl rfl ?_
        refine xVF (e_and (q1 rfl) rfl (fun h => by first | rfl | (rw [h]; rfl))) rfl rfl rfl rfl ?_
        refine xV (e_or (q0 rfl) rfl (fun h => by first | rfl | (rw [h]; rfl))) rfl rfl ?_
        refine XN ?_
        refine thenJ_normal ?_
        refine H_cond rfl (fun hb => ?_) (fun hb => ?_)
        · exfalso
          simp [hvp] at hb
          have := huv hb.1
          omega
        · refine H_skip ?_
          refine blockJ_normal ?_
          refine thenJ_normal ?_
          refine R0 ?_
          refine xV (e_mv (v := .int _ _) (q0 rfl)) rfl rfl ?_
          refine xV (e_add (q0 rfl) (q0 rfl) (fun _ => ⟨rfl, by omega, by omega⟩)) rfl rfl ?_
          refine xV (e_as (v := .int _ _) (q0 rfl)) rfl rfl ?_
          refine XN ?_
          exact loopJ_normal (k + 1) (by repeat (first | exact agree_self | exact agree_over | refine agree_upd rfl ?_ | refine agree_updL rfl ?_ | refine agree_over2 rfl ?_)) ⟨rfl, trivial⟩ (fun w hw => hw) rfl (by show k + 1 ≤ _; omega) (by show q.length - (k + 1) < q.length - k; omega)
      · refine H_exit ?_
        refine thenJ_exit ?_
        refine loopJ_exit ?_
        refine blockJ_hit ?_
        refine thenJ_normal ?_
        refine H_seq ?_
        refine R0 ?_
        refine xC (en Try.call11 (ha0)) (fun _ w _ => awake_w w) rfl rfl ?_
        refine xV (e_as (v := .bool _) (q0 rfl)) rfl rfl ?_
        refine XN ?_
        refine thenJ_normal ?_
        refine H_ret ?_
        exact ret1 (v := .bool _) rfl rfl rfl fun w' hw => ⟨rfl, hw.1⟩
theorem rreports_w (f : Fl) (a : FA) (A : Option Addr) (n c : Nat) (xs : List Ev) (sA : Option Addr) (sn sc : Nat) (signs : List Sg) (si ri now device seq : Int) (w : World) (hf : FlAt w f a) (hx : EvsAt w A n xs) (hs : SgsAt w sA sn signs) (hn : n ≤ 1000) (hpl : PlOk xs) :
    Calls Try.prog 20 #[.agg (f.cells a).toArray, .slice A n c, .slice sA sn sc, .agg (paV si ri).toArray, .int .i64 now, .int .i64 device, .int .i64 seq] w fun r w' => ∃ x : Option Addr × Nat, r = .returned (.tuple #[.slice x.1 (repOf f xs signs si ri now device seq).length x.2, .int .i64 (repErr f xs signs si ri now device seq)]) ∧ Mem w [evRow x.1 x.2 (repOf f xs signs si ri now device seq)] w' := by
  have hlen := overOf_len f xs signs si ri now
  refine H_enter Try.func20 rfl Try.ntmps20 rfl ?_
  refine H_seq ?_
  refine R0 ?_
  refine X_box (v := .agg _) rfl rfl fun b7 => ?_
  refine X_box (v := .agg _) rfl rfl fun b10 => ?_
  refine xV (e_as (v := .slice _ _ _) (q0 rfl)) rfl rfl ?_
  refine xV (e_as (v := .int _ _) (q0 rfl)) rfl rfl ?_
  refine XN ?_
  refine thenJ_normal ?_
  refine H_seq ?_
  refine R0 ?_
  refine xV (eS Try.isAgg24 Try.sizeOf24 (q0 rfl)) rfl rfl ?_
  refine xV (e_mv (v := .slice _ _ _) (q0 rfl)) rfl rfl ?_
  refine xV (e_mv (v := .slice _ _ _) (q0 rfl)) rfl rfl ?_
  refine xV (eS Try.isAgg34 Try.sizeOf34 (q0 rfl)) rfl rfl ?_
  refine xV (e_mv (v := .int _ _) (q0 rfl)) rfl rfl ?_
  refine xCX (en Try.call15 (fun _ => rfl)) (fun w hw => roverdue_w f a A n c xs sA sn sc signs si ri now w (hf.mem hw) (hx.mem hw) (hs.mem hw) hn hpl) rfl (fun _ => rfl) fun r1 => ?_
  refine xV (e_mv (q0 rfl)) rfl rfl ?_
  refine xV (e_ext (q0 rfl) rfl) rfl rfl ?_
  refine xV (e_ext (q0 rfl) rfl) rfl rfl ?_
  refine xV (e_as (v := .slice _ _ _) (q0 rfl)) rfl rfl ?_
  refine xV (e_as (v := .int _ _) (q0 rfl)) rfl rfl ?_
  refine XN ?_
  refine thenJ_normal ?_
  refine H_seq ?_
  refine H_seq ?_
  refine R0 ?_
  refine xV (e_mv (v := .int _ _) (q0 rfl)) rfl rfl ?_
  refine xV (e_ne (q0 rfl) (q0 rfl)) rfl rfl ?_
  refine XN ?_
  refine thenJ_normal ?_
  refine H_cond rfl (fun h1 => ?_) (fun h1 => ?_)
  · have h1' : overErr f si ri now ≠ 0 := by simpa using h1
    have he : repErr f xs signs si ri now device seq = overErr f si ri now := by unfold repErr; rw [if_pos h1']
    have ho : repOf f xs signs si ri now device seq = [] := by unfold repOf; rw [he, if_neg h1']
    rw [he, ho]
    refine H_seq ?_
    refine R0 ?_
    refine xV (e_mv (v := .int _ _) (q0 rfl)) rfl rfl ?_
    refine xV (e_as (v := .slice _ _ _) (q0 rfl)) rfl rfl ?_
    refine xV (e_as (v := .int _ _) (q0 rfl)) rfl rfl ?_
    refine XN ?_
    refine thenJ_normal ?_
    refine H_ret ?_
    refine thenJ_ret ?_
    exact ret2 (v := .slice _ _ _) (x := .int _ _) rfl rfl rfl rfl fun w' hw => ⟨(none, 0), rfl, (mem_nil.2 hw.1).nilRow _ _ _ rfl⟩
  · have h1' : overErr f si ri now = 0 := by simpa using h1
    refine H_skip ?_
    refine thenJ_normal ?_
    refine H_seq ?_
    refine H_seq ?_
    refine R0 ?_
    refine xV (e_mv (v := .int _ _) (q0 rfl)) rfl rfl ?_
    refine xV (e_lt (q0 rfl) (q0 rfl)) rfl rfl ?_
    refine xV (e_mv (v := .bool _) (q0 rfl)) rfl rfl ?_
    refine xVF (e_mv (v := .int _ _) (q0 rfl)) rfl rfl rfl rfl ?_
    refine xVF (e_fld Try.underlying24 rfl Try.sizeOf3 rfl (q0 rfl)) rfl rfl rfl rfl ?_
    refine xVF (eL Try.isAgg3 (q1 rfl)) rfl rfl rfl rfl ?_
    refine xVF (e_ge (q1 rfl) (q1 rfl)) rfl rfl rfl rfl ?_
    refine xV (e_or (q0 rfl) rfl (fun h => by first | rfl | (rw [h]; rfl))) rfl rfl ?_
    refine xV (e_mv (v := .bool _) (q0 rfl)) rfl rfl ?_
    refine xVF (e_mv (v := .int _ _) (q0 rfl)) rfl rfl rfl rfl ?_
    refine xVF (e_lt (q1 rfl) (q0 rfl)) rfl rfl rfl rfl ?_
    refine xV (e_or (q0 rfl) rfl (fun h => by first | rfl | (rw [h]; rfl))) rfl rfl ?_
    refine xV (e_mv (v := .bool _) (q0 rfl)) rfl rfl ?_
    refine xVF (e_mv (v := .int _ _) (q0 rfl)) rfl rfl rfl rfl ?_
    refine xVF (e_gt (q1 rfl) (q0 rfl)) rfl rfl rfl rfl ?_
    refine xV (e_or (q0 rfl) rfl (fun h => by first | rfl | (rw [h]; rfl))) rfl rfl ?_
    refine xV (e_mv (v := .bool _) (q0 rfl)) rfl rfl ?_
    refine xVF (e_mv (v := .slice _ _ _) (q0 rfl)) rfl rfl rfl rfl ?_
    refine xVF (e_len Try.underlying22 (q1 rfl)) rfl rfl rfl rfl ?_
    refine xVF (e_gt (q1 rfl) (q0 rfl)) rfl rfl rfl rfl ?_
    refine xVF (e_mv (v := .bool _) (q1 rfl)) rfl rfl rfl rfl ?_
    refine xVT2 (e_mv (v := .int _ _) (q0 rfl)) rfl rfl rfl rfl ?_
    refine xVT2 (e_mv (v := .slice _ _ _) (q0 rfl)) rfl rfl rfl rfl ?_
    refine xVT2 (e_len Try.underlying22 (q1 rfl)) rfl rfl rfl rfl ?_
    refine xVT2 (e_sub (q0 rfl) (q1 rfl) (fun _ => ⟨rfl, by omega, by omega⟩)) rfl rfl rfl rfl ?_
    refine xVT2 (e_add (q1 rfl) (q0 rfl) (fun _ => ⟨rfl, by omega, by omega⟩)) rfl rfl rfl rfl ?_
    refine xVT2 (e_gt (q1 rfl) (q1 rfl)) rfl rfl rfl rfl ?_
    refine xVF (e_and (q1 rfl) rfl (fun h => by first | rfl | (rw [h]; rfl))) rfl rfl rfl rfl ?_
    refine xV (e_or (q0 rfl) rfl (fun h => by first | rfl | (rw [h]; rfl))) rfl rfl ?_
    refine XN ?_
    refine thenJ_normal ?_
    refine H_cond rfl (fun h2 => ?_) (fun h2 => ?_)
    · have he : repErr f xs signs si ri now device seq = 1 := by
        unfold repErr
        rw [if_neg (fun h => h h1'), if_pos (by simp at h2 ⊢; omega)]
      have ho : repOf f xs signs si ri now device seq = [] := by unfold repOf; rw [he, if_neg (by decide)]
      rw [he, ho]
      refine H_seq ?_
      refine R0 ?_
      refine xV (e_as (v := .slice _ _ _) (q0 rfl)) rfl rfl ?_
      refine xV (e_as (v := .int _ _) (q0 rfl)) rfl rfl ?_
      refine XN ?_
      refine thenJ_normal ?_
      refine H_ret ?_
      refine thenJ_ret ?_
      exact ret2 (v := .slice _ _ _) (x := .int _ _) rfl rfl rfl rfl fun w' hw => ⟨(none, 0), rfl, (mem_nil.2 hw.1).nilRow _ _ _ rfl⟩
    · have he : repErr f xs signs si ri now device seq = 0 := by unfold repErr; rw [if_neg (fun h => h h1'), if_neg (by simp at h2 ⊢; omega)]
      have ho : repOf f xs signs si ri now device seq = repL device seq now (overOf f xs signs si ri now) := by unfold repOf; rw [if_pos he]
      have hsq : 1 ≤ seq ∧ seq ≤ 1048576 := by simp at h2; omega
      rw [he, ho]
      generalize overOf f xs signs si ri now = bs at *
      obtain ⟨F, hF0, hFn, hFs, hFl⟩ := repF (device := device) (seq := seq) (now := now) (bs := bs) rfl
      rw [← hFn]
      obtain ⟨r11, r12⟩ := r1
      refine H_skip ?_
      refine thenJ_normal ?_
      refine H_seq ?_
      refine R0 ?_
      refine xV (e_as (v := .slice _ _ _) (q0 rfl)) rfl rfl ?_
      refine XN ?_
      refine thenJ_normal ?_
      refine H_seq ?_
      refine H_seq ?_
      refine R0 ?_
      refine xV (e_as (v := .int _ _) (q0 rfl)) rfl rfl ?_
      refine XN ?_
      refine thenJ_normal ?_
      refine H_block ?_
      refine H_loop [18, 19, 61, 62, 63, 64, 65, 66, 67, 68, 69, 70, 71, 72, 73, 74, 75, 76, 77, 78, 79, 80] (fun q : Nat × Option Addr × Nat => [(19, .int .i64 q.1), (18, .slice q.2.1 (F q.1).length q.2.2)]) (fun q => [evRow q.2.1 q.2.2 (F q.1), inRow r11 r12 bs]) (fun q => q.1 ≤ bs.length) (fun q => bs.length - q.1) (0, none, 0) ⟨rfl, by show _ = Value.slice none (F 0).length 0; rw [hF0]; rfl, trivial⟩ (fun w hw => by show Mem _ (evRow none 0 (F 0) :: _) w; rw [hF0]; exact (hw.pick [0] (by decide)).nilRow _ _ _ rfl) rfl (Nat.zero_le _) ?_
      rintro ⟨k, oA, oc⟩ g hk
      simp only at hk
      refine H_seq ?_
      refine H_seq ?_
      refine R0 ?_
      refine xV (e_mv (v := .int _ _) (q0 rfl)) rfl rfl ?_
      refine xV (e_mv (v := .slice _ _ _) (q0 rfl)) rfl rfl ?_
      refine xV (e_len Try.underlying22 (q0 rfl)) rfl rfl ?_
      refine xV (e_lt (q0 rfl) (q0 rfl)) rfl rfl ?_
      refine XN ?_
      refine thenJ_normal ?_
      refine H_cond rfl (fun hlt => ?_) (fun hlt => ?_)
      · have hlt' : k < bs.length := by simpa using hlt
        obtain ⟨b, hb⟩ : ∃ b, bs[k]? = some b := ⟨_, List.getElem?_eq_getElem hlt'⟩
        have hs2 := hFs k b hb
        have hl2 := hFl k
        refine H_know (fun w hw => rowT_at (j := 1) hw rfl (by omega)) fun ⟨rb, hrb⟩ => ?_
        subst hrb
        refine H_skip ?_
        refine thenJ_normal ?_
        refine H_seq ?_
        refine H_block ?_
        refine R0 ?_
        refine xV (e_mv (v := .slice _ _ _) (q0 rfl)) rfl rfl ?_
        refine xV (e_mv (v := .int _ _) (q0 rfl)) rfl rfl ?_
        refine xV (e_mv (v := .int _ _) (q0 rfl)) rfl rfl ?_
        refine xV (e_mv (v := .int _ _) (q0 rfl)) rfl rfl ?_
        refine xV (e_add (q0 rfl) (q0 rfl) (fun _ => ⟨rfl, by omega, by omega⟩)) rfl rfl ?_
        refine xV (e_mv (v := .int _ _) (q0 rfl)) rfl rfl ?_
        refine xV (e_mv (v := .int _ _) (q0 rfl)) rfl rfl ?_
        refine xV (e_mv (v := .slice _ _ _) (q0 rfl)) rfl rfl ?_
        refine xV (e_mv (v := .int _ _) (q0 rfl)) rfl rfl ?_
        refine xV (e_idx _ Try.underlying22 Try.sizeOf3 (q0 rfl) (q0 rfl) (fun _ => ⟨rfl, by omega⟩)) rfl rfl ?_
        refine xV (e_ld (v := .int .i64 b) Try.isAgg3 (q0 rfl) (by exact rr0 1 (k := 1) (enc := encInt) rfl hb rfl)) rfl rfl ?_
        refine xV (e_build Try.underlying49 fl49 Try.zeroValue49 (pt (v := .int _ _) rfl (pt (v := .int _ _) rfl (pt (v := .int _ _) rfl (pt (v := .int _ _) rfl (pt (v := .int _ _) rfl (pt (v := .int _ _) rfl E.p0)))))) rfl) rfl rfl ?_
        refine X_push (k := 9) (i := Try.t49) 0 ((repEv device seq now k b)) Try.underlying25 (by kernel_rfl) rfl rfl rfl rfl Try.sizeOf49 Try.zeroValue49 rfl rfl rfl rfl rfl rfl ⟨by simp only; omega, by decide⟩ rfl rfl fun PB A1 c1 => ?_
        refine xV (e_as (v := .slice _ _ _) (q0 rfl)) rfl rfl ?_
        refine XN ?_
        refine blockJ_normal ?_
        refine thenJ_normal ?_
        refine R0 ?_
        refine xV (e_mv (v := .int _ _) (q0 rfl)) rfl rfl ?_
        refine xV (e_add (q0 rfl) (q0 rfl) (fun _ => ⟨rfl, by omega, by omega⟩)) rfl rfl ?_
        refine xV (e_as (v := .int _ _) (q0 rfl)) rfl rfl ?_
        refine XN ?_
        exact loopJ_normal (k + 1, A1, c1) (by repeat (first | exact agree_self | exact agree_over | refine agree_upd rfl ?_ | refine agree_updL rfl ?_ | refine agree_over2 rfl ?_)) ⟨rfl, by show _ = Value.slice A1 (F (k + 1)).length c1; rw [hs2]; rfl, trivial⟩ (fun w hw => by show Mem _ (evRow A1 c1 (F (k + 1)) :: _) w; rw [hs2]; exact hw) rfl (by show k + 1 ≤ _; omega) (by show bs.length - (k + 1) < bs.length - k; omega)
      · have hend : k = bs.length := by simp at hlt; omega
        subst hend
        refine H_exit ?_
        refine thenJ_exit ?_
        refine loopJ_exit ?_
        refine blockJ_hit ?_
        refine thenJ_normal ?_
        refine H_seq ?_
        refine R0 ?_
        refine xV (e_mv (v := .slice _ _ _) (q0 rfl)) rfl rfl ?_
        refine xV (e_as (v := .slice _ _ _) (q0 rfl)) rfl rfl ?_
        refine xV (e_as (v := .int _ _) (q0 rfl)) rfl rfl ?_
        refine XN ?_
        refine thenJ_normal ?_
        refine H_ret ?_
        exact ret2 (v := .slice _ _ _) (x := .int _ _) rfl rfl rfl rfl fun w' hw => ⟨(oA, oc), rfl, hw.pick [0] (by decide)⟩
theorem listsLaw_w (f : Fl) (a : FA) (A : Option Addr) (n c : Nat) (xs : List Ev) (sA : Option Addr) (sn sc : Nat) (signs : List Sg) (si ri now device seq : Int) (w : World) (hf : FlAt w f a) (hx : EvsAt w A n xs) (hs : SgsAt w sA sn signs) (hpl : PlOk xs) :
    Calls Try.prog 5 #[.agg (f.cells a).toArray, .slice A n c, .slice sA sn sc, .agg (paV si ri).toArray, .agg (ordV now device seq).toArray] w fun r w' => r = .returned (.bool true) ∧ Bel w w' := by
  have hol : (repOf f xs signs si ri now device seq).length ≤ 128 := by
    have := overOf_len f xs signs si ri now
    unfold repOf
    split
    · rw [repL_len]; exact this
    · simp
  refine H_enter Try.func5 rfl Try.ntmps5 rfl ?_
  refine H_seq ?_
  refine R0 ?_
  refine X_box (v := .agg _) rfl rfl fun b5 => ?_
  refine X_box (v := .agg _) rfl rfl fun b8 => ?_
  refine X_box (v := .agg _) rfl rfl fun b9 => ?_
  refine xV (e_as (v := .bool _) (q0 rfl)) rfl rfl ?_
  refine XN ?_
  refine thenJ_normal ?_
  refine H_seq ?_
  refine H_seq ?_
  refine R0 ?_
  refine xV (eS Try.isAgg24 Try.sizeOf24 (q0 rfl)) rfl rfl ?_
  refine xV (e_mv (v := .slice _ _ _) (q0 rfl)) rfl rfl ?_
  refine xV (e_mv (v := .slice _ _ _) (q0 rfl)) rfl rfl ?_
  refine xC (en Try.call10 (ha3 (q0 rfl) (q0 rfl) (q0 rfl))) (fun _ w _ => mfew_w f a A n c sA sn sc w) rfl rfl ?_
  refine xV (e_not (q0 rfl)) rfl rfl ?_
  refine XN ?_
  refine thenJ_normal ?_
  refine H_cond rfl (fun h0 => ?_) (fun h0 => ?_)
  · refine H_seq ?_
    refine R0 ?_
    refine xC (en Try.call11 (ha0)) (fun _ w _ => awake_w w) rfl rfl ?_
    refine xV (e_as (v := .bool _) (q0 rfl)) rfl rfl ?_
    refine XN ?_
    refine thenJ_normal ?_
    refine H_ret ?_
    refine thenJ_ret ?_
    exact ret1 (v := .bool _) rfl rfl rfl fun w' hw => ⟨rfl, hw.1⟩
  · obtain ⟨hn, _⟩ := mfew_n h0
    refine H_skip ?_
    refine thenJ_normal ?_
    refine H_seq ?_
    refine R0 ?_
    refine xV (eS Try.isAgg24 Try.sizeOf24 (q0 rfl)) rfl rfl ?_
    refine xV (e_mv (v := .slice _ _ _) (q0 rfl)) rfl rfl ?_
    refine xV (e_mv (v := .slice _ _ _) (q0 rfl)) rfl rfl ?_
    refine xV (eS Try.isAgg34 Try.sizeOf34 (q0 rfl)) rfl rfl ?_
    refine xV (e_fld Try.underlying41 rfl Try.sizeOf3 rfl (q0 rfl)) rfl rfl ?_
    refine xV (eL Try.isAgg3 (q0 rfl)) rfl rfl ?_
    refine xV (e_fld Try.underlying41 rfl Try.sizeOf3 rfl (q0 rfl)) rfl rfl ?_
    refine xV (eL Try.isAgg3 (q0 rfl)) rfl rfl ?_
    refine xV (e_fld Try.underlying41 rfl Try.sizeOf3 rfl (q0 rfl)) rfl rfl ?_
    refine xV (eL Try.isAgg3 (q0 rfl)) rfl rfl ?_
    refine xCX (en Try.call19 (fun _ => rfl)) (fun w hw => reports_w f a A n c xs sA sn sc signs si ri now device seq w (hf.mem hw) (hx.mem hw) (hs.mem hw) (by omega) hpl) rfl (fun _ => rfl) fun x => ?_
    refine xV (e_mv (q0 rfl)) rfl rfl ?_
    refine xV (e_ext (q0 rfl) rfl) rfl rfl ?_
    refine xV (e_ext (q0 rfl) rfl) rfl rfl ?_
    refine xV (e_as (v := .slice _ _ _) (q0 rfl)) rfl rfl ?_
    refine xV (e_as (v := .int _ _) (q0 rfl)) rfl rfl ?_
    refine XN ?_
    refine thenJ_normal ?_
    refine H_seq ?_
    refine R0 ?_
    refine xV (eS Try.isAgg24 Try.sizeOf24 (q0 rfl)) rfl rfl ?_
    refine xV (e_mv (v := .slice _ _ _) (q0 rfl)) rfl rfl ?_
    refine xV (e_mv (v := .slice _ _ _) (q0 rfl)) rfl rfl ?_
    refine xV (eS Try.isAgg34 Try.sizeOf34 (q0 rfl)) rfl rfl ?_
    refine xV (e_fld Try.underlying41 rfl Try.sizeOf3 rfl (q0 rfl)) rfl rfl ?_
    refine xV (eL Try.isAgg3 (q0 rfl)) rfl rfl ?_
    refine xV (e_fld Try.underlying41 rfl Try.sizeOf3 rfl (q0 rfl)) rfl rfl ?_
    refine xV (eL Try.isAgg3 (q0 rfl)) rfl rfl ?_
    refine xV (e_fld Try.underlying41 rfl Try.sizeOf3 rfl (q0 rfl)) rfl rfl ?_
    refine xV (eL Try.isAgg3 (q0 rfl)) rfl rfl ?_
    refine xCX (en Try.call20 (fun _ => rfl)) (fun w hw => rreports_w f a A n c xs sA sn sc signs si ri now device seq w (hf.mem hw) (hx.mem hw) (hs.mem hw) (by omega) hpl) rfl (fun _ => rfl) fun y => ?_
    refine xV (e_mv (q0 rfl)) rfl rfl ?_
    refine xV (e_ext (q0 rfl) rfl) rfl rfl ?_
    refine xV (e_ext (q0 rfl) rfl) rfl rfl ?_
    refine xV (e_as (v := .slice _ _ _) (q0 rfl)) rfl rfl ?_
    refine xV (e_as (v := .int _ _) (q0 rfl)) rfl rfl ?_
    refine XN ?_
    refine thenJ_normal ?_
    refine H_seq ?_
    refine R0 ?_
    refine xV (e_mv (v := .slice _ _ _) (q0 rfl)) rfl rfl ?_
    refine xV (e_mv (v := .slice _ _ _) (q0 rfl)) rfl rfl ?_
    refine xC (en Try.call21 (ha2 (q0 rfl) (q0 rfl))) (fun _ w hw => same18_w x.1 y.1 _ _ x.2 y.2 _ _ w (slAt_row hw (j := 1) rfl (fun _ => rfl) (by omega)) (slAt_row hw (j := 0) rfl (fun _ => rfl) (by omega))) rfl rfl ?_
    refine xV (e_mv (v := .bool _) (q0 rfl)) rfl rfl ?_
    refine xVT (e_mv (v := .int _ _) (q0 rfl)) rfl rfl rfl rfl ?_
    refine xVT (e_mv (v := .int _ _) (q0 rfl)) rfl rfl rfl rfl ?_
    refine xVT (e_eq (q1 rfl) (q1 rfl)) rfl rfl rfl rfl ?_
    refine xV (e_and (q0 rfl) rfl (fun h => by first | rfl | (rw [h]; rfl))) rfl rfl ?_
    refine xV (e_mv (v := .bool _) (q0 rfl)) rfl rfl ?_
    refine xCT (en Try.call11 (ha0)) (fun _ w _ => awake_w w) rfl rfl rfl rfl ?_
    refine xV (e_and (q0 rfl) rfl (fun h => by first | rfl | (rw [h]; rfl))) rfl rfl ?_
    refine xV (e_as (v := .bool _) (q0 rfl)) rfl rfl ?_
    refine XN ?_
    refine thenJ_normal ?_
    refine H_ret ?_
    exact ret1 (v := .bool _) rfl rfl rfl fun w' hw => ⟨ret_bool (by simp), hw.1⟩

end Go.Proofs.Mis

/-
  The walks of the laws: the order does not matter; a sign at the moment; the reports.
-/
namespace Go.Proofs.Mis
open Go Go.RowKit Go.Proofs.E Go.Proofs.Cus Go.ChangeShapes Go.WideShapes Go.ChangeAt

abbrev sgRow (A : Option Addr) (c : Nat) (xs : List Sg) : E.Item := rowT 51 2 Sg.cells A c xs
/-- a list taken from its end -/
theorem backF {α β : Type} (g : α → List β) (xs : List α) : ∃ T : Nat → List β, T 0 = [] ∧ T xs.length = xs.reverse.flatMap g ∧ (∀ d x, d < xs.length → xs[xs.length - 1 - d]? = some x → T (d + 1) = T d ++ g x) ∧ ∀ d, T d = (xs.reverse.take d).flatMap g :=
  ⟨fun d => (xs.reverse.take d).flatMap g, by simp, by
    show (xs.reverse.take xs.length).flatMap g = _
    rw [List.take_of_length_le (by simp)], fun d x hd hx => by
    have h : xs.reverse[d]? = some x := by rw [List.getElem?_reverse hd]; exact hx
    show (xs.reverse.take (d + 1)).flatMap g = _
    rw [List.take_add_one, h]
    simp, fun _ => rfl⟩
theorem flatMap_len {α β : Type} {g : α → List β} {m : Nat} (hg : ∀ x, (g x).length = m) : ∀ l : List α, (l.flatMap g).length = m * l.length
  | [] => by simp
  | x :: l => by simp only [List.flatMap_cons, List.length_append, hg, flatMap_len hg l, List.length_cons]; rw [Nat.mul_add]; omega
attribute [local irreducible] overOf overErr seenOf atErr repErr repOf flErr chkP atOf
set_option maxHeartbeats 1000000 in
set_option maxRecDepth 20000 in
theorem sortsLaw_w (f : Fl) (a : FA) (A : Option Addr) (n c : Nat) (xs : List Ev) (sA : Option Addr) (sn sc : Nat) (signs : List Sg) (si ri bike now : Int) (w : World) (hf : FlAt w f a) (hx : EvsAt w A n xs) (hcap : n ≤ c) (hs : SgsAt w sA sn signs) (hpl : PlOk xs) :
    Calls Try.prog 7 #[.agg (f.cells a).toArray, .slice A n c, .slice sA sn sc, .agg (paV si ri).toArray, .int .i64 bike, .int .i64 now] w fun r w' => r = .returned (.bool true) ∧ Bel w w' := by
  have hl := hx.1
  have hsl := hs.1
  refine H_enter Try.func7 rfl Try.ntmps7 rfl ?_
  refine H_seq ?_
  refine R0 ?_
  refine X_box (v := .agg _) rfl rfl fun b6 => ?_
  refine X_box (v := .agg _) rfl rfl fun b9 => ?_
  refine xV (e_as (v := .bool _) (q0 rfl)) rfl rfl ?_
  refine XN ?_
  refine thenJ_normal ?_
  refine H_seq ?_
  refine H_seq ?_
  refine R0 ?_
  refine xV (eS Try.isAgg24 Try.sizeOf24 (q0 rfl)) rfl rfl ?_
  refine xV (e_mv (v := .slice _ _ _) (q0 rfl)) rfl rfl ?_
  refine xV (e_mv (v := .slice _ _ _) (q0 rfl)) rfl rfl ?_
  refine xC (en Try.call10 (ha3 (q0 rfl) (q0 rfl) (q0 rfl))) (fun _ w _ => mfew_w f a A n c sA sn sc w) rfl rfl ?_
  refine xV (e_not (q0 rfl)) rfl rfl ?_
  refine XN ?_
  refine thenJ_normal ?_
  refine H_cond rfl (fun h0 => ?_) (fun h0 => ?_)
  · refine H_seq ?_
    refine R0 ?_
    refine xC (en Try.call11 (ha0)) (fun _ w _ => awake_w w) rfl rfl ?_
    refine xV (e_as (v := .bool _) (q0 rfl)) rfl rfl ?_
    refine XN ?_
    refine thenJ_normal ?_
    refine H_ret ?_
    refine thenJ_ret ?_
    exact ret1 (v := .bool _) rfl rfl rfl fun w' hw => ⟨rfl, hw.1⟩
  · obtain ⟨hn, hsn⟩ := mfew_n h0
    subst hl
    subst hsl
    obtain ⟨T, hT0, hTn, hTs, hTt⟩ := backF (fun x : Ev => [x]) xs
    have hTl : ∀ d, d ≤ xs.length → (T d).length ≤ 30 := fun d hd => by
      rw [hTt, flatMap_len (m := 1) (fun _ => rfl), List.length_take, List.length_reverse]; omega
    obtain ⟨U, hU0, hUn, hUs, hUt⟩ := backF (fun x : Sg => [x, x]) signs
    have hUl : ∀ d, d ≤ signs.length → (U d).length ≤ 80 := fun d hd => by
      rw [hUt, flatMap_len (m := 2) (fun _ => rfl), List.length_take, List.length_reverse]; omega
    have hTx : T xs.length = xs.reverse := by rw [hTn]; simp
    refine H_skip ?_
    refine thenJ_normal ?_
    refine H_seq ?_
    refine R0 ?_
    refine xV (e_as (v := .slice _ _ _) (q0 rfl)) rfl rfl ?_
    refine XN ?_
    refine thenJ_normal ?_
    refine H_seq ?_
    refine H_seq ?_
    refine R0 ?_
    refine xV (e_mv (v := .slice _ _ _) (q0 rfl)) rfl rfl ?_
    refine xV (e_len Try.underlying25 (q0 rfl)) rfl rfl ?_
    refine xV (e_sub (q0 rfl) (q0 rfl) (fun _ => ⟨rfl, by omega, by omega⟩)) rfl rfl ?_
    refine xV (e_as (v := .int _ _) (q0 rfl)) rfl rfl ?_
    refine XN ?_
    refine thenJ_normal ?_
    refine H_block ?_
    refine H_loop [13, 14, 34, 35, 36, 37, 38, 39, 40, 41, 42, 43, 44] (fun q : Nat × Option Addr × Nat => [(14, .int .i64 ((xs.length : Int) - 1 - q.1)), (13, .slice q.2.1 (T q.1).length q.2.2)]) (fun q => [evRow q.2.1 q.2.2 (T q.1), box b9 34 (paV si ri), box b6 24 (f.cells a)]) (fun q => q.1 ≤ xs.length) (fun q => xs.length - q.1) (0, none, 0) ⟨by show Value.int .i64 ((xs.length : Int) - 1) = Value.int .i64 ((xs.length : Int) - 1 - 0); simp, by show _ = Value.slice none (T 0).length 0; rw [hT0]; rfl, trivial⟩ (fun w hw => by show Mem _ (evRow none 0 (T 0) :: _) w; rw [hT0]; exact hw.nilRow _ _ _ rfl) rfl (Nat.zero_le _) ?_
    rintro ⟨d, oA, oc⟩ g hd
    simp only at hd
    refine H_seq ?_
    refine H_seq ?_
    refine R0 ?_
    refine xV (e_mv (v := .int _ _) (q0 rfl)) rfl rfl ?_
    refine xV (e_ge (q0 rfl) (q0 rfl)) rfl rfl ?_
    refine XN ?_
    refine thenJ_normal ?_
    refine H_cond rfl (fun hlt => ?_) (fun hlt => ?_)
    · have hlt' : d < xs.length := by simp at hlt; omega
      obtain ⟨i, hi⟩ : ∃ i : Nat, i = xs.length - 1 - d := ⟨_, rfl⟩
      have hin : (xs.length : Int) - 1 - (d : Int) = (i : Int) := by omega
      obtain ⟨b, off, x, rfl, hbl, hxk, hrx⟩ := hx.at_ (i := i) (by omega)
      have hst := hTs d x hlt' (by rw [← hi]; exact hxk)
      have hll := hTl d (by omega)
      simp only [hin]
      refine H_skip ?_
      refine thenJ_normal ?_
      refine H_seq ?_
      refine H_block ?_
      refine R0 ?_
      refine xV (e_mv (v := .slice _ _ _) (q0 rfl)) rfl rfl ?_
      refine xV (e_mv (v := .slice _ _ _) (q0 rfl)) rfl rfl ?_
      refine xV (e_mv (v := .int _ _) (q0 rfl)) rfl rfl ?_
      refine xV (e_idx _ Try.underlying25 Try.sizeOf49 (q0 rfl) (q0 rfl) (fun _ => ⟨rfl, by omega⟩)) rfl rfl ?_
      refine xV (eS Try.isAgg49 Try.sizeOf49 (q0 rfl)) rfl rfl ?_
      refine X_push (k := 9) (i := Try.t49) 0 (x) Try.underlying25 (by kernel_rfl) rfl rfl rfl rfl Try.sizeOf49 Try.zeroValue49 rfl rfl rfl rfl rfl rfl ⟨by omega, by decide⟩ rfl rfl fun PB A1 c1 => ?_
      refine xV (e_as (v := .slice _ _ _) (q0 rfl)) rfl rfl ?_
      refine XN ?_
      refine blockJ_normal ?_
      refine thenJ_normal ?_
      refine R0 ?_
      refine xV (e_mv (v := .int _ _) (q0 rfl)) rfl rfl ?_
      refine xV (e_sub (q0 rfl) (q0 rfl) (fun _ => ⟨rfl, by omega, by omega⟩)) rfl rfl ?_
      refine xV (e_as (v := .int _ _) (q0 rfl)) rfl rfl ?_
      refine XN ?_
      exact loopJ_normal (d + 1, A1, c1) (by repeat (first | exact agree_self | exact agree_over | refine agree_upd rfl ?_ | refine agree_updL rfl ?_ | refine agree_over2 rfl ?_)) ⟨by show Value.int .i64 ((i : Int) - 1) = Value.int .i64 ((xs.length : Int) - 1 - ((d + 1 : Nat) : Int)); congr 1; omega, by show _ = Value.slice A1 (T (d + 1)).length c1; rw [hst]; rfl, trivial⟩ (fun w hw => by show Mem _ (evRow A1 c1 (T (d + 1)) :: _) w; rw [hst]; exact hw) rfl (by show d + 1 ≤ _; omega) (by show xs.length - (d + 1) < xs.length - d; omega)
    · have hend : d = xs.length := by simp at hlt; omega
      subst hend
      have hll := hTl xs.length (by omega)
      refine H_exit ?_
      refine thenJ_exit ?_
      refine loopJ_exit ?_
      refine blockJ_hit ?_
      refine thenJ_normal ?_
      refine H_seq ?_
      refine R0 ?_
      refine xV (e_mv (v := .slice _ _ _) (q0 rfl)) rfl rfl ?_
      refine xV (e_mv (v := .slice _ _ _) (q0 rfl)) rfl rfl ?_
      refine xV (e_mv (v := .slice _ _ _) (q0 rfl)) rfl rfl ?_
      refine xV (e_len Try.underlying25 (q0 rfl)) rfl rfl ?_
      refine xV (e_quo (q0 rfl) (q0 rfl) (fun _ => by omega)) rfl rfl ?_
      refine xV (e_slHi (xs.length / 2) Try.underlying25 Try.sizeOf49 (q0 rfl) (q0 rfl) (fun _ => ⟨by omega, by omega⟩)) rfl rfl ?_
      refine X_append (f_append (k := 9) (i := Try.t49) (enc := Ev.cells) 0 Try.underlying25 (by kernel_rfl) rfl rfl rfl rfl (fun _ => rfl) (fun _ => rfl) rfl rfl rfl (fun w hw => (hx.mem hw).take (i := xs.length / 2) (by omega)) ⟨by simp; omega, by decide⟩ rfl fun A1 c1 => ?_)
      obtain ⟨M, hM⟩ : ∃ M, M = T xs.length ++ xs.take (xs.length / 2) := ⟨_, rfl⟩
      have hMl : M.length ≤ 60 := by rw [hM, List.length_append, List.length_take]; omega
      have hMm : ∀ e, e ∈ M ↔ e ∈ xs := fun e => by
        rw [hM, hTx, List.mem_append, List.mem_reverse]
        exact ⟨fun h => h.elim id List.mem_of_mem_take, .inl⟩
      have hMp : PlOk M := fun e he => hpl e ((hMm e).1 he)
      simp only [← hM]
      refine xV (e_as (v := .slice _ _ _) (q0 rfl)) rfl rfl ?_
      refine XN ?_
      refine thenJ_normal ?_
      refine H_seq ?_
      refine R0 ?_
      refine xV (e_as (v := .slice _ _ _) (q0 rfl)) rfl rfl ?_
      refine XN ?_
      refine thenJ_normal ?_
      refine H_seq ?_
      refine H_seq ?_
      refine R0 ?_
      refine xV (e_mv (v := .slice _ _ _) (q0 rfl)) rfl rfl ?_
      refine xV (e_len Try.underlying26 (q0 rfl)) rfl rfl ?_
      refine xV (e_sub (q0 rfl) (q0 rfl) (fun _ => ⟨rfl, by omega, by omega⟩)) rfl rfl ?_
      refine xV (e_as (v := .int _ _) (q0 rfl)) rfl rfl ?_
      refine XN ?_
      refine thenJ_normal ?_
      refine H_block ?_
      refine H_loop [15, 16, 55, 56, 57, 58, 59, 60, 61, 62, 63, 64, 65, 66, 67, 68, 69] (fun q : Nat × Option Addr × Nat => [(16, .int .i64 ((signs.length : Int) - 1 - q.1)), (15, .slice q.2.1 (U q.1).length q.2.2)]) (fun q => [sgRow q.2.1 q.2.2 (U q.1), evRow A1 c1 M, box b9 34 (paV si ri), box b6 24 (f.cells a)]) (fun q => q.1 ≤ signs.length) (fun q => signs.length - q.1) (0, none, 0) ⟨by show Value.int .i64 ((signs.length : Int) - 1) = Value.int .i64 ((signs.length : Int) - 1 - 0); simp, by show _ = Value.slice none (U 0).length 0; rw [hU0]; rfl, trivial⟩ (fun w hw => by show Mem _ (sgRow none 0 (U 0) :: _) w; rw [hU0]; exact hw.nilRow _ _ _ rfl) rfl (Nat.zero_le _) ?_
      rintro ⟨d, pA, pc⟩ g2 hd2
      simp only at hd2
      refine H_seq ?_
      refine H_seq ?_
      refine R0 ?_
      refine xV (e_mv (v := .int _ _) (q0 rfl)) rfl rfl ?_
      refine xV (e_ge (q0 rfl) (q0 rfl)) rfl rfl ?_
      refine XN ?_
      refine thenJ_normal ?_
      refine H_cond rfl (fun hlt2 => ?_) (fun hlt2 => ?_)
      · have hlt2' : d < signs.length := by simp at hlt2; omega
        obtain ⟨i, hi⟩ : ∃ i : Nat, i = signs.length - 1 - d := ⟨_, rfl⟩
        have hin : (signs.length : Int) - 1 - (d : Int) = (i : Int) := by omega
        obtain ⟨b, off, x, rfl, hbl, hxk, hrx⟩ := hs.at_ (i := i) (by omega)
        have hst := hUs d x hlt2' (by rw [← hi]; exact hxk)
        have hll2 := hUl d (by omega)
        simp only [hin]
        refine H_skip ?_
        refine thenJ_normal ?_
        refine H_seq ?_
        refine H_block ?_
        refine RAd 1 rfl (by decide +kernel) ?_
        refine aV 0 (by decide +kernel) rfl (e_mv (v := .slice _ _ _) (q0 rfl)) rfl ?_
        refine aV 1 (by decide +kernel) rfl (e_mv (v := .slice _ _ _) (q0 rfl)) rfl ?_
        refine aV 2 (by decide +kernel) rfl (e_mv (v := .int _ _) (q0 rfl)) rfl ?_
        refine aV 3 (by decide +kernel) rfl (e_idx _ Try.underlying26 Try.sizeOf51 (q0 rfl) (q0 rfl) (fun _ => ⟨rfl, by omega⟩)) rfl ?_
        refine aV 4 (by decide +kernel) rfl (eS Try.isAgg51 Try.sizeOf51 (q0 rfl)) rfl ?_
        refine aV 5 (by decide +kernel) rfl (e_mv (v := .slice _ _ _) (q0 rfl)) rfl ?_
        refine aV 6 (by decide +kernel) rfl (e_mv (v := .int _ _) (q0 rfl)) rfl ?_
        refine aV 7 (by decide +kernel) rfl (e_idx _ Try.underlying26 Try.sizeOf51 (q0 rfl) (q0 rfl) (fun _ => ⟨rfl, by omega⟩)) rfl ?_
        refine aV 8 (by decide +kernel) rfl (eS Try.isAgg51 Try.sizeOf51 (q0 rfl)) rfl ?_
        refine rdy1 (i := 9) (by decide +kernel) (sub_drop 1) ?_
        refine aL rfl (f_slit [(.int .i64 0), (.int .i64 0), (.int .i64 0), (.int .i64 0)] Try.underlying26 Try.sizeOf51 Try.zeroValue51 rfl (by kernel_rfl) (pt (v := .agg _) rfl (pt (v := .agg _) rfl E.p0)) rfl rfl fun b68 => ?_)
        refine rdy1 (i := 10) (by decide +kernel) (sub_drop 2) ?_
        refine aL rfl (f_append (k := 2) (i := Try.t51) (enc := Sg.cells) 1 Try.underlying26 (by kernel_rfl) rfl rfl rfl rfl (fun _ => rfl) (fun _ => rfl) rfl rfl rfl (fun w hw => slAt_box (enc := Sg.cells) (xs := [x, x]) hw (j := 0) rfl (fun _ => rfl) (by simp)) ⟨by simp; omega, by decide⟩ rfl fun A2 c2 => ?_)
        refine aV 11 (by decide +kernel) rfl (e_as (v := .slice _ _ _) (q0 rfl)) rfl ?_
        refine aZ (by decide +kernel) (sub_drop 2) ?_
        refine blockJ_normal ?_
        refine thenJ_normal ?_
        refine R0 ?_
        refine xV (e_mv (v := .int _ _) (q0 rfl)) rfl rfl ?_
        refine xV (e_sub (q0 rfl) (q0 rfl) (fun _ => ⟨rfl, by omega, by omega⟩)) rfl rfl ?_
        refine xV (e_as (v := .int _ _) (q0 rfl)) rfl rfl ?_
        refine XN ?_
        exact loopJ_normal (d + 1, A2, c2) (by repeat (first | exact agree_self | exact agree_over | refine agree_upd rfl ?_ | refine agree_updL rfl ?_ | refine agree_over2 rfl ?_)) ⟨by show Value.int .i64 ((i : Int) - 1) = Value.int .i64 ((signs.length : Int) - 1 - ((d + 1 : Nat) : Int)); congr 1; omega, by show _ = Value.slice A2 (U (d + 1)).length c2; rw [hst]; rfl, trivial⟩ (fun w hw => by show Mem _ (sgRow A2 c2 (U (d + 1)) :: _) w; rw [hst]; exact hw.tail) rfl (by show d + 1 ≤ _; omega) (by show signs.length - (d + 1) < signs.length - d; omega)
      · have hend2 : d = signs.length := by simp at hlt2; omega
        subst hend2
        have hUl2 := hUl signs.length (by omega)
        have hUm : ∀ s, s ∈ U signs.length ↔ s ∈ signs := fun s => by
          rw [hUn]
          simp only [List.mem_flatMap, List.mem_reverse]
          constructor
          · rintro ⟨y, hy, h⟩; simp at h; rw [h]; exact hy
          · intro h; exact ⟨s, h, by simp⟩
        have hset : setOf M = setOf xs := setOf_congr hMm
        have e1 : overOf f M (U signs.length) si ri now = overOf f xs signs si ri now := overOf_congr hset hUm
        have e2 : seenOf f M (U signs.length) bike now = seenOf f xs signs bike now := by
          unfold seenOf
          rw [accOf_congr hset, sv_congr (fun t => notices_congr hUm _)]
        have hol := overOf_len f xs signs si ri now
        generalize hV : U signs.length = V at *
        refine H_exit ?_
        refine thenJ_exit ?_
        refine loopJ_exit ?_
        refine blockJ_hit ?_
        refine thenJ_normal ?_
        refine H_seq ?_
        refine R0 ?_
        refine xV (eS Try.isAgg24 Try.sizeOf24 (q0 rfl)) rfl rfl ?_
        refine xV (e_mv (v := .slice _ _ _) (q0 rfl)) rfl rfl ?_
        refine xV (e_mv (v := .slice _ _ _) (q0 rfl)) rfl rfl ?_
        refine xV (eS Try.isAgg34 Try.sizeOf34 (q0 rfl)) rfl rfl ?_
        refine xV (e_mv (v := .int _ _) (q0 rfl)) rfl rfl ?_
        refine xCX (en Try.call14 (fun _ => rfl)) (fun w hw => overdue_w f a A _ c xs sA _ sc signs si ri now w (hf.mem hw) (hx.mem hw) (hs.mem hw) (by omega) hpl) rfl (fun _ => rfl) fun x => ?_
        refine xV (e_mv (q0 rfl)) rfl rfl ?_
        refine xV (e_ext (q0 rfl) rfl) rfl rfl ?_
        refine xV (e_ext (q0 rfl) rfl) rfl rfl ?_
        refine xV (e_as (v := .slice _ _ _) (q0 rfl)) rfl rfl ?_
        refine xV (e_as (v := .int _ _) (q0 rfl)) rfl rfl ?_
        refine XN ?_
        refine thenJ_normal ?_
        refine H_seq ?_
        refine R0 ?_
        refine xV (eS Try.isAgg24 Try.sizeOf24 (q0 rfl)) rfl rfl ?_
        refine xV (e_mv (v := .slice _ _ _) (q0 rfl)) rfl rfl ?_
        refine xV (e_mv (v := .slice _ _ _) (q0 rfl)) rfl rfl ?_
        refine xV (eS Try.isAgg34 Try.sizeOf34 (q0 rfl)) rfl rfl ?_
        refine xV (e_mv (v := .int _ _) (q0 rfl)) rfl rfl ?_
        refine xCX (en Try.call14 (fun _ => rfl)) (fun w hw => overdue_w f a A1 _ c1 M pA _ pc V si ri now w (hf.mem hw) (slAt_row hw (j := 2) rfl (fun _ => rfl) (by omega)) (slAt_row hw (j := 1) rfl (fun _ => rfl) (by omega)) (by omega) hMp) rfl (fun _ => rfl) fun y => ?_
        refine xV (e_mv (q0 rfl)) rfl rfl ?_
        refine xV (e_ext (q0 rfl) rfl) rfl rfl ?_
        refine xV (e_ext (q0 rfl) rfl) rfl rfl ?_
        refine xV (e_as (v := .slice _ _ _) (q0 rfl)) rfl rfl ?_
        refine xV (e_as (v := .int _ _) (q0 rfl)) rfl rfl ?_
        refine XN ?_
        refine thenJ_normal ?_
        refine H_seq ?_
        refine R0 ?_
        refine xV (eS Try.isAgg24 Try.sizeOf24 (q0 rfl)) rfl rfl ?_
        refine xV (e_mv (v := .slice _ _ _) (q0 rfl)) rfl rfl ?_
        refine xV (e_mv (v := .slice _ _ _) (q0 rfl)) rfl rfl ?_
        refine xV (e_mv (v := .int _ _) (q0 rfl)) rfl rfl ?_
        refine xV (e_mv (v := .int _ _) (q0 rfl)) rfl rfl ?_
        refine xC (en Try.call12 (fun _ => rfl)) (fun _ w hw => mseen_w f a A _ c xs sA _ sc signs bike now w (hf.mem hw) (hx.mem hw) (hs.mem hw) (by omega) hpl) rfl rfl ?_
        refine xV (e_mv (q0 rfl)) rfl rfl ?_
        refine xV (e_ext (q0 rfl) rfl) rfl rfl ?_
        refine xV (e_ext (q0 rfl) rfl) rfl rfl ?_
        refine xV (e_as (v := .int _ _) (q0 rfl)) rfl rfl ?_
        refine xV (e_as (v := .int _ _) (q0 rfl)) rfl rfl ?_
        refine XN ?_
        refine thenJ_normal ?_
        refine H_seq ?_
        refine R0 ?_
        refine xV (eS Try.isAgg24 Try.sizeOf24 (q0 rfl)) rfl rfl ?_
        refine xV (e_mv (v := .slice _ _ _) (q0 rfl)) rfl rfl ?_
        refine xV (e_mv (v := .slice _ _ _) (q0 rfl)) rfl rfl ?_
        refine xV (e_mv (v := .int _ _) (q0 rfl)) rfl rfl ?_
        refine xV (e_mv (v := .int _ _) (q0 rfl)) rfl rfl ?_
        refine xC (en Try.call12 (fun _ => rfl)) (fun _ w hw => mseen_w f a A1 _ c1 M pA _ pc V bike now w (hf.mem hw) (slAt_row hw (j := 3) rfl (fun _ => rfl) (by omega)) (slAt_row hw (j := 2) rfl (fun _ => rfl) (by omega)) (by omega) hMp) rfl rfl ?_
        refine xV (e_mv (q0 rfl)) rfl rfl ?_
        refine xV (e_ext (q0 rfl) rfl) rfl rfl ?_
        refine xV (e_ext (q0 rfl) rfl) rfl rfl ?_
        refine xV (e_as (v := .int _ _) (q0 rfl)) rfl rfl ?_
        refine xV (e_as (v := .int _ _) (q0 rfl)) rfl rfl ?_
        refine XN ?_
        refine thenJ_normal ?_
        refine H_seq ?_
        rw [e1, e2]
        refine R0 ?_
        refine xV (e_mv (v := .slice _ _ _) (q0 rfl)) rfl rfl ?_
        refine xV (e_mv (v := .slice _ _ _) (q0 rfl)) rfl rfl ?_
        refine xC (en Try.call16 (ha2 (q0 rfl) (q0 rfl))) (fun _ w hw => ints_w x.1 y.1 _ _ x.2 y.2 _ _ w (slAt_row hw (j := 1) rfl (fun _ => rfl) (by omega)) (slAt_row hw (j := 0) rfl (fun _ => rfl) (by omega))) rfl rfl ?_
        refine xV (e_mv (v := .bool _) (q0 rfl)) rfl rfl ?_
        refine xVT (e_mv (v := .int _ _) (q0 rfl)) rfl rfl rfl rfl ?_
        refine xVT (e_mv (v := .int _ _) (q0 rfl)) rfl rfl rfl rfl ?_
        refine xVT (e_eq (q1 rfl) (q1 rfl)) rfl rfl rfl rfl ?_
        refine xV (e_and (q0 rfl) rfl (fun h => by first | rfl | (rw [h]; rfl))) rfl rfl ?_
        refine xV (e_mv (v := .bool _) (q0 rfl)) rfl rfl ?_
        refine xVT (e_mv (v := .int _ _) (q0 rfl)) rfl rfl rfl rfl ?_
        refine xVT (e_mv (v := .int _ _) (q0 rfl)) rfl rfl rfl rfl ?_
        refine xVT (e_eq (q1 rfl) (q1 rfl)) rfl rfl rfl rfl ?_
        refine xV (e_and (q0 rfl) rfl (fun h => by first | rfl | (rw [h]; rfl))) rfl rfl ?_
        refine xV (e_mv (v := .bool _) (q0 rfl)) rfl rfl ?_
        refine xVT (e_mv (v := .int _ _) (q0 rfl)) rfl rfl rfl rfl ?_
        refine xVT (e_mv (v := .int _ _) (q0 rfl)) rfl rfl rfl rfl ?_
        refine xVT (e_eq (q1 rfl) (q1 rfl)) rfl rfl rfl rfl ?_
        refine xV (e_and (q0 rfl) rfl (fun h => by first | rfl | (rw [h]; rfl))) rfl rfl ?_
        refine xV (e_mv (v := .bool _) (q0 rfl)) rfl rfl ?_
        refine xCT (en Try.call11 (ha0)) (fun _ w _ => awake_w w) rfl rfl rfl rfl ?_
        refine xV (e_and (q0 rfl) rfl (fun h => by first | rfl | (rw [h]; rfl))) rfl rfl ?_
        refine xV (e_as (v := .bool _) (q0 rfl)) rfl rfl ?_
        refine XN ?_
        refine thenJ_normal ?_
        refine H_ret ?_
        exact ret1 (v := .bool _) rfl rfl rfl fun w' hw => ⟨ret_bool (by simp), hw.1⟩
set_option maxHeartbeats 1000000 in
set_option maxRecDepth 20000 in
theorem signsLaw_w (f : Fl) (a : FA) (A : Option Addr) (n c : Nat) (xs : List Ev) (sA : Option Addr) (sn sc : Nat) (signs : List Sg) (si ri bike now : Int) (w : World) (hf : FlAt w f a) (hx : EvsAt w A n xs) (hs : SgsAt w sA sn signs) (hpl : PlOk xs) :
    Calls Try.prog 9 #[.agg (f.cells a).toArray, .slice A n c, .slice sA sn sc, .agg (paV si ri).toArray, .int .i64 bike, .int .i64 now] w fun r w' => r = .returned (.bool true) ∧ Bel w w' := by
  have hsl := hs.1
  have hol := overOf_len f xs signs si ri now
  have hol2 := overOf_len f xs (signs ++ [⟨bike, now⟩]) si ri now
  refine H_enter Try.func9 rfl Try.ntmps9 rfl ?_
  refine H_seq ?_
  refine R0 ?_
  refine X_box (v := .agg _) rfl rfl fun b6 => ?_
  refine X_box (v := .agg _) rfl rfl fun b9 => ?_
  refine xV (e_as (v := .bool _) (q0 rfl)) rfl rfl ?_
  refine XN ?_
  refine thenJ_normal ?_
  refine H_seq ?_
  refine H_seq ?_
  refine R0 ?_
  refine xV (eS Try.isAgg24 Try.sizeOf24 (q0 rfl)) rfl rfl ?_
  refine xV (e_mv (v := .slice _ _ _) (q0 rfl)) rfl rfl ?_
  refine xV (e_mv (v := .slice _ _ _) (q0 rfl)) rfl rfl ?_
  refine xC (en Try.call10 (ha3 (q0 rfl) (q0 rfl) (q0 rfl))) (fun _ w _ => mfew_w f a A n c sA sn sc w) rfl rfl ?_
  refine xV (e_not (q0 rfl)) rfl rfl ?_
  refine XN ?_
  refine thenJ_normal ?_
  refine H_cond rfl (fun h0 => ?_) (fun h0 => ?_)
  · refine H_seq ?_
    refine R0 ?_
    refine xC (en Try.call11 (ha0)) (fun _ w _ => awake_w w) rfl rfl ?_
    refine xV (e_as (v := .bool _) (q0 rfl)) rfl rfl ?_
    refine XN ?_
    refine thenJ_normal ?_
    refine H_ret ?_
    refine thenJ_ret ?_
    exact ret1 (v := .bool _) rfl rfl rfl fun w' hw => ⟨rfl, hw.1⟩
  · obtain ⟨hn, hsn⟩ := mfew_n h0
    refine H_skip ?_
    refine thenJ_normal ?_
    refine H_seq ?_
    refine R0 ?_
    refine X_eff (f_slit0 Sg.cells Try.underlying26 Try.sizeOf51 rfl fun A1 c1 => ?_)
    refine xV (e_mv (v := .slice _ _ _) (q0 rfl)) rfl rfl ?_
    refine X_append (f_append (k := 2) (i := Try.t51) (enc := Sg.cells) 0 Try.underlying26 (by kernel_rfl) rfl rfl rfl rfl (fun _ => rfl) (fun _ => rfl) rfl rfl rfl (fun w hw => hs.mem hw) ⟨by simp; omega, by decide⟩ rfl fun A2 c2 => ?_)
    refine xV (e_mv (v := .int _ _) (q0 rfl)) rfl rfl ?_
    refine xV (e_mv (v := .int _ _) (q0 rfl)) rfl rfl ?_
    refine xV (e_build Try.underlying51 fl51 Try.zeroValue51 (pt (v := .int _ _) rfl (pt (v := .int _ _) rfl E.p0)) rfl) rfl rfl ?_
    refine X_push (k := 2) (i := Try.t51) 0 (⟨bike, now⟩) Try.underlying26 (by kernel_rfl) rfl rfl rfl rfl Try.sizeOf51 Try.zeroValue51 rfl rfl rfl rfl rfl rfl ⟨by simp; omega, by decide⟩ rfl rfl fun PB A3 c3 => ?_
    obtain ⟨S, hS⟩ : ∃ S, S = signs ++ [⟨bike, now⟩] := ⟨_, rfl⟩
    have hSl : S.length ≤ 41 := by rw [hS, List.length_append, hsl]; simp; omega
    rw [← hS] at hol2
    simp only [List.nil_append, ← hS]
    refine xV (e_as (v := .slice _ _ _) (q0 rfl)) rfl rfl ?_
    refine XN ?_
    refine thenJ_normal ?_
    refine H_seq ?_
    refine R0 ?_
    refine xV (eS Try.isAgg24 Try.sizeOf24 (q0 rfl)) rfl rfl ?_
    refine xV (e_mv (v := .slice _ _ _) (q0 rfl)) rfl rfl ?_
    refine xV (e_mv (v := .slice _ _ _) (q0 rfl)) rfl rfl ?_
    refine xV (eS Try.isAgg34 Try.sizeOf34 (q0 rfl)) rfl rfl ?_
    refine xV (e_mv (v := .int _ _) (q0 rfl)) rfl rfl ?_
    refine xCX (en Try.call14 (fun _ => rfl)) (fun w hw => overdue_w f a A n c xs sA sn sc signs si ri now w (hf.mem hw) (hx.mem hw) (hs.mem hw) (by omega) hpl) rfl (fun _ => rfl) fun x => ?_
    refine xV (e_mv (q0 rfl)) rfl rfl ?_
    refine xV (e_ext (q0 rfl) rfl) rfl rfl ?_
    refine xV (e_ext (q0 rfl) rfl) rfl rfl ?_
    refine xV (e_as (v := .slice _ _ _) (q0 rfl)) rfl rfl ?_
    refine xV (e_as (v := .int _ _) (q0 rfl)) rfl rfl ?_
    refine XN ?_
    refine thenJ_normal ?_
    refine H_seq ?_
    refine R0 ?_
    refine xV (eS Try.isAgg24 Try.sizeOf24 (q0 rfl)) rfl rfl ?_
    refine xV (e_mv (v := .slice _ _ _) (q0 rfl)) rfl rfl ?_
    refine xV (e_mv (v := .slice _ _ _) (q0 rfl)) rfl rfl ?_
    refine xV (eS Try.isAgg34 Try.sizeOf34 (q0 rfl)) rfl rfl ?_
    refine xV (e_mv (v := .int _ _) (q0 rfl)) rfl rfl ?_
    refine xCX (en Try.call14 (fun _ => rfl)) (fun w hw => overdue_w f a A n c xs A3 _ c3 S si ri now w (hf.mem hw) (hx.mem hw) (slAt_row hw (j := 1) rfl (fun _ => rfl) (by omega)) (by omega) hpl) rfl (fun _ => rfl) fun y => ?_
    refine xV (e_mv (q0 rfl)) rfl rfl ?_
    refine xV (e_ext (q0 rfl) rfl) rfl rfl ?_
    refine xV (e_ext (q0 rfl) rfl) rfl rfl ?_
    refine xV (e_as (v := .slice _ _ _) (q0 rfl)) rfl rfl ?_
    refine xV (e_as (v := .int _ _) (q0 rfl)) rfl rfl ?_
    refine XN ?_
    refine thenJ_normal ?_
    refine H_seq ?_
    refine H_seq ?_
    refine R0 ?_
    refine xV (e_mv (v := .int _ _) (q0 rfl)) rfl rfl ?_
    refine xV (e_ne (q0 rfl) (q0 rfl)) rfl rfl ?_
    refine xV (e_mv (v := .bool _) (q0 rfl)) rfl rfl ?_
    refine xVF (e_mv (v := .int _ _) (q0 rfl)) rfl rfl rfl rfl ?_
    refine xVF (e_ne (q1 rfl) (q0 rfl)) rfl rfl rfl rfl ?_
    refine xV (e_or (q0 rfl) rfl (fun h => by first | rfl | (rw [h]; rfl))) rfl rfl ?_
    refine XN ?_
    refine thenJ_normal ?_
    refine H_cond rfl (fun h1 => ?_) (fun h1 => ?_)
    · refine H_seq ?_
      refine R0 ?_
      refine xV (e_mv (v := .int _ _) (q0 rfl)) rfl rfl ?_
      refine xV (e_mv (v := .int _ _) (q0 rfl)) rfl rfl ?_
      refine xV (e_eq (q0 rfl) (q0 rfl)) rfl rfl ?_
      refine xV (e_mv (v := .bool _) (q0 rfl)) rfl rfl ?_
      refine xCT (en Try.call11 (ha0)) (fun _ w _ => awake_w w) rfl rfl rfl rfl ?_
      refine xV (e_and (q0 rfl) rfl (fun h => by first | rfl | (rw [h]; rfl))) rfl rfl ?_
      refine xV (e_as (v := .bool _) (q0 rfl)) rfl rfl ?_
      refine XN ?_
      refine thenJ_normal ?_
      refine H_ret ?_
      refine thenJ_ret ?_
      exact ret1 (v := .bool _) rfl rfl rfl fun w' hw => ⟨ret_bool (by simp), hw.1⟩
    · have e1 : overErr f si ri now = 0 := by simpa using h1
      obtain ⟨hck, hok, hn0, hnM⟩ := over_ok e1
      have hnb := nb_eq hok
      obtain ⟨hbk, -⟩ := flErr_ok hok
      have hsi : 1 ≤ si := by
        unfold chkP at hck
        split at hck
        · cases hck
        · rename_i h
          simp at h
          omega
      have hat := fun k => at_spot (xs := xs) (k := k) hok ⟨hn0, hnM⟩
      have hin : ∀ k : Nat, k < nbOf f → decide ((k : Int) ∈ overOf f xs S si ri now) = (decide ((k : Int) ∈ overOf f xs signs si ri now) && (!decide ((k : Int) = bike) || decide ((atOf f xs k now).where_ = 3))) := fun k hk => by
        rw [(hat k hk).2, hS]
        unfold overOf
        rw [Bool.eq_iff_iff]
        simp only [if_pos e1, Bool.and_eq_true, decide_eq_true_eq]
        rw [mem_over, mem_over, late_sign _ _ _ _ _ _ _ _ hn0 hsi, Bool.and_eq_true]
        simp only [hk, true_and, decide_eq_true_eq]
      generalize overOf f xs signs si ri now = p at *
      generalize overOf f xs S si ri now = q at *
      obtain ⟨x1, x2⟩ := x
      obtain ⟨y1, y2⟩ := y
      refine H_skip ?_
      refine thenJ_normal ?_
      refine H_seq ?_
      refine H_seq ?_
      refine R0 ?_
      refine xV (e_as (v := .int _ _) (q0 rfl)) rfl rfl ?_
      refine XN ?_
      refine thenJ_normal ?_
      refine H_block ?_
      refine H_loop [12, 18, 19, 20, 21, 66, 67, 68, 69, 70, 71, 72, 73, 74, 75, 76, 77, 78, 79, 80, 81, 82, 83, 84, 85, 86, 87, 88, 89, 90, 91, 92, 93, 94, 95, 96, 97] (fun k : Nat => [(18, .int .i64 k)]) (fun _ => [inRow y1 y2 q, inRow x1 x2 p, box b6 24 (f.cells a)]) (fun k => k ≤ nbOf f) (fun k => nbOf f - k) 0 ⟨rfl, trivial⟩ (fun w hw => hw.pick [0, 1, 4] (by decide)) rfl (Nat.zero_le _) ?_
      rintro k g hk
      refine H_seq ?_
      refine H_seq ?_
      refine R0 ?_
      refine xV (e_mv (v := .int _ _) (q0 rfl)) rfl rfl ?_
      refine xV (e_fld Try.underlying24 rfl Try.sizeOf3 rfl (q0 rfl)) rfl rfl ?_
      refine xV (eL Try.isAgg3 (q0 rfl)) rfl rfl ?_
      refine xV (e_lt (q0 rfl) (q0 rfl)) rfl rfl ?_
      refine XN ?_
      refine thenJ_normal ?_
      refine H_cond rfl (fun hlt => ?_) (fun hlt => ?_)
      · have hlt' : k < nbOf f := by simp at hlt; omega
        have hink := hin k hlt'
        refine H_skip ?_
        refine thenJ_normal ?_
        refine H_seq ?_
        refine H_block ?_
        refine H_seq ?_
        refine R0 ?_
        refine xV (eS Try.isAgg24 Try.sizeOf24 (q0 rfl)) rfl rfl ?_
        refine xV (e_mv (v := .slice _ _ _) (q0 rfl)) rfl rfl ?_
        refine xV (e_mv (v := .int _ _) (q0 rfl)) rfl rfl ?_
        refine xV (e_mv (v := .int _ _) (q0 rfl)) rfl rfl ?_
        refine xC (en Try.call24 (ha4 (q0 rfl) (q0 rfl) (q0 rfl) (q0 rfl))) (fun _ w hw => at_w f a A n c xs k now w (hf.mem hw) (hx.mem hw) (by omega) hpl) rfl rfl ?_
        refine xV (e_mv (q0 rfl)) rfl rfl ?_
        refine xV (e_ext (q0 rfl) rfl) rfl rfl ?_
        refine xV (e_ext (q0 rfl) rfl) rfl rfl ?_
        refine X_alloc Try.zeroValue55 rfl fun b19 => ?_
        refine X_st (v := .agg _) rfl rfl Try.sizeOf55 ?_
        refine xV (e_as (v := .int _ _) (q0 rfl)) rfl rfl ?_
        refine XN ?_
        refine thenJ_normal ?_
        refine H_seq ?_
        generalize atOf f xs k now = s at *
        refine R0 ?_
        refine xV (e_mv (v := .slice _ _ _) (q0 rfl)) rfl rfl ?_
        refine xV (e_mv (v := .int _ _) (q0 rfl)) rfl rfl ?_
        refine xC (en Try.call22 (ha2 (q0 rfl) (q0 rfl))) (fun _ w hw => has_w x1 _ x2 p k w (slAt_row hw (j := 2) rfl (fun _ => rfl) (by omega))) rfl rfl ?_
        refine xV (e_mv (v := .bool _) (q0 rfl)) rfl rfl ?_
        refine xVT (e_mv (v := .int _ _) (q0 rfl)) rfl rfl rfl rfl ?_
        refine xVT (e_mv (v := .int _ _) (q0 rfl)) rfl rfl rfl rfl ?_
        refine xVT (e_ne (q1 rfl) (q1 rfl)) rfl rfl rfl rfl ?_
        refine xVT (e_mv (v := .bool _) (q1 rfl)) rfl rfl rfl rfl ?_
        refine xVF2 (e_fld Try.underlying55 rfl Try.sizeOf3 rfl (q0 rfl)) rfl rfl rfl rfl ?_
        refine xVF2 (eL Try.isAgg3 (q1 rfl)) rfl rfl rfl rfl ?_
        refine xVF2 (e_eq (q1 rfl) (q0 rfl)) rfl rfl rfl rfl ?_
        refine xVT (e_or (q1 rfl) rfl (fun h => by first | rfl | (rw [h]; rfl))) rfl rfl rfl rfl ?_
        refine xV (e_and (q0 rfl) rfl (fun h => by first | rfl | (rw [h]; rfl))) rfl rfl ?_
        refine xV (e_as (v := .bool _) (q0 rfl)) rfl rfl ?_
        refine XN ?_
        refine thenJ_normal ?_
        refine H_seq ?_
        refine R0 ?_
        refine xV (e_mv (v := .slice _ _ _) (q0 rfl)) rfl rfl ?_
        refine xV (e_mv (v := .int _ _) (q0 rfl)) rfl rfl ?_
        refine xC (en Try.call22 (ha2 (q0 rfl) (q0 rfl))) (fun _ w hw => has_w y1 _ y2 q k w (slAt_row hw (j := 1) rfl (fun _ => rfl) (by omega))) rfl rfl ?_
        refine xV (e_mv (v := .bool _) (q0 rfl)) rfl rfl ?_
        refine xV (e_neb Try.underlying4 (q0 rfl) (q0 rfl)) rfl rfl ?_
        refine XN ?_
        refine thenJ_normal ?_
        refine H_cond rfl (fun hb => ?_) (fun hb => ?_)
        · exfalso
          rw [hink] at hb
          simp at hb
        · refine H_skip ?_
          refine blockJ_normal ?_
          refine thenJ_normal ?_
          refine R0 ?_
          refine xV (e_mv (v := .int _ _) (q0 rfl)) rfl rfl ?_
          refine xV (e_add (q0 rfl) (q0 rfl) (fun _ => ⟨rfl, by omega, by omega⟩)) rfl rfl ?_
          refine xV (e_as (v := .int _ _) (q0 rfl)) rfl rfl ?_
          refine XN ?_
          exact loopJ_normal (k + 1) (by repeat (first | exact agree_self | exact agree_over | refine agree_upd rfl ?_ | refine agree_updL rfl ?_ | refine agree_over2 rfl ?_)) ⟨rfl, trivial⟩ (fun w hw => hw.tail) rfl (by show k + 1 ≤ _; omega) (by show nbOf f - (k + 1) < nbOf f - k; omega)
      · refine H_exit ?_
        refine thenJ_exit ?_
        refine loopJ_exit ?_
        refine blockJ_hit ?_
        refine thenJ_normal ?_
        refine H_seq ?_
        refine R0 ?_
        refine xC (en Try.call11 (ha0)) (fun _ w _ => awake_w w) rfl rfl ?_
        refine xV (e_as (v := .bool _) (q0 rfl)) rfl rfl ?_
        refine XN ?_
        refine thenJ_normal ?_
        refine H_ret ?_
        exact ret1 (v := .bool _) rfl rfl rfl fun w' hw => ⟨rfl, hw.1⟩
theorem sameSp_w_eq (x y : Sp) (w : World) : (Op.equal 55 (.agg (Sp.cells x).toArray) (.agg (Sp.cells y).toArray)).run Try.prog w = .ok (decide (x = y)) w := by
  have h : (Op.equalIn 10000 55 (.agg (Sp.cells x).toArray) (.agg (Sp.cells y).toArray)).run Try.prog w = .ok (x.where_ == y.where_ && (x.place == y.place && (x.ride == y.ride && (x.paused == y.paused && true)))) w :=
    eqS_of w Try.underlying55 (by kernel_rfl) (eqF_cons w (by decide) (run_part_one w Try.isAgg3 rfl) (run_part_one w Try.isAgg3 rfl) (run_equalIn_int w _ _ .i64 .i64 _ _ Try.underlying3) (eqF_cons w (by decide) (run_part_one w Try.isAgg3 rfl) (run_part_one w Try.isAgg3 rfl) (run_equalIn_int w _ _ .i64 .i64 _ _ Try.underlying3) (eqF_cons w (by decide) (run_part_one w Try.isAgg3 rfl) (run_part_one w Try.isAgg3 rfl) (run_equalIn_int w _ _ .i64 .i64 _ _ Try.underlying3) (eqF_cons w (by decide) (run_part_one w Try.isAgg4 rfl) (run_part_one w Try.isAgg4 rfl) (run_equalIn_bool' w _ _ _ _ Try.underlying4) (eqF_nil w)))))
  have e : (x.where_ == y.where_ && (x.place == y.place && (x.ride == y.ride && (x.paused == y.paused && true)))) = decide (x = y) := by
    rw [Bool.eq_iff_iff]
    cases x; cases y
    simp
  rw [← e]; exact h
/-- is the bicycle among these events -/
def namedP (k : Int) (l : List Ev) : Bool := l.any fun e => decide (e.bike = k)
theorem named_snoc (k : Int) (l : List Ev) (e : Ev) : namedP k (l ++ [e]) = (namedP k l || decide (e.bike = k)) := by simp [namedP]
theorem named_rep (k : Int) (device seq now : Int) (l : List Int) : namedP k (repL device seq now l) = decide (k ∈ l) := by
  unfold namedP
  rw [Bool.eq_iff_iff, List.any_eq_true, decide_eq_true_eq]
  constructor
  · rintro ⟨e, he, hb⟩
    obtain ⟨i, b, hi, rfl⟩ := repL_mem.1 he
    have hb' : b = k := of_decide_eq_true hb
    rw [← hb']; exact List.mem_of_getElem? hi
  · intro h
    obtain ⟨i, hi⟩ := List.mem_iff_getElem?.1 h
    exact ⟨_, repL_mem.2 ⟨i, k, hi, rfl⟩, decide_eq_true rfl⟩
set_option maxHeartbeats 2000000 in
set_option maxRecDepth 20000 in
theorem reportsLaw_w (f : Fl) (a : FA) (A : Option Addr) (n c : Nat) (xs0 : List Ev) (sA : Option Addr) (sn sc : Nat) (signs : List Sg) (si ri now device seq : Int) (w : World) (hf : FlAt w f a) (hx0 : EvsAt w A n xs0) (hs : SgsAt w sA sn signs) (hpl0 : PlOk xs0) :
    Calls Try.prog 8 #[.agg (f.cells a).toArray, .slice A n c, .slice sA sn sc, .agg (paV si ri).toArray, .agg (ordV now device seq).toArray] w fun r w' => r = .returned (.bool true) ∧ Bel w w' := by
  have hl0 := hx0.1
  have hxs : ∀ e ∈ bfL now device seq xs0, e.at_ < now ∧ (e.device ≠ device ∨ e.seq < seq) := fun e he => by
    have := (List.mem_filter.1 he).2
    unfold bfP at this
    simpa using this
  have hpl : PlOk (bfL now device seq xs0) := fun e he => hpl0 e (List.mem_filter.1 he).1
  have hxl : (bfL now device seq xs0).length ≤ xs0.length := List.length_filter_le _ _
  refine H_enter Try.func8 rfl Try.ntmps8 rfl ?_
  refine H_seq ?_
  refine R0 ?_
  refine X_box (v := .agg _) rfl rfl fun b5 => ?_
  refine X_box (v := .agg _) rfl rfl fun b8 => ?_
  refine X_box (v := .agg _) rfl rfl fun b9 => ?_
  refine xV (e_as (v := .bool _) (q0 rfl)) rfl rfl ?_
  refine XN ?_
  refine thenJ_normal ?_
  refine H_seq ?_
  refine H_seq ?_
  refine R0 ?_
  refine xV (eS Try.isAgg24 Try.sizeOf24 (q0 rfl)) rfl rfl ?_
  refine xV (e_mv (v := .slice _ _ _) (q0 rfl)) rfl rfl ?_
  refine xV (e_mv (v := .slice _ _ _) (q0 rfl)) rfl rfl ?_
  refine xC (en Try.call10 (ha3 (q0 rfl) (q0 rfl) (q0 rfl))) (fun _ w _ => mfew_w f a A n c sA sn sc w) rfl rfl ?_
  refine xV (e_not (q0 rfl)) rfl rfl ?_
  refine XN ?_
  refine thenJ_normal ?_
  refine H_cond rfl (fun h0 => ?_) (fun h0 => ?_)
  · refine H_seq ?_
    refine R0 ?_
    refine xC (en Try.call11 (ha0)) (fun _ w _ => awake_w w) rfl rfl ?_
    refine xV (e_as (v := .bool _) (q0 rfl)) rfl rfl ?_
    refine XN ?_
    refine thenJ_normal ?_
    refine H_ret ?_
    refine thenJ_ret ?_
    exact ret1 (v := .bool _) rfl rfl rfl fun w' hw => ⟨rfl, hw.1⟩
  · obtain ⟨hn, hsn⟩ := mfew_n h0
    refine H_skip ?_
    refine thenJ_normal ?_
    refine H_seq ?_
    refine R0 ?_
    refine xV (e_mv (v := .slice _ _ _) (q0 rfl)) rfl rfl ?_
    refine xV (eS Try.isAgg41 Try.sizeOf41 (q0 rfl)) rfl rfl ?_
    refine xCX (en Try.call23 (ha2 (q0 rfl) (q0 rfl))) (fun w hw => lbefore_w A n c xs0 now device seq w (hx0.mem hw) (by omega)) rfl (fun _ => rfl) fun l1 => ?_
    refine xV (e_as (v := .slice _ _ _) (q0 rfl)) rfl rfl ?_
    refine XN ?_
    refine thenJ_normal ?_
    refine H_seq ?_
    generalize bfL now device seq xs0 = xs at *
    have hol := overOf_len f xs signs si ri now
    refine R0 ?_
    refine xV (eS Try.isAgg24 Try.sizeOf24 (q0 rfl)) rfl rfl ?_
    refine xV (e_mv (v := .slice _ _ _) (q0 rfl)) rfl rfl ?_
    refine xV (e_mv (v := .slice _ _ _) (q0 rfl)) rfl rfl ?_
    refine xV (eS Try.isAgg34 Try.sizeOf34 (q0 rfl)) rfl rfl ?_
    refine xV (e_fld Try.underlying41 rfl Try.sizeOf3 rfl (q0 rfl)) rfl rfl ?_
    refine xV (eL Try.isAgg3 (q0 rfl)) rfl rfl ?_
    refine xV (e_fld Try.underlying41 rfl Try.sizeOf3 rfl (q0 rfl)) rfl rfl ?_
    refine xV (eL Try.isAgg3 (q0 rfl)) rfl rfl ?_
    refine xV (e_fld Try.underlying41 rfl Try.sizeOf3 rfl (q0 rfl)) rfl rfl ?_
    refine xV (eL Try.isAgg3 (q0 rfl)) rfl rfl ?_
    refine xCX (en Try.call19 (fun _ => rfl)) (fun w hw => reports_w f a l1.1 _ l1.2 xs sA sn sc signs si ri now device seq w (hf.mem hw) (slAt_row hw (j := 0) rfl (fun _ => rfl) (by omega)) (hs.mem hw) (by omega) hpl) rfl (fun _ => rfl) fun r1 => ?_
    refine xV (e_mv (q0 rfl)) rfl rfl ?_
    refine xV (e_ext (q0 rfl) rfl) rfl rfl ?_
    refine xV (e_ext (q0 rfl) rfl) rfl rfl ?_
    refine xV (e_as (v := .slice _ _ _) (q0 rfl)) rfl rfl ?_
    refine xV (e_as (v := .int _ _) (q0 rfl)) rfl rfl ?_
    refine XN ?_
    refine thenJ_normal ?_
    refine H_seq ?_
    refine H_seq ?_
    refine R0 ?_
    refine xV (e_mv (v := .int _ _) (q0 rfl)) rfl rfl ?_
    refine xV (e_ne (q0 rfl) (q0 rfl)) rfl rfl ?_
    refine XN ?_
    refine thenJ_normal ?_
    refine H_cond rfl (fun h1 => ?_) (fun h1 => ?_)
    · have h1' : repErr f xs signs si ri now device seq ≠ 0 := by simpa using h1
      have ho : repOf f xs signs si ri now device seq = [] := by unfold repOf; rw [if_neg h1']
      rw [ho]
      refine H_seq ?_
      refine R0 ?_
      refine xV (e_mv (v := .slice _ _ _) (q0 rfl)) rfl rfl ?_
      refine xV (e_len Try.underlying25 (q0 rfl)) rfl rfl ?_
      refine xV (e_eq (q0 rfl) (q0 rfl)) rfl rfl ?_
      refine xV (e_mv (v := .bool _) (q0 rfl)) rfl rfl ?_
      refine xCT (en Try.call11 (ha0)) (fun _ w _ => awake_w w) rfl rfl rfl rfl ?_
      refine xV (e_and (q0 rfl) rfl (fun h => by first | rfl | (rw [h]; rfl))) rfl rfl ?_
      refine xV (e_as (v := .bool _) (q0 rfl)) rfl rfl ?_
      refine XN ?_
      refine thenJ_normal ?_
      refine H_ret ?_
      refine thenJ_ret ?_
      exact ret1 (v := .bool _) rfl rfl rfl fun w' hw => ⟨ret_bool (by simp), hw.1⟩
    · have h1' : repErr f xs signs si ri now device seq = 0 := by simpa using h1
      obtain ⟨e1, hd, hq, hsl⟩ := rep_ok h1'
      obtain ⟨hck, hok, hn0, hnM⟩ := over_ok e1
      have hnb := nb_eq hok
      obtain ⟨hbk, -⟩ := flErr_ok hok
      have ho : repOf f xs signs si ri now device seq = repL device seq now (overOf f xs signs si ri now) := by unfold repOf; rw [if_pos h1']
      obtain ⟨hsp, hnone⟩ := reports_do e1 hd hq hsl hxs
      have hrl := repL_len device seq now (overOf f xs signs si ri now)
      have hnm := fun k => named_rep k device seq now (overOf f xs signs si ri now)
      have hplR : PlOk (repL device seq now (overOf f xs signs si ri now)) := fun e he => by
        obtain ⟨i, b, _, rfl⟩ := repL_mem.1 he
        simp [repEv]
      have hlate : ∀ k : Nat, k < nbOf f → (k : Int) ∈ overOf f xs signs si ri now → (atOf f xs k now).where_ ≠ 6 := fun k hk h => by
        rw [(at_spot hok ⟨hn0, hnM⟩ hk).2]
        unfold overOf at h
        rw [if_pos e1] at h
        exact (late_where ((mem_over k).1 h).2).2
      rw [ho]
      generalize hR : repL device seq now (overOf f xs signs si ri now) = R at *
      have hat : ∀ k : Nat, k < nbOf f → atOf f (xs ++ R) k now = if namedP k R = true then ⟨6, 0, 0, false⟩ else atOf f xs k now := fun k hk => by
        rw [(at_spot hok ⟨hn0, hnM⟩ hk).2, (at_spot hok ⟨hn0, hnM⟩ hk).2, List.getD_eq_getElem?_getD, List.getD_eq_getElem?_getD, hsp k, hnm k]
        simp only [decide_eq_true_eq]
        split <;> rfl
      have hlt6 : ∀ k : Nat, k < nbOf f → namedP k R = true → (atOf f xs k now).where_ ≠ 6 := fun k hk h => hlate k hk (by rw [hnm k] at h; simpa using h)
      have hae := fun k hk => (at_spot (f := f) (xs := xs) (k := k) hok ⟨hn0, hnM⟩ hk).1
      have hplA : PlOk (xs ++ R) := fun e he => (List.mem_append.1 he).elim (hpl e) (hplR e)
      obtain ⟨l11, l12⟩ := l1
      obtain ⟨r11, r12⟩ := r1
      refine H_skip ?_
      refine thenJ_normal ?_
      refine H_seq ?_
      refine R0 ?_
      refine X_eff (f_slit0 Ev.cells Try.underlying25 Try.sizeOf49 rfl fun A1 c1 => ?_)
      refine xV (e_mv (v := .slice _ _ _) (q0 rfl)) rfl rfl ?_
      refine X_append (f_append (k := 9) (i := Try.t49) (enc := Ev.cells) 0 Try.underlying25 (by kernel_rfl) rfl rfl rfl rfl (fun _ => rfl) (fun _ => rfl) rfl rfl rfl (fun w hw => slAt_row hw (j := 2) rfl (fun _ => rfl) (by omega)) ⟨by simp; omega, by decide⟩ rfl fun A2 c2 => ?_)
      refine xV (e_mv (v := .slice _ _ _) (q0 rfl)) rfl rfl ?_
      refine X_append (f_append (k := 9) (i := Try.t49) (enc := Ev.cells) 0 Try.underlying25 (by kernel_rfl) rfl rfl rfl rfl (fun _ => rfl) (fun _ => rfl) rfl rfl rfl (fun w hw => slAt_row hw (j := 1) rfl (fun _ => rfl) (by omega)) ⟨by simp; omega, by decide⟩ rfl fun A3 c3 => ?_)
      simp only [List.nil_append]
      have hAl : (xs ++ R).length ≤ 200 := by rw [List.length_append]; omega
      refine xV (e_as (v := .slice _ _ _) (q0 rfl)) rfl rfl ?_
      refine XN ?_
      refine thenJ_normal ?_
      refine H_seq ?_
      refine H_seq ?_
      refine R0 ?_
      refine xV (e_as (v := .int _ _) (q0 rfl)) rfl rfl ?_
      refine XN ?_
      refine thenJ_normal ?_
      refine H_block ?_
      refine H_loop [10, 14, 15, 16, 17, 18, 19, 20, 59, 60, 61, 62, 63, 64, 65, 66, 67, 68, 69, 70, 71, 72, 73, 74, 75, 76, 77, 78, 79, 80, 81, 82, 83, 84, 85, 86, 87, 88, 89, 90, 91, 92, 93, 94, 95, 96, 97, 98, 99, 100, 101, 102, 103, 104, 105, 106, 107, 108, 109, 110, 111, 112, 113, 114, 115, 116, 117, 118, 119, 120, 121] (fun k : Nat => [(14, .int .i64 k)]) (fun _ => [evRow A3 c3 (xs ++ R), evRow r11 r12 R, evRow l11 l12 xs, box b9 41 (ordV now device seq), box b8 34 (paV si ri), box b5 24 (f.cells a)]) (fun k => k ≤ nbOf f) (fun k => nbOf f - k) 0 ⟨rfl, trivial⟩ (fun w hw => hw) rfl (Nat.zero_le _) ?_
      rintro k g hk
      refine H_seq ?_
      refine H_seq ?_
      refine R0 ?_
      refine xV (e_mv (v := .int _ _) (q0 rfl)) rfl rfl ?_
      refine xV (e_fld Try.underlying24 rfl Try.sizeOf3 rfl (q0 rfl)) rfl rfl ?_
      refine xV (eL Try.isAgg3 (q0 rfl)) rfl rfl ?_
      refine xV (e_lt (q0 rfl) (q0 rfl)) rfl rfl ?_
      refine XN ?_
      refine thenJ_normal ?_
      refine H_cond rfl (fun hlt => ?_) (fun hlt => ?_)
      · have hlt' : k < nbOf f := by simp at hlt; omega
        have hatk := hat k hlt'
        have hlk := hlt6 k hlt'
        have haek := hae k hlt'
        refine H_skip ?_
        refine thenJ_normal ?_
        refine H_seq ?_
        refine H_block ?_
        refine H_seq ?_
        refine R0 ?_
        refine xV (eS Try.isAgg24 Try.sizeOf24 (q0 rfl)) rfl rfl ?_
        refine xV (e_mv (v := .slice _ _ _) (q0 rfl)) rfl rfl ?_
        refine xV (e_mv (v := .int _ _) (q0 rfl)) rfl rfl ?_
        refine xV (e_fld Try.underlying41 rfl Try.sizeOf3 rfl (q0 rfl)) rfl rfl ?_
        refine xV (eL Try.isAgg3 (q0 rfl)) rfl rfl ?_
        refine xC (en Try.call24 (ha4 (q0 rfl) (q0 rfl) (q0 rfl) (q0 rfl))) (fun _ w hw => at_w f a l11 _ l12 xs k now w (hf.mem hw) (slAt_row hw (j := 2) rfl (fun _ => rfl) (by omega)) (by omega) hpl) rfl rfl ?_
        refine xV (e_mv (q0 rfl)) rfl rfl ?_
        refine xV (e_ext (q0 rfl) rfl) rfl rfl ?_
        refine xV (e_ext (q0 rfl) rfl) rfl rfl ?_
        refine X_alloc Try.zeroValue55 rfl fun b15 => ?_
        refine X_st (v := .agg _) rfl rfl Try.sizeOf55 ?_
        refine xV (e_as (v := .int _ _) (q0 rfl)) rfl rfl ?_
        refine XN ?_
        refine thenJ_normal ?_
        refine H_seq ?_
        refine R0 ?_
        refine xV (eS Try.isAgg24 Try.sizeOf24 (q0 rfl)) rfl rfl ?_
        refine xV (e_mv (v := .slice _ _ _) (q0 rfl)) rfl rfl ?_
        refine xV (e_mv (v := .int _ _) (q0 rfl)) rfl rfl ?_
        refine xV (e_fld Try.underlying41 rfl Try.sizeOf3 rfl (q0 rfl)) rfl rfl ?_
        refine xV (eL Try.isAgg3 (q0 rfl)) rfl rfl ?_
        refine xC (en Try.call24 (ha4 (q0 rfl) (q0 rfl) (q0 rfl) (q0 rfl))) (fun _ w hw => at_w f a A3 _ c3 (xs ++ R) k now w (hf.mem hw) (slAt_row hw (j := 1) rfl (fun _ => rfl) (by omega)) (by omega) hplA) rfl rfl ?_
        refine xV (e_mv (q0 rfl)) rfl rfl ?_
        refine xV (e_ext (q0 rfl) rfl) rfl rfl ?_
        refine xV (e_ext (q0 rfl) rfl) rfl rfl ?_
        refine X_alloc Try.zeroValue55 rfl fun b17 => ?_
        refine X_st (v := .agg _) rfl rfl Try.sizeOf55 ?_
        refine xV (e_as (v := .int _ _) (q0 rfl)) rfl rfl ?_
        refine XN ?_
        refine thenJ_normal ?_
        refine H_seq ?_
        generalize atOf f xs k now = s at *
        generalize atOf f (xs ++ R) k now = s2 at *
        have hN0 : namedP k (R.take 0) = false := rfl
        refine R0 ?_
        refine xV (e_as (v := .bool _) (q0 rfl)) rfl rfl ?_
        refine XN ?_
        refine thenJ_normal ?_
        refine H_seq ?_
        refine H_seq ?_
        refine R0 ?_
        refine xV (e_as (v := .int _ _) (q0 rfl)) rfl rfl ?_
        refine XN ?_
        refine thenJ_normal ?_
        refine H_block ?_
        refine H_loop [19, 20, 83, 84, 85, 86, 87, 88, 89, 90, 91, 92, 93, 94, 95, 96, 97, 98] (fun j : Nat => [(20, .int .i64 j), (19, .bool (namedP k (R.take j)))]) (fun _ => [box b17 55 s2.cells, box b15 55 s.cells, evRow A3 c3 (xs ++ R), evRow r11 r12 R, evRow l11 l12 xs, box b9 41 (ordV now device seq), box b8 34 (paV si ri), box b5 24 (f.cells a)]) (fun j => j ≤ R.length) (fun j => R.length - j) 0 ⟨rfl, by rw [hN0]; rfl, trivial⟩ (fun w hw => hw) rfl (Nat.zero_le _) ?_
        rintro j g3 hj
        refine H_seq ?_
        refine H_seq ?_
        refine R0 ?_
        refine xV (e_mv (v := .int _ _) (q0 rfl)) rfl rfl ?_
        refine xV (e_mv (v := .slice _ _ _) (q0 rfl)) rfl rfl ?_
        refine xV (e_len Try.underlying25 (q0 rfl)) rfl rfl ?_
        refine xV (e_lt (q0 rfl) (q0 rfl)) rfl rfl ?_
        refine XN ?_
        refine thenJ_normal ?_
        refine H_cond rfl (fun hlt2 => ?_) (fun hlt2 => ?_)
        · have hlt2' : j < R.length := by simpa using hlt2
          obtain ⟨e, he⟩ : ∃ e, R[j]? = some e := ⟨_, List.getElem?_eq_getElem hlt2'⟩
          have hst := named_snoc k (R.take j) e
          rw [← take_snoc _ _ _ he] at hst
          refine H_know (fun w hw => rowT_at (j := 3) hw rfl (by omega)) fun ⟨rb, hrb⟩ => ?_
          subst hrb
          refine H_skip ?_
          refine thenJ_normal ?_
          refine H_seq ?_
          refine H_block ?_
          refine R0 ?_
          refine xV (e_mv (v := .bool _) (q0 rfl)) rfl rfl ?_
          refine xV (e_mv (v := .bool _) (q0 rfl)) rfl rfl ?_
          refine xVF (e_mv (v := .slice _ _ _) (q0 rfl)) rfl rfl rfl rfl ?_
          refine xVF (e_mv (v := .int _ _) (q0 rfl)) rfl rfl rfl rfl ?_
          refine xVF (e_idx _ Try.underlying25 Try.sizeOf49 (q1 rfl) (q1 rfl) (fun _ => ⟨rfl, by omega⟩)) rfl rfl rfl rfl ?_
          refine xVF (e_fld Try.underlying49 rfl Try.sizeOf3 rfl (q1 rfl)) rfl rfl rfl rfl ?_
          refine xVF (eL Try.isAgg3 (q1 rfl)) rfl rfl rfl rfl ?_
          refine xVF (e_mv (v := .int _ _) (q0 rfl)) rfl rfl rfl rfl ?_
          refine xVF (e_eq (q1 rfl) (q1 rfl)) rfl rfl rfl rfl ?_
          refine xV (e_or (q0 rfl) rfl (fun h => by first | rfl | (rw [h]; rfl))) rfl rfl ?_
          refine xV (e_as (v := .bool _) (q0 rfl)) rfl rfl ?_
          refine XN ?_
          refine blockJ_normal ?_
          refine thenJ_normal ?_
          refine R0 ?_
          refine xV (e_mv (v := .int _ _) (q0 rfl)) rfl rfl ?_
          refine xV (e_add (q0 rfl) (q0 rfl) (fun _ => ⟨rfl, by omega, by omega⟩)) rfl rfl ?_
          refine xV (e_as (v := .int _ _) (q0 rfl)) rfl rfl ?_
          refine XN ?_
          exact loopJ_normal (j + 1) (by repeat (first | exact agree_self | exact agree_over | refine agree_upd rfl ?_ | refine agree_updL rfl ?_ | refine agree_over2 rfl ?_)) ⟨rfl, by show _ = Value.bool (namedP k (R.take (j + 1))); rw [hst]; rfl, trivial⟩ (fun w hw => hw) rfl (by show j + 1 ≤ _; omega) (by show R.length - (j + 1) < R.length - j; omega)
        · have hend2 : j = R.length := by simp at hlt2; omega
          subst hend2
          rw [List.take_length]
          refine H_exit ?_
          refine thenJ_exit ?_
          refine loopJ_exit ?_
          refine blockJ_hit ?_
          refine thenJ_normal ?_
          refine H_seq ?_
          refine R0 ?_
          refine xV (e_mv (v := .int _ _) (q0 rfl)) rfl rfl ?_
          refine xV (e_ne (q0 rfl) (q0 rfl)) rfl rfl ?_
          refine xV (e_mv (v := .bool _) (q0 rfl)) rfl rfl ?_
          refine xVF (e_mv (v := .bool _) (q0 rfl)) rfl rfl rfl rfl ?_
          refine xVF (e_fld Try.underlying55 rfl Try.sizeOf3 rfl (q0 rfl)) rfl rfl rfl rfl ?_
          refine xVF (eL Try.isAgg3 (q1 rfl)) rfl rfl rfl rfl ?_
          refine xVF (e_eq (q1 rfl) (q0 rfl)) rfl rfl rfl rfl ?_
          refine xVF (e_mv (v := .bool _) (q1 rfl)) rfl rfl rfl rfl ?_
          refine xVT2 (e_fld Try.underlying55 rfl Try.sizeOf3 rfl (q0 rfl)) rfl rfl rfl rfl ?_
          refine xVT2 (eL Try.isAgg3 (q1 rfl)) rfl rfl rfl rfl ?_
          refine xVT2 (e_ne (q1 rfl) (q0 rfl)) rfl rfl rfl rfl ?_
          refine xVF (e_and (q1 rfl) rfl (fun h => by first | rfl | (rw [h]; rfl))) rfl rfl rfl rfl ?_
          refine xVF (e_neb Try.underlying4 (q1 rfl) (q1 rfl)) rfl rfl rfl rfl ?_
          refine xV (e_or (q0 rfl) rfl (fun h => by first | rfl | (rw [h]; rfl))) rfl rfl ?_
          refine xV (e_mv (v := .bool _) (q0 rfl)) rfl rfl ?_
          refine xVF (e_mv (v := .bool _) (q0 rfl)) rfl rfl rfl rfl ?_
          refine xVF (e_not (q1 rfl)) rfl rfl rfl rfl ?_
          refine xVF (e_mv (v := .bool _) (q1 rfl)) rfl rfl rfl rfl ?_
          refine xVT2 (eS Try.isAgg55 Try.sizeOf55 (q0 rfl)) rfl rfl rfl rfl ?_
          refine xVT2 (eS Try.isAgg55 Try.sizeOf55 (q0 rfl)) rfl rfl rfl rfl ?_
          refine xVT2 (e_neS (fun w => sameSp_w_eq s s2 w) (by kernel_rfl) (q1 rfl) (q1 rfl)) rfl rfl rfl rfl ?_
          refine xVF (e_and (q1 rfl) rfl (fun h => by first | rfl | (rw [h]; rfl))) rfl rfl rfl rfl ?_
          refine xV (e_or (q0 rfl) rfl (fun h => by first | rfl | (rw [h]; rfl))) rfl rfl ?_
          refine XN ?_
          refine thenJ_normal ?_
          refine H_cond rfl (fun hb => ?_) (fun hb => ?_)
          · exfalso
            rw [haek, hatk] at hb
            cases hN : namedP k R with
            | true =>
              have h6 := hlk hN
              rw [hN] at hb
              simp [h6] at hb
            | false =>
              rw [hN] at hb
              simp at hb
          · refine H_skip ?_
            refine blockJ_normal ?_
            refine thenJ_normal ?_
            refine R0 ?_
            refine xV (e_mv (v := .int _ _) (q0 rfl)) rfl rfl ?_
            refine xV (e_add (q0 rfl) (q0 rfl) (fun _ => ⟨rfl, by omega, by omega⟩)) rfl rfl ?_
            refine xV (e_as (v := .int _ _) (q0 rfl)) rfl rfl ?_
            refine XN ?_
            exact loopJ_normal (k + 1) (by repeat (first | exact agree_self | exact agree_over | refine agree_upd rfl ?_ | refine agree_updL rfl ?_ | refine agree_over2 rfl ?_)) ⟨rfl, trivial⟩ (fun w hw => hw.pick [2, 3, 4, 5, 6, 7] (by decide)) rfl (by show k + 1 ≤ _; omega) (by show nbOf f - (k + 1) < nbOf f - k; omega)
      · refine H_exit ?_
        refine thenJ_exit ?_
        refine loopJ_exit ?_
        refine blockJ_hit ?_
        refine thenJ_normal ?_
        refine H_seq ?_
        refine R0 ?_
        refine xV (eS Try.isAgg24 Try.sizeOf24 (q0 rfl)) rfl rfl ?_
        refine xV (e_mv (v := .slice _ _ _) (q0 rfl)) rfl rfl ?_
        refine xV (e_mv (v := .slice _ _ _) (q0 rfl)) rfl rfl ?_
        refine xV (eS Try.isAgg34 Try.sizeOf34 (q0 rfl)) rfl rfl ?_
        refine xV (e_fld Try.underlying41 rfl Try.sizeOf3 rfl (q0 rfl)) rfl rfl ?_
        refine xV (eL Try.isAgg3 (q0 rfl)) rfl rfl ?_
        refine xCX (en Try.call14 (fun _ => rfl)) (fun w hw => overdue_w f a A3 _ c3 (xs ++ R) sA sn sc signs si ri now w (hf.mem hw) (slAt_row hw (j := 0) rfl (fun _ => rfl) (by omega)) (hs.mem hw) (by omega) hplA) rfl (fun _ => rfl) fun z => ?_
        refine xV (e_mv (q0 rfl)) rfl rfl ?_
        refine xV (e_ext (q0 rfl) rfl) rfl rfl ?_
        refine xV (e_ext (q0 rfl) rfl) rfl rfl ?_
        refine xV (e_as (v := .slice _ _ _) (q0 rfl)) rfl rfl ?_
        refine xV (e_as (v := .int _ _) (q0 rfl)) rfl rfl ?_
        refine XN ?_
        refine thenJ_normal ?_
        refine H_seq ?_
        rw [hnone, e1]
        refine R0 ?_
        refine xV (e_mv (v := .int _ _) (q0 rfl)) rfl rfl ?_
        refine xV (e_eq (q0 rfl) (q0 rfl)) rfl rfl ?_
        refine xV (e_mv (v := .bool _) (q0 rfl)) rfl rfl ?_
        refine xVT (e_mv (v := .slice _ _ _) (q0 rfl)) rfl rfl rfl rfl ?_
        refine xVT (e_len Try.underlying22 (q1 rfl)) rfl rfl rfl rfl ?_
        refine xVT (e_eq (q1 rfl) (q0 rfl)) rfl rfl rfl rfl ?_
        refine xV (e_and (q0 rfl) rfl (fun h => by first | rfl | (rw [h]; rfl))) rfl rfl ?_
        refine xV (e_mv (v := .bool _) (q0 rfl)) rfl rfl ?_
        refine xCT (en Try.call11 (ha0)) (fun _ w _ => awake_w w) rfl rfl rfl rfl ?_
        refine xV (e_and (q0 rfl) rfl (fun h => by first | rfl | (rw [h]; rfl))) rfl rfl ?_
        refine xV (e_as (v := .bool _) (q0 rfl)) rfl rfl ?_
        refine XN ?_
        refine thenJ_normal ?_
        refine H_ret ?_
        exact ret1 (v := .bool _) rfl rfl rfl fun w' hw => ⟨ret_bool (by decide), hw.1⟩

/-! the arguments' readings -/
theorem cellsSg : Try.prog.cellsOf 51 = 2 := by kernel_rfl
section
variable {H : Type} {enc : TypeId × Value → H} {W : World} {sp : Nat → Bool} {held : Bool} {base : Nat} {v : Value} {d : DataW H} {ps : List MemPlace}
set_option maxRecDepth 100000 in
theorem cap_evs {A : Option Addr} {n c : Nat} (h : DataW.Trod enc Try.prog W 0 sp held 25 (.slice A n c) d ps) : n ≤ c := by
  obtain ⟨_, hf⟩ := h
  obtain ⟨A, n, c', xs, e, hs, hc, _⟩ := rd_rows Try.underlying25 cellsEv (by decide) hf
  simp [Value.cells] at e
  obtain ⟨rfl, rfl, rfl⟩ := e
  exact hc
set_option maxRecDepth 100000 in
theorem open_sgs (hv : Value.okWide Try.prog W .any base 26 v) (h : DataW.Trod enc Try.prog W 0 sp held 26 v d ps) : ∃ A n c xs, v = .slice A n c ∧ SgsAt W A n xs := by
  obtain ⟨a, l, c, rfl⟩ := okWide_slice Try.underlying26 hv
  obtain ⟨_, hf⟩ := h
  obtain ⟨A, n, c', xs, e, hs, _, _, hx⟩ := rd_rows Try.underlying26 cellsSg (by decide) hf
  obtain ⟨ys, hy, _⟩ := hs.recode (enc := Sg.cells) (Q := fun _ => True) fun x hx' => by
    obtain ⟨hl, f, y, ht⟩ := hx x hx'
    match x, hl with
    | [c0, c1], _ =>
      obtain ⟨_, _, h0⟩ := rd_field Try.underlying51 ht 0 rfl cellsInt
      obtain ⟨_, _, h1⟩ := rd_field Try.underlying51 ht 1 rfl cellsInt
      obtain ⟨m0, e0, _⟩ := rd_int Try.underlying3 h0
      obtain ⟨m1, e1, _⟩ := rd_int Try.underlying3 h1
      simp at e0 e1
      subst e0 e1
      exact ⟨⟨m0, m1⟩, rfl, trivial⟩
  simp [Value.cells] at e
  obtain ⟨rfl, rfl, rfl⟩ := e
  exact ⟨_, _, _, ys, rfl, hy⟩
theorem cellsPa : Try.prog.cellsOf 34 = 2 := by kernel_rfl
set_option maxRecDepth 100000 in
theorem open_pat (hv : Value.okWide Try.prog W .any base 34 v) (h : DataW.Trod enc Try.prog W 0 sp held 34 v d ps) : ∃ si ri, v = .agg (paV si ri).toArray := by
  obtain ⟨cs, rfl, hsz⟩ := okWide_struct Try.underlying34 hv
  rw [cellsPa] at hsz
  obtain ⟨l⟩ := cs
  match l, hsz with
  | [c0, c1], _ =>
    obtain ⟨_, hf⟩ := h
    obtain ⟨_, _, h0⟩ := rd_field Try.underlying34 hf 0 rfl cellsInt
    obtain ⟨_, _, h1⟩ := rd_field Try.underlying34 hf 1 rfl cellsInt
    obtain ⟨m0, e0, _⟩ := rd_int Try.underlying3 h0
    obtain ⟨m1, e1, _⟩ := rd_int Try.underlying3 h1
    simp [Value.cells] at e0 e1
    subst e0 e1
    exact ⟨m0, m1, rfl⟩
theorem cellsOrd : Try.prog.cellsOf 41 = 3 := by kernel_rfl
set_option maxRecDepth 100000 in
theorem open_ord (hv : Value.okWide Try.prog W .any base 41 v) (h : DataW.Trod enc Try.prog W 0 sp held 41 v d ps) : ∃ now device seq, v = .agg (ordV now device seq).toArray := by
  obtain ⟨cs, rfl, hsz⟩ := okWide_struct Try.underlying41 hv
  rw [cellsOrd] at hsz
  obtain ⟨l⟩ := cs
  match l, hsz with
  | [c0, c1, c2], _ =>
    obtain ⟨_, hf⟩ := h
    obtain ⟨_, _, h0⟩ := rd_field Try.underlying41 hf 0 rfl cellsInt
    obtain ⟨_, _, h1⟩ := rd_field Try.underlying41 hf 1 rfl cellsInt
    obtain ⟨_, _, h2⟩ := rd_field Try.underlying41 hf 2 rfl cellsInt
    obtain ⟨m0, e0, _⟩ := rd_int Try.underlying3 h0
    obtain ⟨m1, e1, _⟩ := rd_int Try.underlying3 h1
    obtain ⟨m2, e2, _⟩ := rd_int Try.underlying3 h2
    simp [Value.cells] at e0 e1 e2
    subst e0 e1 e2
    exact ⟨m0, m1, m2, rfl⟩
end

end Go.Proofs.Mis
