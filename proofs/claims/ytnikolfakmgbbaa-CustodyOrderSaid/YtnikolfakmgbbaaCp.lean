/-
  The walks: stays.
-/
import Derived.Test.YtnikolfakmgbbaaCo
import Derived.Test.YtnikolfakmgbbaaSs
namespace Go.Proofs.Cus
open Go Go.RowKit Go.Proofs.E

theorem fl57 {fs : Array Field} (h : Try.prog.underlying 57 = some (.struct fs) := by exact Try.underlying57) : FieldsLie Try.prog fs [(0, 1), (1, 1), (2, 1), (3, 1), (4, 2)] := by
  rw [Try.underlying57] at h
  cases h
  intro w
  kernel_rfl
theorem fl55 {fs : Array Field} (h : Try.prog.underlying 55 = some (.struct fs) := by exact Try.underlying55) : FieldsLie Try.prog fs [(0, 1), (1, 1)] := by
  rw [Try.underlying55] at h
  cases h
  intro w
  kernel_rfl
theorem fl63 {fs : Array Field} (h : Try.prog.underlying 63 = some (.struct fs) := by exact Try.underlying63) : FieldsLie Try.prog fs [(0, 1), (1, 1)] := by
  rw [Try.underlying63] at h
  cases h
  intro w
  kernel_rfl
def Sty.cells (x : Sty) : List Value := [.int .i64 x.bike, .int .i64 x.where_, .int .i64 x.place, .int .i64 x.ride, .int .i64 x.from_, .int .i64 x.to_]
abbrev styRow (A : Option Addr) (c : Nat) (xs : List Sty) : E.Item := rowT 57 6 Sty.cells A c xs
def endCI (b9 b10 : Nat) (now : Sty) (out : List Sty) (x : Option Addr × Nat) : List E.Item := [box b9 57 now.cells, box b10 46 [.slice x.1 out.length x.2], styRow x.1 x.2 out]

set_option maxRecDepth 20000 in
theorem end_w {b9 b10 : Nat} {now : Sty} {out : List Sty} {x : Option Addr × Nat} {w0 w : World} {L : List E.Item} (at_ : Int) (hw : Mem w0 (endCI b9 b10 now out x ++ L) w) (hmk : marks L = []) (hn : out.length ≤ 100000) :
    Calls Try.prog 46 #[.int .i64 at_, .pointer (some ⟨b9, 0, none⟩), .pointer (some ⟨b10, 0, none⟩)] w fun r w' => ∃ x' : Option Addr × Nat, r = .returned (.tuple #[]) ∧ Mem w0 (endCI b9 b10 (endS at_ (now, out)).1 (endS at_ (now, out)).2 x' ++ L) w' := by
  unfold endCI at hw ⊢
  refine H_enterM hw hmk Try.func46 rfl Try.ntmps46 rfl ?_
  refine H_seq ?_
  refine R0 ?_
  refine xV (e_mv (v := .int _ _) (q0 rfl)) rfl rfl ?_
  refine xV (e_fld Try.underlying57 rfl Try.sizeOf55 rfl (q0 rfl)) rfl rfl ?_
  refine xV (e_fld Try.underlying55 rfl Try.sizeOf3 rfl (q0 rfl)) rfl rfl ?_
  (first | refine X_store 0 (v := .int _ _) rfl rfl Try.sizeOf3 rfl rfl rfl rfl ?_ | refine X_store 1 (v := .int _ _) rfl rfl Try.sizeOf3 rfl rfl rfl rfl ?_ | refine X_store 2 (v := .int _ _) rfl rfl Try.sizeOf3 rfl rfl rfl rfl ?_ | refine X_store 3 (v := .int _ _) rfl rfl Try.sizeOf3 rfl rfl rfl rfl ?_ | refine X_store 4 (v := .int _ _) rfl rfl Try.sizeOf3 rfl rfl rfl rfl ?_ | refine X_store 5 (v := .int _ _) rfl rfl Try.sizeOf3 rfl rfl rfl rfl ?_ | refine X_store 6 (v := .int _ _) rfl rfl Try.sizeOf3 rfl rfl rfl rfl ?_ | refine X_store 7 (v := .int _ _) rfl rfl Try.sizeOf3 rfl rfl rfl rfl ?_ | refine X_store 8 (v := .int _ _) rfl rfl Try.sizeOf3 rfl rfl rfl rfl ?_)
  refine XN ?_
  refine thenJ_normal ?_
  refine H_seq ?_
  refine R0 ?_
  refine xV (e_ld Try.isAgg46 (q0 rfl) (by first | exact bx 0 rfl rfl | exact bx 1 rfl rfl | exact bx 2 rfl rfl | exact bx 3 rfl rfl | exact bx 4 rfl rfl | exact bx 5 rfl rfl | exact bx 6 rfl rfl | exact bx 7 rfl rfl | exact bx 8 rfl rfl | exact bx 9 rfl rfl | exact rc ‹_› ‹_› rfl | exact rc0 ‹_› ‹_› rfl | exact xc ‹_› ‹_› | exact rr 0 rfl ‹_› rfl | exact rr0 0 rfl ‹_› rfl | exact rr 1 rfl ‹_› rfl | exact rr0 1 rfl ‹_› rfl | exact rr 2 rfl ‹_› rfl | exact rr0 2 rfl ‹_› rfl | exact rr 3 rfl ‹_› rfl | exact rr0 3 rfl ‹_› rfl | exact rr 4 rfl ‹_› rfl | exact rr0 4 rfl ‹_› rfl | exact rr 5 rfl ‹_› rfl | exact rr0 5 rfl ‹_› rfl | exact rr 6 rfl ‹_› rfl | exact rr0 6 rfl ‹_› rfl | exact rr 7 rfl ‹_› rfl | exact rr0 7 rfl ‹_› rfl)) rfl rfl ?_
  refine xV (e_len Try.underlying46 (q0 rfl)) rfl rfl ?_
  refine xV (e_sub (q0 rfl) (q0 rfl) (fun _ => ⟨rfl, by omega, by omega⟩)) rfl rfl ?_
  refine xV (e_as (v := .int _ _) (q0 rfl)) rfl rfl ?_
  refine XN ?_
  refine thenJ_normal ?_
  refine H_block ?_
  refine H_seq ?_
  refine R0 ?_
  refine xV (e_fld Try.underlying57 rfl Try.sizeOf55 rfl (q0 rfl)) rfl rfl ?_
  refine xV (e_fld Try.underlying55 rfl Try.sizeOf3 rfl (q0 rfl)) rfl rfl ?_
  refine xV (e_ld Try.isAgg3 (q0 rfl) (by first | exact bx 0 rfl rfl | exact bx 1 rfl rfl | exact bx 2 rfl rfl | exact bx 3 rfl rfl | exact bx 4 rfl rfl | exact bx 5 rfl rfl | exact bx 6 rfl rfl | exact bx 7 rfl rfl | exact bx 8 rfl rfl | exact bx 9 rfl rfl | exact rc ‹_› ‹_› rfl | exact rc0 ‹_› ‹_› rfl | exact xc ‹_› ‹_› | exact rr 0 rfl ‹_› rfl | exact rr0 0 rfl ‹_› rfl | exact rr 1 rfl ‹_› rfl | exact rr0 1 rfl ‹_› rfl | exact rr 2 rfl ‹_› rfl | exact rr0 2 rfl ‹_› rfl | exact rr 3 rfl ‹_› rfl | exact rr0 3 rfl ‹_› rfl | exact rr 4 rfl ‹_› rfl | exact rr0 4 rfl ‹_› rfl | exact rr 5 rfl ‹_› rfl | exact rr0 5 rfl ‹_› rfl | exact rr 6 rfl ‹_› rfl | exact rr0 6 rfl ‹_› rfl | exact rr 7 rfl ‹_› rfl | exact rr0 7 rfl ‹_› rfl)) rfl rfl ?_
  refine xV (e_mv (v := .int _ _) (q0 rfl)) rfl rfl ?_
  refine xV (e_eq (q0 rfl) (q0 rfl)) rfl rfl ?_
  refine xV (e_as (v := .bool _) (q0 rfl)) rfl rfl ?_
  refine XN ?_
  refine thenJ_normal ?_
  refine H_cond rfl (fun h1 => ?_) (fun h1 => ?_)
  · have h1' : now.from_ = at_ := by simpa using h1
    refine H_skip ?_
    refine blockJ_normal ?_
    exact end0 rfl hmk fun w' hw => ⟨x, rfl, by unfold endS; simp only; rw [if_pos h1']; exact hw⟩
  · have h1' : ¬ now.from_ = at_ := by simpa using h1
    cases hl : out.getLast? with
    | none =>
      have hout : out = [] := by simpa using hl
      subst hout
      have hd : decide ((0 : Int) ≤ (([] : List Sty).length : Int) - 1) = false := by decide
      have hd2 : (decide ((0 : Int) ≤ (([] : List Sty).length : Int) - 1) && false) = false := by decide
      have hd3 : ((decide ((0 : Int) ≤ (([] : List Sty).length : Int) - 1) && false) && false) = false := by decide
      refine H_seq ?_
      refine R1 rfl (by decide +kernel) ?_
      refine xV (e_mv (v := .int _ _) (q0 rfl)) rfl rfl ?_
      refine xV (e_ge (q0 rfl) (q0 rfl)) rfl rfl ?_
      refine xV (e_mv (v := .bool _) (q0 rfl)) rfl rfl ?_
      refine xVT (e_dead (v := .slice none 0 0) (hd)) rfl rfl rfl rfl ?_
      refine xVT (e_dead (v := .int .i64 0) (hd)) rfl rfl rfl rfl ?_
      refine xVT (e_dead (v := .pointer none) (hd)) rfl rfl rfl rfl ?_
      refine xVT (e_dead (v := .pointer none) (hd)) rfl rfl rfl rfl ?_
      refine xVT (e_dead (v := .int .i64 0) (hd)) rfl rfl rfl rfl ?_
      refine xVT (e_dead (v := .pointer none) (hd)) rfl rfl rfl rfl ?_
      refine xVT (e_dead (v := .int .i64 0) (hd)) rfl rfl rfl rfl ?_
      refine xVT (e_dead (v := .bool false) (hd)) rfl rfl rfl rfl ?_
      refine xV (e_and (q0 rfl) rfl (fun h => by first | rfl | (rw [h]; rfl))) rfl rfl ?_
      refine xV (e_mv (v := .bool _) (q0 rfl)) rfl rfl ?_
      refine xVT (e_dead (v := .slice none 0 0) (hd2)) rfl rfl rfl rfl ?_
      refine xVT (e_dead (v := .int .i64 0) (hd2)) rfl rfl rfl rfl ?_
      refine xVT (e_dead (v := .pointer none) (hd2)) rfl rfl rfl rfl ?_
      refine xVT (e_dead (v := .pointer none) (hd2)) rfl rfl rfl rfl ?_
      refine xVT (e_dead (v := .int .i64 0) (hd2)) rfl rfl rfl rfl ?_
      refine xVT (e_dead (v := .pointer none) (hd2)) rfl rfl rfl rfl ?_
      refine xVT (e_dead (v := .int .i64 0) (hd2)) rfl rfl rfl rfl ?_
      refine xVT (e_dead (v := .bool false) (hd2)) rfl rfl rfl rfl ?_
      refine xV (e_and (q0 rfl) rfl (fun h => by first | rfl | (rw [h]; rfl))) rfl rfl ?_
      refine xV (e_mv (v := .bool _) (q0 rfl)) rfl rfl ?_
      refine xVT (e_dead (v := .slice none 0 0) (hd3)) rfl rfl rfl rfl ?_
      refine xVT (e_dead (v := .int .i64 0) (hd3)) rfl rfl rfl rfl ?_
      refine xVT (e_dead (v := .pointer none) (hd3)) rfl rfl rfl rfl ?_
      refine xVT (e_dead (v := .pointer none) (hd3)) rfl rfl rfl rfl ?_
      refine xVT (e_dead (v := .int .i64 0) (hd3)) rfl rfl rfl rfl ?_
      refine xVT (e_dead (v := .pointer none) (hd3)) rfl rfl rfl rfl ?_
      refine xVT (e_dead (v := .int .i64 0) (hd3)) rfl rfl rfl rfl ?_
      refine xVT (e_dead (v := .bool false) (hd3)) rfl rfl rfl rfl ?_
      refine xV (e_and (q0 rfl) rfl (fun h => by first | rfl | (rw [h]; rfl))) rfl rfl ?_
      refine xV (e_as (v := .bool _) (q0 rfl)) rfl rfl ?_
      refine XN ?_
      refine thenJ_normal ?_
      refine H_cond rfl (fun h2 => ?_) (fun h2 => ?_)
      · exact absurd h2 (by simp)
      · refine R0 ?_
        refine xV (e_ld Try.isAgg46 (q0 rfl) (by first | exact bx 0 rfl rfl | exact bx 1 rfl rfl | exact bx 2 rfl rfl | exact bx 3 rfl rfl | exact bx 4 rfl rfl | exact bx 5 rfl rfl | exact bx 6 rfl rfl | exact bx 7 rfl rfl | exact bx 8 rfl rfl | exact bx 9 rfl rfl | exact rc ‹_› ‹_› rfl | exact rc0 ‹_› ‹_› rfl | exact xc ‹_› ‹_› | exact rr 0 rfl ‹_› rfl | exact rr0 0 rfl ‹_› rfl | exact rr 1 rfl ‹_› rfl | exact rr0 1 rfl ‹_› rfl | exact rr 2 rfl ‹_› rfl | exact rr0 2 rfl ‹_› rfl | exact rr 3 rfl ‹_› rfl | exact rr0 3 rfl ‹_› rfl | exact rr 4 rfl ‹_› rfl | exact rr0 4 rfl ‹_› rfl | exact rr 5 rfl ‹_› rfl | exact rr0 5 rfl ‹_› rfl | exact rr 6 rfl ‹_› rfl | exact rr0 6 rfl ‹_› rfl | exact rr 7 rfl ‹_› rfl | exact rr0 7 rfl ‹_› rfl)) rfl rfl ?_
        refine xV (e_lds Try.isAgg57 Try.sizeOf57 (q0 rfl) (by first | exact bxs 0 rfl | exact bxs 1 rfl | exact bxs 2 rfl | exact bxs 3 rfl | exact bxs 4 rfl | exact bxs 5 rfl | exact bxs 6 rfl | exact bxs 7 rfl | exact bxs 8 rfl | exact bxs 9 rfl | exact rcs ‹_› ‹_› | exact rrs 0 rfl ‹_› | exact rrs 1 rfl ‹_› | exact rrs 2 rfl ‹_› | exact rrs 3 rfl ‹_› | exact rrs 4 rfl ‹_› | exact rrs 5 rfl ‹_› | exact rrs 6 rfl ‹_› | exact rrs 7 rfl ‹_›) rfl) rfl rfl ?_
        refine X_push (k := 6) (i := Try.t57) 2 ({ now with to_ := at_ }) Try.underlying46 (by kernel_rfl) rfl rfl rfl rfl Try.sizeOf57 Try.zeroValue57 rfl rfl rfl rfl rfl rfl ⟨by simp, by decide⟩ rfl rfl fun B A1 c1 => ?_
        (first | refine X_store 0 (v := .slice _ _ _) rfl rfl Try.sizeOf46 rfl rfl rfl rfl ?_ | refine X_store 1 (v := .slice _ _ _) rfl rfl Try.sizeOf46 rfl rfl rfl rfl ?_ | refine X_store 2 (v := .slice _ _ _) rfl rfl Try.sizeOf46 rfl rfl rfl rfl ?_ | refine X_store 3 (v := .slice _ _ _) rfl rfl Try.sizeOf46 rfl rfl rfl rfl ?_ | refine X_store 4 (v := .slice _ _ _) rfl rfl Try.sizeOf46 rfl rfl rfl rfl ?_ | refine X_store 5 (v := .slice _ _ _) rfl rfl Try.sizeOf46 rfl rfl rfl rfl ?_ | refine X_store 6 (v := .slice _ _ _) rfl rfl Try.sizeOf46 rfl rfl rfl rfl ?_ | refine X_store 7 (v := .slice _ _ _) rfl rfl Try.sizeOf46 rfl rfl rfl rfl ?_ | refine X_store 8 (v := .slice _ _ _) rfl rfl Try.sizeOf46 rfl rfl rfl rfl ?_)
        refine XN ?_
        refine blockJ_normal ?_
        exact end0 rfl hmk fun w' hw => ⟨(A1, c1), rfl, by unfold endS; simp only; rw [if_neg h1']; exact hw⟩
    | some y =>
      obtain ⟨hy, hset, hpos⟩ := last_set (z := { y with to_ := at_ }) hl
      obtain ⟨k, hk⟩ : ∃ k, k = out.length - 1 := ⟨_, rfl⟩
      rw [← hk] at hy hset
      have hki : (out.length : Int) - 1 = k := by omega
      have hge : decide ((0 : Int) ≤ (out.length : Int) - 1) = true := by simp; omega
      obtain ⟨b, hb⟩ := rowT_at (j := 2) hw rfl hpos
      obtain ⟨x1, x2⟩ := x
      simp only at hb
      subst hb
      refine H_seq ?_
      refine R1 rfl (by decide +kernel) ?_
      refine xV (e_mv (v := .int _ _) (q0 rfl)) rfl rfl ?_
      refine xV (e_ge (q0 rfl) (q0 rfl)) rfl rfl ?_
      refine xV (e_mv (v := .bool _) (q0 rfl)) rfl rfl ?_
      refine xVT (e_ld Try.isAgg46 (q0 rfl) (by first | exact bx 0 rfl rfl | exact bx 1 rfl rfl | exact bx 2 rfl rfl | exact bx 3 rfl rfl | exact bx 4 rfl rfl | exact bx 5 rfl rfl | exact bx 6 rfl rfl | exact bx 7 rfl rfl | exact bx 8 rfl rfl | exact bx 9 rfl rfl | exact rc ‹_› ‹_› rfl | exact rc0 ‹_› ‹_› rfl | exact xc ‹_› ‹_› | exact rr 0 rfl ‹_› rfl | exact rr0 0 rfl ‹_› rfl | exact rr 1 rfl ‹_› rfl | exact rr0 1 rfl ‹_› rfl | exact rr 2 rfl ‹_› rfl | exact rr0 2 rfl ‹_› rfl | exact rr 3 rfl ‹_› rfl | exact rr0 3 rfl ‹_› rfl | exact rr 4 rfl ‹_› rfl | exact rr0 4 rfl ‹_› rfl | exact rr 5 rfl ‹_› rfl | exact rr0 5 rfl ‹_› rfl | exact rr 6 rfl ‹_› rfl | exact rr0 6 rfl ‹_› rfl | exact rr 7 rfl ‹_› rfl | exact rr0 7 rfl ‹_› rfl)) rfl rfl rfl rfl ?_
      refine xVT (e_mv (v := .int _ _) (q0 rfl)) rfl rfl rfl rfl ?_
      refine xVT (e_idx k Try.underlying46 Try.sizeOf57 (q1 rfl) (q1 rfl) (fun _ => ⟨hki, by show k < out.length; omega⟩)) rfl rfl rfl rfl ?_
      refine xVT (e_fld Try.underlying57 rfl Try.sizeOf3 rfl (q1 rfl)) rfl rfl rfl rfl ?_
      refine xVT (e_ld Try.isAgg3 (q1 rfl) (by first | exact bx 0 rfl rfl | exact bx 1 rfl rfl | exact bx 2 rfl rfl | exact bx 3 rfl rfl | exact bx 4 rfl rfl | exact bx 5 rfl rfl | exact bx 6 rfl rfl | exact bx 7 rfl rfl | exact bx 8 rfl rfl | exact bx 9 rfl rfl | exact rc ‹_› ‹_› rfl | exact rc0 ‹_› ‹_› rfl | exact xc ‹_› ‹_› | exact rr 0 rfl ‹_› rfl | exact rr0 0 rfl ‹_› rfl | exact rr 1 rfl ‹_› rfl | exact rr0 1 rfl ‹_› rfl | exact rr 2 rfl ‹_› rfl | exact rr0 2 rfl ‹_› rfl | exact rr 3 rfl ‹_› rfl | exact rr0 3 rfl ‹_› rfl | exact rr 4 rfl ‹_› rfl | exact rr0 4 rfl ‹_› rfl | exact rr 5 rfl ‹_› rfl | exact rr0 5 rfl ‹_› rfl | exact rr 6 rfl ‹_› rfl | exact rr0 6 rfl ‹_› rfl | exact rr 7 rfl ‹_› rfl | exact rr0 7 rfl ‹_› rfl)) rfl rfl rfl rfl ?_
      refine xVT (e_fld Try.underlying57 rfl Try.sizeOf3 rfl (q0 rfl)) rfl rfl rfl rfl ?_
      refine xVT (e_ld Try.isAgg3 (q1 rfl) (by first | exact bx 0 rfl rfl | exact bx 1 rfl rfl | exact bx 2 rfl rfl | exact bx 3 rfl rfl | exact bx 4 rfl rfl | exact bx 5 rfl rfl | exact bx 6 rfl rfl | exact bx 7 rfl rfl | exact bx 8 rfl rfl | exact bx 9 rfl rfl | exact rc ‹_› ‹_› rfl | exact rc0 ‹_› ‹_› rfl | exact xc ‹_› ‹_› | exact rr 0 rfl ‹_› rfl | exact rr0 0 rfl ‹_› rfl | exact rr 1 rfl ‹_› rfl | exact rr0 1 rfl ‹_› rfl | exact rr 2 rfl ‹_› rfl | exact rr0 2 rfl ‹_› rfl | exact rr 3 rfl ‹_› rfl | exact rr0 3 rfl ‹_› rfl | exact rr 4 rfl ‹_› rfl | exact rr0 4 rfl ‹_› rfl | exact rr 5 rfl ‹_› rfl | exact rr0 5 rfl ‹_› rfl | exact rr 6 rfl ‹_› rfl | exact rr0 6 rfl ‹_› rfl | exact rr 7 rfl ‹_› rfl | exact rr0 7 rfl ‹_› rfl)) rfl rfl rfl rfl ?_
      refine xVT (e_eq (q1 rfl) (q1 rfl)) rfl rfl rfl rfl ?_
      refine xV (e_and (q0 rfl) rfl (fun h => by first | rfl | (rw [h]; rfl))) rfl rfl ?_
      refine xV (e_mv (v := .bool _) (q0 rfl)) rfl rfl ?_
      refine xVT (e_ld Try.isAgg46 (q0 rfl) (by first | exact bx 0 rfl rfl | exact bx 1 rfl rfl | exact bx 2 rfl rfl | exact bx 3 rfl rfl | exact bx 4 rfl rfl | exact bx 5 rfl rfl | exact bx 6 rfl rfl | exact bx 7 rfl rfl | exact bx 8 rfl rfl | exact bx 9 rfl rfl | exact rc ‹_› ‹_› rfl | exact rc0 ‹_› ‹_› rfl | exact xc ‹_› ‹_› | exact rr 0 rfl ‹_› rfl | exact rr0 0 rfl ‹_› rfl | exact rr 1 rfl ‹_› rfl | exact rr0 1 rfl ‹_› rfl | exact rr 2 rfl ‹_› rfl | exact rr0 2 rfl ‹_› rfl | exact rr 3 rfl ‹_› rfl | exact rr0 3 rfl ‹_› rfl | exact rr 4 rfl ‹_› rfl | exact rr0 4 rfl ‹_› rfl | exact rr 5 rfl ‹_› rfl | exact rr0 5 rfl ‹_› rfl | exact rr 6 rfl ‹_› rfl | exact rr0 6 rfl ‹_› rfl | exact rr 7 rfl ‹_› rfl | exact rr0 7 rfl ‹_› rfl)) rfl rfl rfl rfl ?_
      refine xVT (e_mv (v := .int _ _) (q0 rfl)) rfl rfl rfl rfl ?_
      refine xVT (e_idx k Try.underlying46 Try.sizeOf57 (q1 rfl) (q1 rfl) (fun _ => ⟨hki, by show k < out.length; omega⟩)) rfl rfl rfl rfl ?_
      refine xVT (e_fld Try.underlying57 rfl Try.sizeOf3 rfl (q1 rfl)) rfl rfl rfl rfl ?_
      refine xVT (e_ld Try.isAgg3 (q1 rfl) (by first | exact bx 0 rfl rfl | exact bx 1 rfl rfl | exact bx 2 rfl rfl | exact bx 3 rfl rfl | exact bx 4 rfl rfl | exact bx 5 rfl rfl | exact bx 6 rfl rfl | exact bx 7 rfl rfl | exact bx 8 rfl rfl | exact bx 9 rfl rfl | exact rc ‹_› ‹_› rfl | exact rc0 ‹_› ‹_› rfl | exact xc ‹_› ‹_› | exact rr 0 rfl ‹_› rfl | exact rr0 0 rfl ‹_› rfl | exact rr 1 rfl ‹_› rfl | exact rr0 1 rfl ‹_› rfl | exact rr 2 rfl ‹_› rfl | exact rr0 2 rfl ‹_› rfl | exact rr 3 rfl ‹_› rfl | exact rr0 3 rfl ‹_› rfl | exact rr 4 rfl ‹_› rfl | exact rr0 4 rfl ‹_› rfl | exact rr 5 rfl ‹_› rfl | exact rr0 5 rfl ‹_› rfl | exact rr 6 rfl ‹_› rfl | exact rr0 6 rfl ‹_› rfl | exact rr 7 rfl ‹_› rfl | exact rr0 7 rfl ‹_› rfl)) rfl rfl rfl rfl ?_
      refine xVT (e_fld Try.underlying57 rfl Try.sizeOf3 rfl (q0 rfl)) rfl rfl rfl rfl ?_
      refine xVT (e_ld Try.isAgg3 (q1 rfl) (by first | exact bx 0 rfl rfl | exact bx 1 rfl rfl | exact bx 2 rfl rfl | exact bx 3 rfl rfl | exact bx 4 rfl rfl | exact bx 5 rfl rfl | exact bx 6 rfl rfl | exact bx 7 rfl rfl | exact bx 8 rfl rfl | exact bx 9 rfl rfl | exact rc ‹_› ‹_› rfl | exact rc0 ‹_› ‹_› rfl | exact xc ‹_› ‹_› | exact rr 0 rfl ‹_› rfl | exact rr0 0 rfl ‹_› rfl | exact rr 1 rfl ‹_› rfl | exact rr0 1 rfl ‹_› rfl | exact rr 2 rfl ‹_› rfl | exact rr0 2 rfl ‹_› rfl | exact rr 3 rfl ‹_› rfl | exact rr0 3 rfl ‹_› rfl | exact rr 4 rfl ‹_› rfl | exact rr0 4 rfl ‹_› rfl | exact rr 5 rfl ‹_› rfl | exact rr0 5 rfl ‹_› rfl | exact rr 6 rfl ‹_› rfl | exact rr0 6 rfl ‹_› rfl | exact rr 7 rfl ‹_› rfl | exact rr0 7 rfl ‹_› rfl)) rfl rfl rfl rfl ?_
      refine xVT (e_eq (q1 rfl) (q1 rfl)) rfl rfl rfl rfl ?_
      refine xV (e_and (q0 rfl) rfl (fun h => by first | rfl | (rw [h]; rfl))) rfl rfl ?_
      refine xV (e_mv (v := .bool _) (q0 rfl)) rfl rfl ?_
      refine xVT (e_ld Try.isAgg46 (q0 rfl) (by first | exact bx 0 rfl rfl | exact bx 1 rfl rfl | exact bx 2 rfl rfl | exact bx 3 rfl rfl | exact bx 4 rfl rfl | exact bx 5 rfl rfl | exact bx 6 rfl rfl | exact bx 7 rfl rfl | exact bx 8 rfl rfl | exact bx 9 rfl rfl | exact rc ‹_› ‹_› rfl | exact rc0 ‹_› ‹_› rfl | exact xc ‹_› ‹_› | exact rr 0 rfl ‹_› rfl | exact rr0 0 rfl ‹_› rfl | exact rr 1 rfl ‹_› rfl | exact rr0 1 rfl ‹_› rfl | exact rr 2 rfl ‹_› rfl | exact rr0 2 rfl ‹_› rfl | exact rr 3 rfl ‹_› rfl | exact rr0 3 rfl ‹_› rfl | exact rr 4 rfl ‹_› rfl | exact rr0 4 rfl ‹_› rfl | exact rr 5 rfl ‹_› rfl | exact rr0 5 rfl ‹_› rfl | exact rr 6 rfl ‹_› rfl | exact rr0 6 rfl ‹_› rfl | exact rr 7 rfl ‹_› rfl | exact rr0 7 rfl ‹_› rfl)) rfl rfl rfl rfl ?_
      refine xVT (e_mv (v := .int _ _) (q0 rfl)) rfl rfl rfl rfl ?_
      refine xVT (e_idx k Try.underlying46 Try.sizeOf57 (q1 rfl) (q1 rfl) (fun _ => ⟨hki, by show k < out.length; omega⟩)) rfl rfl rfl rfl ?_
      refine xVT (e_fld Try.underlying57 rfl Try.sizeOf3 rfl (q1 rfl)) rfl rfl rfl rfl ?_
      refine xVT (e_ld Try.isAgg3 (q1 rfl) (by first | exact bx 0 rfl rfl | exact bx 1 rfl rfl | exact bx 2 rfl rfl | exact bx 3 rfl rfl | exact bx 4 rfl rfl | exact bx 5 rfl rfl | exact bx 6 rfl rfl | exact bx 7 rfl rfl | exact bx 8 rfl rfl | exact bx 9 rfl rfl | exact rc ‹_› ‹_› rfl | exact rc0 ‹_› ‹_› rfl | exact xc ‹_› ‹_› | exact rr 0 rfl ‹_› rfl | exact rr0 0 rfl ‹_› rfl | exact rr 1 rfl ‹_› rfl | exact rr0 1 rfl ‹_› rfl | exact rr 2 rfl ‹_› rfl | exact rr0 2 rfl ‹_› rfl | exact rr 3 rfl ‹_› rfl | exact rr0 3 rfl ‹_› rfl | exact rr 4 rfl ‹_› rfl | exact rr0 4 rfl ‹_› rfl | exact rr 5 rfl ‹_› rfl | exact rr0 5 rfl ‹_› rfl | exact rr 6 rfl ‹_› rfl | exact rr0 6 rfl ‹_› rfl | exact rr 7 rfl ‹_› rfl | exact rr0 7 rfl ‹_› rfl)) rfl rfl rfl rfl ?_
      refine xVT (e_fld Try.underlying57 rfl Try.sizeOf3 rfl (q0 rfl)) rfl rfl rfl rfl ?_
      refine xVT (e_ld Try.isAgg3 (q1 rfl) (by first | exact bx 0 rfl rfl | exact bx 1 rfl rfl | exact bx 2 rfl rfl | exact bx 3 rfl rfl | exact bx 4 rfl rfl | exact bx 5 rfl rfl | exact bx 6 rfl rfl | exact bx 7 rfl rfl | exact bx 8 rfl rfl | exact bx 9 rfl rfl | exact rc ‹_› ‹_› rfl | exact rc0 ‹_› ‹_› rfl | exact xc ‹_› ‹_› | exact rr 0 rfl ‹_› rfl | exact rr0 0 rfl ‹_› rfl | exact rr 1 rfl ‹_› rfl | exact rr0 1 rfl ‹_› rfl | exact rr 2 rfl ‹_› rfl | exact rr0 2 rfl ‹_› rfl | exact rr 3 rfl ‹_› rfl | exact rr0 3 rfl ‹_› rfl | exact rr 4 rfl ‹_› rfl | exact rr0 4 rfl ‹_› rfl | exact rr 5 rfl ‹_› rfl | exact rr0 5 rfl ‹_› rfl | exact rr 6 rfl ‹_› rfl | exact rr0 6 rfl ‹_› rfl | exact rr 7 rfl ‹_› rfl | exact rr0 7 rfl ‹_› rfl)) rfl rfl rfl rfl ?_
      refine xVT (e_eq (q1 rfl) (q1 rfl)) rfl rfl rfl rfl ?_
      refine xV (e_and (q0 rfl) rfl (fun h => by first | rfl | (rw [h]; rfl))) rfl rfl ?_
      refine xV (e_as (v := .bool _) (q0 rfl)) rfl rfl ?_
      refine XN ?_
      refine thenJ_normal ?_
      refine H_cond rfl (fun h2 => ?_) (fun h2 => ?_)
      · have h2' : samePl y now = true := by
          unfold samePl
          have h3 : (((decide ((0 : Int) ≤ (out.length : Int) - 1) && decide (y.where_ = now.where_)) && decide (y.place = now.place)) && decide (y.ride = now.ride)) = true := h2
          rw [hge, Bool.true_and] at h3
          exact h3
        refine R0 ?_
        refine xV (e_ld Try.isAgg46 (q0 rfl) (by first | exact bx 0 rfl rfl | exact bx 1 rfl rfl | exact bx 2 rfl rfl | exact bx 3 rfl rfl | exact bx 4 rfl rfl | exact bx 5 rfl rfl | exact bx 6 rfl rfl | exact bx 7 rfl rfl | exact bx 8 rfl rfl | exact bx 9 rfl rfl | exact rc ‹_› ‹_› rfl | exact rc0 ‹_› ‹_› rfl | exact xc ‹_› ‹_› | exact rr 0 rfl ‹_› rfl | exact rr0 0 rfl ‹_› rfl | exact rr 1 rfl ‹_› rfl | exact rr0 1 rfl ‹_› rfl | exact rr 2 rfl ‹_› rfl | exact rr0 2 rfl ‹_› rfl | exact rr 3 rfl ‹_› rfl | exact rr0 3 rfl ‹_› rfl | exact rr 4 rfl ‹_› rfl | exact rr0 4 rfl ‹_› rfl | exact rr 5 rfl ‹_› rfl | exact rr0 5 rfl ‹_› rfl | exact rr 6 rfl ‹_› rfl | exact rr0 6 rfl ‹_› rfl | exact rr 7 rfl ‹_› rfl | exact rr0 7 rfl ‹_› rfl)) rfl rfl ?_
        refine xV (e_mv (v := .int _ _) (q0 rfl)) rfl rfl ?_
        refine xV (e_mv (v := .int _ _) (q0 rfl)) rfl rfl ?_
        refine xV (e_idx k Try.underlying46 Try.sizeOf57 (q0 rfl) (q0 rfl) (fun _ => ⟨hki, by show k < out.length; omega⟩)) rfl rfl ?_
        refine xV (e_fld Try.underlying57 rfl Try.sizeOf55 rfl (q0 rfl)) rfl rfl ?_
        refine xV (e_fld Try.underlying55 rfl Try.sizeOf3 rfl (q0 rfl)) rfl rfl ?_
        refine X_eff (f_storeR 2 (off := 5) { y with to_ := at_ } rfl rfl Try.sizeOf3 rfl rfl rfl hy rfl rfl ?_)
        refine XN ?_
        refine blockJ_normal ?_
        exact end0 rfl hmk fun w' hw => ⟨(some ⟨b, 0, none⟩, x2), rfl, by unfold endS; simp only; rw [if_neg h1', hl]; simp only; rw [if_pos h2', ← hset]; simp only [List.length_set]; exact hw⟩
      · have h2' : ¬ samePl y now = true := by
          unfold samePl
          have h3 : (((decide ((0 : Int) ≤ (out.length : Int) - 1) && decide (y.where_ = now.where_)) && decide (y.place = now.place)) && decide (y.ride = now.ride)) = false := h2
          rw [hge, Bool.true_and] at h3
          rw [h3]; decide
        refine R0 ?_
        refine xV (e_ld Try.isAgg46 (q0 rfl) (by first | exact bx 0 rfl rfl | exact bx 1 rfl rfl | exact bx 2 rfl rfl | exact bx 3 rfl rfl | exact bx 4 rfl rfl | exact bx 5 rfl rfl | exact bx 6 rfl rfl | exact bx 7 rfl rfl | exact bx 8 rfl rfl | exact bx 9 rfl rfl | exact rc ‹_› ‹_› rfl | exact rc0 ‹_› ‹_› rfl | exact xc ‹_› ‹_› | exact rr 0 rfl ‹_› rfl | exact rr0 0 rfl ‹_› rfl | exact rr 1 rfl ‹_› rfl | exact rr0 1 rfl ‹_› rfl | exact rr 2 rfl ‹_› rfl | exact rr0 2 rfl ‹_› rfl | exact rr 3 rfl ‹_› rfl | exact rr0 3 rfl ‹_› rfl | exact rr 4 rfl ‹_› rfl | exact rr0 4 rfl ‹_› rfl | exact rr 5 rfl ‹_› rfl | exact rr0 5 rfl ‹_› rfl | exact rr 6 rfl ‹_› rfl | exact rr0 6 rfl ‹_› rfl | exact rr 7 rfl ‹_› rfl | exact rr0 7 rfl ‹_› rfl)) rfl rfl ?_
        refine xV (e_lds Try.isAgg57 Try.sizeOf57 (q0 rfl) (by first | exact bxs 0 rfl | exact bxs 1 rfl | exact bxs 2 rfl | exact bxs 3 rfl | exact bxs 4 rfl | exact bxs 5 rfl | exact bxs 6 rfl | exact bxs 7 rfl | exact bxs 8 rfl | exact bxs 9 rfl | exact rcs ‹_› ‹_› | exact rrs 0 rfl ‹_› | exact rrs 1 rfl ‹_› | exact rrs 2 rfl ‹_› | exact rrs 3 rfl ‹_› | exact rrs 4 rfl ‹_› | exact rrs 5 rfl ‹_› | exact rrs 6 rfl ‹_› | exact rrs 7 rfl ‹_›) rfl) rfl rfl ?_
        refine X_push (k := 6) (i := Try.t57) 2 ({ now with to_ := at_ }) Try.underlying46 (by kernel_rfl) rfl rfl rfl rfl Try.sizeOf57 Try.zeroValue57 rfl rfl rfl rfl rfl rfl ⟨by omega, by decide⟩ rfl rfl fun B A1 c1 => ?_
        (first | refine X_store 0 (v := .slice _ _ _) rfl rfl Try.sizeOf46 rfl rfl rfl rfl ?_ | refine X_store 1 (v := .slice _ _ _) rfl rfl Try.sizeOf46 rfl rfl rfl rfl ?_ | refine X_store 2 (v := .slice _ _ _) rfl rfl Try.sizeOf46 rfl rfl rfl rfl ?_ | refine X_store 3 (v := .slice _ _ _) rfl rfl Try.sizeOf46 rfl rfl rfl rfl ?_ | refine X_store 4 (v := .slice _ _ _) rfl rfl Try.sizeOf46 rfl rfl rfl rfl ?_ | refine X_store 5 (v := .slice _ _ _) rfl rfl Try.sizeOf46 rfl rfl rfl rfl ?_ | refine X_store 6 (v := .slice _ _ _) rfl rfl Try.sizeOf46 rfl rfl rfl rfl ?_ | refine X_store 7 (v := .slice _ _ _) rfl rfl Try.sizeOf46 rfl rfl rfl rfl ?_ | refine X_store 8 (v := .slice _ _ _) rfl rfl Try.sizeOf46 rfl rfl rfl rfl ?_)
        refine XN ?_
        refine blockJ_normal ?_
        exact end0 rfl hmk fun w' hw => ⟨(A1, c1), rfl, by unfold endS; simp only; rw [if_neg h1', hl]; simp only; rw [if_neg h2']; exact hw⟩

def stayCI (c9 c10 c5 c11 : Nat) (bike : Nat) (z : Sty × List Sty) (x : Option Addr × Nat) : List E.Item :=
  endCI c9 c10 z.1 z.2 x ++ [box c5 3 [.int .i64 bike], box c11 90 [.func (.func 46) #[] #[.pointer (some ⟨c9, 0, none⟩), .pointer (some ⟨c10, 0, none⟩)]]]
theorem endS_len (at_ : Int) (z : Sty × List Sty) : (endS at_ z).2.length ≤ z.2.length + 1 := by
  unfold endS
  simp only
  split
  · exact Nat.le_succ _
  · split
    · rename_i y hy
      split
      · have := (last_set (z := y) hy).2.2
        simp only [List.length_append, List.length_dropLast, List.length_cons, List.length_nil]; omega
      · simp
    · simp
theorem end_w2 {b9 b10 : Nat} {now : Sty} {out : List Sty} {x : Option Addr × Nat} {w0 w : World} {L : List E.Item} {p q : E.Item} (at_ : Int) (hw : Mem w0 (p :: q :: (endCI b9 b10 now out x ++ L)) w) (hp : p.due = []) (hq : q.due = []) (hmk : marks L = []) (hn : out.length ≤ 100000) :
    Calls Try.prog 46 #[.int .i64 at_, .pointer (some ⟨b9, 0, none⟩), .pointer (some ⟨b10, 0, none⟩)] w fun r w' => ∃ x' : Option Addr × Nat, r = .returned (.tuple #[]) ∧ Mem w0 (p :: q :: (endCI b9 b10 (endS at_ (now, out)).1 (endS at_ (now, out)).2 x' ++ L)) w' :=
  (end_w at_ (Mem.rot (X := [p, q]) hw) (by rw [marks_append, hmk, marks_cons, marks_cons, hp, hq]; rfl) hn).mono fun _ _ ⟨x', h1, h2⟩ => ⟨x', h1, Mem.rot (S := [p, q]) h2⟩
set_option maxRecDepth 20000 in
theorem stay_cb (f : Fl) (a : FA) (n c9 c10 c5 c11 bike : Nat) (hbk : bike < n) : CbOK f a n 47 [.pointer (some ⟨c5, 0, none⟩), .pointer (some ⟨c9, 0, none⟩), .pointer (some ⟨c11, 0, none⟩)] (stayCb bike) (stayCI c9 c10 c5 c11 bike) (fun k z => z.2.length ≤ k) where
  enter := Try.call47
  keep := fun k z s e er h => by
    unfold stayCb
    simp only
    split
    · have := endS_len e.at_ z
      simp only; omega
    · omega
  run := fun {w0 L s t z x k} e er hmk hsn hl hn1 hf hk hJ w hw => by
    obtain ⟨y, hy⟩ : ∃ y, t.spots[bike]? = some y := ⟨_, List.getElem?_eq_getElem (by omega)⟩
    have hyd : t.plain.spots.getD bike default = y := by rw [List.getD_eq_getElem?_getD]; show (t.spots[bike]?).getD default = y; rw [hy]; rfl
    obtain ⟨now, out⟩ := z
    obtain ⟨out', hout⟩ : ∃ o : List Sty, o = out := ⟨_, rfl⟩
    simp only at hJ
    have hcb : stayCb bike (now, out) t.plain e er = if er = 0 ∧ movedS y now = true then (⟨bike, y.where_, y.place, y.ride, e.at_, 0⟩, (endS e.at_ (now, out)).2) else (now, out) := by unfold stayCb; rw [hyd]
    rw [hcb]
    unfold stayCI at hw ⊢
    unfold endCI at hw ⊢
    subst hsn
    refine H_enterM hw hmk Try.func47 rfl Try.ntmps47 rfl ?_
    refine H_seq ?_
    refine R0 ?_
    refine X_box (v := .agg _) rfl rfl fun b7 => ?_
    refine XN ?_
    refine thenJ_normal ?_
    refine H_seq ?_
    refine RA rfl (by decide +kernel) ?_
    refine aV 0 (by decide +kernel) rfl (e_mv (v := .pointer _) (q0 rfl)) rfl ?_
    refine aV 1 (by decide +kernel) rfl (e_nilc (q0 rfl)) rfl ?_
    refine aV 2 (by decide +kernel) rfl (e_fld Try.underlying86 rfl Try.sizeOf37 rfl (q0 rfl)) rfl ?_
    refine aV 3 (by decide +kernel) rfl (e_ld Try.isAgg37 (q0 rfl) (by first | exact bx 0 rfl rfl | exact bx 1 rfl rfl | exact bx 2 rfl rfl | exact bx 3 rfl rfl | exact bx 4 rfl rfl | exact bx 5 rfl rfl | exact bx 6 rfl rfl | exact bx 7 rfl rfl | exact bx 8 rfl rfl | exact bx 9 rfl rfl | exact rc ‹_› ‹_› rfl | exact rc0 ‹_› ‹_› rfl | exact xc ‹_› ‹_› | exact rr 0 rfl ‹_› rfl | exact rr0 0 rfl ‹_› rfl | exact rr 1 rfl ‹_› rfl | exact rr0 1 rfl ‹_› rfl | exact rr 2 rfl ‹_› rfl | exact rr0 2 rfl ‹_› rfl | exact rr 3 rfl ‹_› rfl | exact rr0 3 rfl ‹_› rfl | exact rr 4 rfl ‹_› rfl | exact rr0 4 rfl ‹_› rfl | exact rr 5 rfl ‹_› rfl | exact rr0 5 rfl ‹_› rfl | exact rr 6 rfl ‹_› rfl | exact rr0 6 rfl ‹_› rfl | exact rr 7 rfl ‹_› rfl | exact rr0 7 rfl ‹_› rfl)) rfl ?_
    refine aV 4 (by decide +kernel) rfl (e_ld Try.isAgg3 (q0 rfl) (by first | exact bx 0 rfl rfl | exact bx 1 rfl rfl | exact bx 2 rfl rfl | exact bx 3 rfl rfl | exact bx 4 rfl rfl | exact bx 5 rfl rfl | exact bx 6 rfl rfl | exact bx 7 rfl rfl | exact bx 8 rfl rfl | exact bx 9 rfl rfl | exact rc ‹_› ‹_› rfl | exact rc0 ‹_› ‹_› rfl | exact xc ‹_› ‹_› | exact rr 0 rfl ‹_› rfl | exact rr0 0 rfl ‹_› rfl | exact rr 1 rfl ‹_› rfl | exact rr0 1 rfl ‹_› rfl | exact rr 2 rfl ‹_› rfl | exact rr0 2 rfl ‹_› rfl | exact rr 3 rfl ‹_› rfl | exact rr0 3 rfl ‹_› rfl | exact rr 4 rfl ‹_› rfl | exact rr0 4 rfl ‹_› rfl | exact rr 5 rfl ‹_› rfl | exact rr0 5 rfl ‹_› rfl | exact rr 6 rfl ‹_› rfl | exact rr0 6 rfl ‹_› rfl | exact rr 7 rfl ‹_› rfl | exact rr0 7 rfl ‹_› rfl)) rfl ?_
    refine aV 5 (by decide +kernel) rfl (e_idx _ Try.underlying37 Try.sizeOf41 (q0 rfl) (q0 rfl) (fun _ => ⟨rfl, by omega⟩)) rfl ?_
    refine aV 6 (by decide +kernel) rfl (e_lds Try.isAgg41 Try.sizeOf41 (q0 rfl) (rrs 7 rfl hy) rfl) rfl ?_
    refine rdy1 (i := 7) (by decide +kernel) (sub_drop 0) ?_
    refine aL rfl (f_alloc Try.zeroValue41 rfl fun b9 => ?_)
    refine rdy1 (i := 8) (by decide +kernel) (sub_drop 1) ?_
    (first | refine aL rfl (f_store 0 (v := .agg _) rfl rfl Try.sizeOf41 rfl rfl rfl rfl ?_) | refine aL rfl (f_store 1 (v := .agg _) rfl rfl Try.sizeOf41 rfl rfl rfl rfl ?_) | refine aL rfl (f_store 2 (v := .agg _) rfl rfl Try.sizeOf41 rfl rfl rfl rfl ?_) | refine aL rfl (f_store 3 (v := .agg _) rfl rfl Try.sizeOf41 rfl rfl rfl rfl ?_) | refine aL rfl (f_store 4 (v := .agg _) rfl rfl Try.sizeOf41 rfl rfl rfl rfl ?_) | refine aL rfl (f_store 5 (v := .agg _) rfl rfl Try.sizeOf41 rfl rfl rfl rfl ?_) | refine aL rfl (f_store 6 (v := .agg _) rfl rfl Try.sizeOf41 rfl rfl rfl rfl ?_) | refine aL rfl (f_store 7 (v := .agg _) rfl rfl Try.sizeOf41 rfl rfl rfl rfl ?_) | refine aL rfl (f_store 8 (v := .agg _) rfl rfl Try.sizeOf41 rfl rfl rfl rfl ?_))
    refine aZ (by decide +kernel) (sub_drop 1) ?_
    refine thenJ_normal ?_
    refine H_seq ?_
    refine R0 ?_
    refine xV (e_mv (v := .int _ _) (q0 rfl)) rfl rfl ?_
    refine xV (e_eq (q0 rfl) (q0 rfl)) rfl rfl ?_
    refine xV (e_mv (v := .bool _) (q0 rfl)) rfl rfl ?_
    refine xVT (e_fld Try.underlying41 rfl Try.sizeOf3 rfl (q0 rfl)) rfl rfl rfl rfl ?_
    refine xVT (e_ld Try.isAgg3 (q1 rfl) (by first | exact bx 0 rfl rfl | exact bx 1 rfl rfl | exact bx 2 rfl rfl | exact bx 3 rfl rfl | exact bx 4 rfl rfl | exact bx 5 rfl rfl | exact bx 6 rfl rfl | exact bx 7 rfl rfl | exact bx 8 rfl rfl | exact bx 9 rfl rfl | exact rc ‹_› ‹_› rfl | exact rc0 ‹_› ‹_› rfl | exact xc ‹_› ‹_› | exact rr 0 rfl ‹_› rfl | exact rr0 0 rfl ‹_› rfl | exact rr 1 rfl ‹_› rfl | exact rr0 1 rfl ‹_› rfl | exact rr 2 rfl ‹_› rfl | exact rr0 2 rfl ‹_› rfl | exact rr 3 rfl ‹_› rfl | exact rr0 3 rfl ‹_› rfl | exact rr 4 rfl ‹_› rfl | exact rr0 4 rfl ‹_› rfl | exact rr 5 rfl ‹_› rfl | exact rr0 5 rfl ‹_› rfl | exact rr 6 rfl ‹_› rfl | exact rr0 6 rfl ‹_› rfl | exact rr 7 rfl ‹_› rfl | exact rr0 7 rfl ‹_› rfl)) rfl rfl rfl rfl ?_
    refine xVT (e_fld Try.underlying57 rfl Try.sizeOf3 rfl (q0 rfl)) rfl rfl rfl rfl ?_
    refine xVT (e_ld Try.isAgg3 (q1 rfl) (by first | exact bx 0 rfl rfl | exact bx 1 rfl rfl | exact bx 2 rfl rfl | exact bx 3 rfl rfl | exact bx 4 rfl rfl | exact bx 5 rfl rfl | exact bx 6 rfl rfl | exact bx 7 rfl rfl | exact bx 8 rfl rfl | exact bx 9 rfl rfl | exact rc ‹_› ‹_› rfl | exact rc0 ‹_› ‹_› rfl | exact xc ‹_› ‹_› | exact rr 0 rfl ‹_› rfl | exact rr0 0 rfl ‹_› rfl | exact rr 1 rfl ‹_› rfl | exact rr0 1 rfl ‹_› rfl | exact rr 2 rfl ‹_› rfl | exact rr0 2 rfl ‹_› rfl | exact rr 3 rfl ‹_› rfl | exact rr0 3 rfl ‹_› rfl | exact rr 4 rfl ‹_› rfl | exact rr0 4 rfl ‹_› rfl | exact rr 5 rfl ‹_› rfl | exact rr0 5 rfl ‹_› rfl | exact rr 6 rfl ‹_› rfl | exact rr0 6 rfl ‹_› rfl | exact rr 7 rfl ‹_› rfl | exact rr0 7 rfl ‹_› rfl)) rfl rfl rfl rfl ?_
    refine xVT (e_ne (q1 rfl) (q1 rfl)) rfl rfl rfl rfl ?_
    refine xVT (e_mv (v := .bool _) (q1 rfl)) rfl rfl rfl rfl ?_
    refine xVF2 (e_fld Try.underlying41 rfl Try.sizeOf3 rfl (q0 rfl)) rfl rfl rfl rfl ?_
    refine xVF2 (e_ld Try.isAgg3 (q1 rfl) (by first | exact bx 0 rfl rfl | exact bx 1 rfl rfl | exact bx 2 rfl rfl | exact bx 3 rfl rfl | exact bx 4 rfl rfl | exact bx 5 rfl rfl | exact bx 6 rfl rfl | exact bx 7 rfl rfl | exact bx 8 rfl rfl | exact bx 9 rfl rfl | exact rc ‹_› ‹_› rfl | exact rc0 ‹_› ‹_› rfl | exact xc ‹_› ‹_› | exact rr 0 rfl ‹_› rfl | exact rr0 0 rfl ‹_› rfl | exact rr 1 rfl ‹_› rfl | exact rr0 1 rfl ‹_› rfl | exact rr 2 rfl ‹_› rfl | exact rr0 2 rfl ‹_› rfl | exact rr 3 rfl ‹_› rfl | exact rr0 3 rfl ‹_› rfl | exact rr 4 rfl ‹_› rfl | exact rr0 4 rfl ‹_› rfl | exact rr 5 rfl ‹_› rfl | exact rr0 5 rfl ‹_› rfl | exact rr 6 rfl ‹_› rfl | exact rr0 6 rfl ‹_› rfl | exact rr 7 rfl ‹_› rfl | exact rr0 7 rfl ‹_› rfl)) rfl rfl rfl rfl ?_
    refine xVF2 (e_fld Try.underlying57 rfl Try.sizeOf3 rfl (q0 rfl)) rfl rfl rfl rfl ?_
    refine xVF2 (e_ld Try.isAgg3 (q1 rfl) (by first | exact bx 0 rfl rfl | exact bx 1 rfl rfl | exact bx 2 rfl rfl | exact bx 3 rfl rfl | exact bx 4 rfl rfl | exact bx 5 rfl rfl | exact bx 6 rfl rfl | exact bx 7 rfl rfl | exact bx 8 rfl rfl | exact bx 9 rfl rfl | exact rc ‹_› ‹_› rfl | exact rc0 ‹_› ‹_› rfl | exact xc ‹_› ‹_› | exact rr 0 rfl ‹_› rfl | exact rr0 0 rfl ‹_› rfl | exact rr 1 rfl ‹_› rfl | exact rr0 1 rfl ‹_› rfl | exact rr 2 rfl ‹_› rfl | exact rr0 2 rfl ‹_› rfl | exact rr 3 rfl ‹_› rfl | exact rr0 3 rfl ‹_› rfl | exact rr 4 rfl ‹_› rfl | exact rr0 4 rfl ‹_› rfl | exact rr 5 rfl ‹_› rfl | exact rr0 5 rfl ‹_› rfl | exact rr 6 rfl ‹_› rfl | exact rr0 6 rfl ‹_› rfl | exact rr 7 rfl ‹_› rfl | exact rr0 7 rfl ‹_› rfl)) rfl rfl rfl rfl ?_
    refine xVF2 (e_ne (q1 rfl) (q1 rfl)) rfl rfl rfl rfl ?_
    refine xVT (e_or (q1 rfl) rfl (fun h => by first | rfl | (rw [h]; rfl))) rfl rfl rfl rfl ?_
    refine xVT (e_mv (v := .bool _) (q1 rfl)) rfl rfl rfl rfl ?_
    refine xVF2 (e_fld Try.underlying41 rfl Try.sizeOf3 rfl (q0 rfl)) rfl rfl rfl rfl ?_
    refine xVF2 (e_ld Try.isAgg3 (q1 rfl) (by first | exact bx 0 rfl rfl | exact bx 1 rfl rfl | exact bx 2 rfl rfl | exact bx 3 rfl rfl | exact bx 4 rfl rfl | exact bx 5 rfl rfl | exact bx 6 rfl rfl | exact bx 7 rfl rfl | exact bx 8 rfl rfl | exact bx 9 rfl rfl | exact rc ‹_› ‹_› rfl | exact rc0 ‹_› ‹_› rfl | exact xc ‹_› ‹_› | exact rr 0 rfl ‹_› rfl | exact rr0 0 rfl ‹_› rfl | exact rr 1 rfl ‹_› rfl | exact rr0 1 rfl ‹_› rfl | exact rr 2 rfl ‹_› rfl | exact rr0 2 rfl ‹_› rfl | exact rr 3 rfl ‹_› rfl | exact rr0 3 rfl ‹_› rfl | exact rr 4 rfl ‹_› rfl | exact rr0 4 rfl ‹_› rfl | exact rr 5 rfl ‹_› rfl | exact rr0 5 rfl ‹_› rfl | exact rr 6 rfl ‹_› rfl | exact rr0 6 rfl ‹_› rfl | exact rr 7 rfl ‹_› rfl | exact rr0 7 rfl ‹_› rfl)) rfl rfl rfl rfl ?_
    refine xVF2 (e_fld Try.underlying57 rfl Try.sizeOf3 rfl (q0 rfl)) rfl rfl rfl rfl ?_
    refine xVF2 (e_ld Try.isAgg3 (q1 rfl) (by first | exact bx 0 rfl rfl | exact bx 1 rfl rfl | exact bx 2 rfl rfl | exact bx 3 rfl rfl | exact bx 4 rfl rfl | exact bx 5 rfl rfl | exact bx 6 rfl rfl | exact bx 7 rfl rfl | exact bx 8 rfl rfl | exact bx 9 rfl rfl | exact rc ‹_› ‹_› rfl | exact rc0 ‹_› ‹_› rfl | exact xc ‹_› ‹_› | exact rr 0 rfl ‹_› rfl | exact rr0 0 rfl ‹_› rfl | exact rr 1 rfl ‹_› rfl | exact rr0 1 rfl ‹_› rfl | exact rr 2 rfl ‹_› rfl | exact rr0 2 rfl ‹_› rfl | exact rr 3 rfl ‹_› rfl | exact rr0 3 rfl ‹_› rfl | exact rr 4 rfl ‹_› rfl | exact rr0 4 rfl ‹_› rfl | exact rr 5 rfl ‹_› rfl | exact rr0 5 rfl ‹_› rfl | exact rr 6 rfl ‹_› rfl | exact rr0 6 rfl ‹_› rfl | exact rr 7 rfl ‹_› rfl | exact rr0 7 rfl ‹_› rfl)) rfl rfl rfl rfl ?_
    refine xVF2 (e_ne (q1 rfl) (q1 rfl)) rfl rfl rfl rfl ?_
    refine xVT (e_or (q1 rfl) rfl (fun h => by first | rfl | (rw [h]; rfl))) rfl rfl rfl rfl ?_
    refine xV (e_and (q0 rfl) rfl (fun h => by first | rfl | (rw [h]; rfl))) rfl rfl ?_
    refine XN ?_
    refine thenJ_normal ?_
    refine H_cond rfl (fun h => ?_) (fun h => ?_)
    · have h' : er = 0 ∧ movedS y now = true := by
        rw [Bool.and_eq_true, decide_eq_true_eq] at h
        exact h
      rw [if_pos h']
      refine H_seq ?_
      refine R0 ?_
      refine xV (e_ld Try.isAgg90 (q0 rfl) (by first | exact bx 0 rfl rfl | exact bx 1 rfl rfl | exact bx 2 rfl rfl | exact bx 3 rfl rfl | exact bx 4 rfl rfl | exact bx 5 rfl rfl | exact bx 6 rfl rfl | exact bx 7 rfl rfl | exact bx 8 rfl rfl | exact bx 9 rfl rfl | exact rc ‹_› ‹_› rfl | exact rc0 ‹_› ‹_› rfl | exact xc ‹_› ‹_› | exact rr 0 rfl ‹_› rfl | exact rr0 0 rfl ‹_› rfl | exact rr 1 rfl ‹_› rfl | exact rr0 1 rfl ‹_› rfl | exact rr 2 rfl ‹_› rfl | exact rr0 2 rfl ‹_› rfl | exact rr 3 rfl ‹_› rfl | exact rr0 3 rfl ‹_› rfl | exact rr 4 rfl ‹_› rfl | exact rr0 4 rfl ‹_› rfl | exact rr 5 rfl ‹_› rfl | exact rr0 5 rfl ‹_› rfl | exact rr 6 rfl ‹_› rfl | exact rr0 6 rfl ‹_› rfl | exact rr 7 rfl ‹_› rfl | exact rr0 7 rfl ‹_› rfl)) rfl rfl ?_
      refine xV (e_fld Try.underlying67 rfl Try.sizeOf3 rfl (q0 rfl)) rfl rfl ?_
      refine xV (e_ld Try.isAgg3 (q0 rfl) (by first | exact bx 0 rfl rfl | exact bx 1 rfl rfl | exact bx 2 rfl rfl | exact bx 3 rfl rfl | exact bx 4 rfl rfl | exact bx 5 rfl rfl | exact bx 6 rfl rfl | exact bx 7 rfl rfl | exact bx 8 rfl rfl | exact bx 9 rfl rfl | exact rc ‹_› ‹_› rfl | exact rc0 ‹_› ‹_› rfl | exact xc ‹_› ‹_› | exact rr 0 rfl ‹_› rfl | exact rr0 0 rfl ‹_› rfl | exact rr 1 rfl ‹_› rfl | exact rr0 1 rfl ‹_› rfl | exact rr 2 rfl ‹_› rfl | exact rr0 2 rfl ‹_› rfl | exact rr 3 rfl ‹_› rfl | exact rr0 3 rfl ‹_› rfl | exact rr 4 rfl ‹_› rfl | exact rr0 4 rfl ‹_› rfl | exact rr 5 rfl ‹_› rfl | exact rr0 5 rfl ‹_› rfl | exact rr 6 rfl ‹_› rfl | exact rr0 6 rfl ‹_› rfl | exact rr 7 rfl ‹_› rfl | exact rr0 7 rfl ‹_› rfl)) rfl rfl ?_
      refine X_eff (f_callM (enV Try.call46 (q0 rfl) (fun _ => rfl)) (fun w hw => end_w2 (now := now) (out := out) (x := x) (L := [box c5 3 [.int .i64 bike], box c11 90 [.func (.func 46) #[] #[.pointer (some ⟨c9, 0, none⟩), .pointer (some ⟨c10, 0, none⟩)]]] ++ (stL f a s t ++ L)) e.at_ hw rfl rfl hmk (by omega)) rfl (fun _ => rfl) fun x' => ?_)
      refine XN ?_
      refine thenJ_normal ?_
      refine R0 ?_
      refine xV (e_ld Try.isAgg3 (q0 rfl) (by first | exact bx 0 rfl rfl | exact bx 1 rfl rfl | exact bx 2 rfl rfl | exact bx 3 rfl rfl | exact bx 4 rfl rfl | exact bx 5 rfl rfl | exact bx 6 rfl rfl | exact bx 7 rfl rfl | exact bx 8 rfl rfl | exact bx 9 rfl rfl | exact rc ‹_› ‹_› rfl | exact rc0 ‹_› ‹_› rfl | exact xc ‹_› ‹_› | exact rr 0 rfl ‹_› rfl | exact rr0 0 rfl ‹_› rfl | exact rr 1 rfl ‹_› rfl | exact rr0 1 rfl ‹_› rfl | exact rr 2 rfl ‹_› rfl | exact rr0 2 rfl ‹_› rfl | exact rr 3 rfl ‹_› rfl | exact rr0 3 rfl ‹_› rfl | exact rr 4 rfl ‹_› rfl | exact rr0 4 rfl ‹_› rfl | exact rr 5 rfl ‹_› rfl | exact rr0 5 rfl ‹_› rfl | exact rr 6 rfl ‹_› rfl | exact rr0 6 rfl ‹_› rfl | exact rr 7 rfl ‹_› rfl | exact rr0 7 rfl ‹_› rfl)) rfl rfl ?_
      refine xV (e_fld Try.underlying41 rfl Try.sizeOf3 rfl (q0 rfl)) rfl rfl ?_
      refine xV (e_ld Try.isAgg3 (q0 rfl) (by first | exact bx 0 rfl rfl | exact bx 1 rfl rfl | exact bx 2 rfl rfl | exact bx 3 rfl rfl | exact bx 4 rfl rfl | exact bx 5 rfl rfl | exact bx 6 rfl rfl | exact bx 7 rfl rfl | exact bx 8 rfl rfl | exact bx 9 rfl rfl | exact rc ‹_› ‹_› rfl | exact rc0 ‹_› ‹_› rfl | exact xc ‹_› ‹_› | exact rr 0 rfl ‹_› rfl | exact rr0 0 rfl ‹_› rfl | exact rr 1 rfl ‹_› rfl | exact rr0 1 rfl ‹_› rfl | exact rr 2 rfl ‹_› rfl | exact rr0 2 rfl ‹_› rfl | exact rr 3 rfl ‹_› rfl | exact rr0 3 rfl ‹_› rfl | exact rr 4 rfl ‹_› rfl | exact rr0 4 rfl ‹_› rfl | exact rr 5 rfl ‹_› rfl | exact rr0 5 rfl ‹_› rfl | exact rr 6 rfl ‹_› rfl | exact rr0 6 rfl ‹_› rfl | exact rr 7 rfl ‹_› rfl | exact rr0 7 rfl ‹_› rfl)) rfl rfl ?_
      refine xV (e_fld Try.underlying41 rfl Try.sizeOf3 rfl (q0 rfl)) rfl rfl ?_
      refine xV (e_ld Try.isAgg3 (q0 rfl) (by first | exact bx 0 rfl rfl | exact bx 1 rfl rfl | exact bx 2 rfl rfl | exact bx 3 rfl rfl | exact bx 4 rfl rfl | exact bx 5 rfl rfl | exact bx 6 rfl rfl | exact bx 7 rfl rfl | exact bx 8 rfl rfl | exact bx 9 rfl rfl | exact rc ‹_› ‹_› rfl | exact rc0 ‹_› ‹_› rfl | exact xc ‹_› ‹_› | exact rr 0 rfl ‹_› rfl | exact rr0 0 rfl ‹_› rfl | exact rr 1 rfl ‹_› rfl | exact rr0 1 rfl ‹_› rfl | exact rr 2 rfl ‹_› rfl | exact rr0 2 rfl ‹_› rfl | exact rr 3 rfl ‹_› rfl | exact rr0 3 rfl ‹_› rfl | exact rr 4 rfl ‹_› rfl | exact rr0 4 rfl ‹_› rfl | exact rr 5 rfl ‹_› rfl | exact rr0 5 rfl ‹_› rfl | exact rr 6 rfl ‹_› rfl | exact rr0 6 rfl ‹_› rfl | exact rr 7 rfl ‹_› rfl | exact rr0 7 rfl ‹_› rfl)) rfl rfl ?_
      refine xV (e_fld Try.underlying41 rfl Try.sizeOf3 rfl (q0 rfl)) rfl rfl ?_
      refine xV (e_ld Try.isAgg3 (q0 rfl) (by first | exact bx 0 rfl rfl | exact bx 1 rfl rfl | exact bx 2 rfl rfl | exact bx 3 rfl rfl | exact bx 4 rfl rfl | exact bx 5 rfl rfl | exact bx 6 rfl rfl | exact bx 7 rfl rfl | exact bx 8 rfl rfl | exact bx 9 rfl rfl | exact rc ‹_› ‹_› rfl | exact rc0 ‹_› ‹_› rfl | exact xc ‹_› ‹_› | exact rr 0 rfl ‹_› rfl | exact rr0 0 rfl ‹_› rfl | exact rr 1 rfl ‹_› rfl | exact rr0 1 rfl ‹_› rfl | exact rr 2 rfl ‹_› rfl | exact rr0 2 rfl ‹_› rfl | exact rr 3 rfl ‹_› rfl | exact rr0 3 rfl ‹_› rfl | exact rr 4 rfl ‹_› rfl | exact rr0 4 rfl ‹_› rfl | exact rr 5 rfl ‹_› rfl | exact rr0 5 rfl ‹_› rfl | exact rr 6 rfl ‹_› rfl | exact rr0 6 rfl ‹_› rfl | exact rr 7 rfl ‹_› rfl | exact rr0 7 rfl ‹_› rfl)) rfl rfl ?_
      refine xV (e_fld Try.underlying67 rfl Try.sizeOf3 rfl (q0 rfl)) rfl rfl ?_
      refine xV (e_ld Try.isAgg3 (q0 rfl) (by first | exact bx 0 rfl rfl | exact bx 1 rfl rfl | exact bx 2 rfl rfl | exact bx 3 rfl rfl | exact bx 4 rfl rfl | exact bx 5 rfl rfl | exact bx 6 rfl rfl | exact bx 7 rfl rfl | exact bx 8 rfl rfl | exact bx 9 rfl rfl | exact rc ‹_› ‹_› rfl | exact rc0 ‹_› ‹_› rfl | exact xc ‹_› ‹_› | exact rr 0 rfl ‹_› rfl | exact rr0 0 rfl ‹_› rfl | exact rr 1 rfl ‹_› rfl | exact rr0 1 rfl ‹_› rfl | exact rr 2 rfl ‹_› rfl | exact rr0 2 rfl ‹_› rfl | exact rr 3 rfl ‹_› rfl | exact rr0 3 rfl ‹_› rfl | exact rr 4 rfl ‹_› rfl | exact rr0 4 rfl ‹_› rfl | exact rr 5 rfl ‹_› rfl | exact rr0 5 rfl ‹_› rfl | exact rr 6 rfl ‹_› rfl | exact rr0 6 rfl ‹_› rfl | exact rr 7 rfl ‹_› rfl | exact rr0 7 rfl ‹_› rfl)) rfl rfl ?_
      refine xV (e_build Try.underlying55 fl55 Try.zeroValue55 (pt (v := .int _ _) rfl E.p0) rfl) rfl rfl ?_
      refine xV (e_build Try.underlying57 fl57 Try.zeroValue57 (pt (v := .int _ _) rfl (pt (v := .int _ _) rfl (pt (v := .int _ _) rfl (pt (v := .int _ _) rfl (pt (v := .agg _) rfl E.p0))))) rfl) rfl rfl ?_
      (first | refine X_store 0 (v := .agg _) rfl rfl Try.sizeOf57 rfl rfl rfl rfl ?_ | refine X_store 1 (v := .agg _) rfl rfl Try.sizeOf57 rfl rfl rfl rfl ?_ | refine X_store 2 (v := .agg _) rfl rfl Try.sizeOf57 rfl rfl rfl rfl ?_ | refine X_store 3 (v := .agg _) rfl rfl Try.sizeOf57 rfl rfl rfl rfl ?_ | refine X_store 4 (v := .agg _) rfl rfl Try.sizeOf57 rfl rfl rfl rfl ?_ | refine X_store 5 (v := .agg _) rfl rfl Try.sizeOf57 rfl rfl rfl rfl ?_ | refine X_store 6 (v := .agg _) rfl rfl Try.sizeOf57 rfl rfl rfl rfl ?_ | refine X_store 7 (v := .agg _) rfl rfl Try.sizeOf57 rfl rfl rfl rfl ?_ | refine X_store 8 (v := .agg _) rfl rfl Try.sizeOf57 rfl rfl rfl rfl ?_)
      refine XN ?_
      exact end0 rfl hmk fun w' hw => ⟨x', rfl, hw.tail.tail⟩
    · have h' : ¬ (er = 0 ∧ movedS y now = true) := fun hh => by
        have : (decide (er = 0) && movedS y now) = false := h
        rw [hh.2, Bool.and_true, decide_eq_false_iff_not] at this
        exact this hh.1
      rw [if_neg h']
      refine H_skip ?_
      exact end0 rfl hmk fun w' hw => ⟨x, rfl, hw.tail.tail⟩

end Go.Proofs.Cus
