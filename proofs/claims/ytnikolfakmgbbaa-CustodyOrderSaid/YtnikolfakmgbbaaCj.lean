/-
  The walks: the state, made and turned.
-/
import Derived.Test.YtnikolfakmgbbaaCi
import Derived.Test.YtnikolfakmgbbaaEt
namespace Go.Proofs.Cus
open Go Go.RowKit Go.Proofs.E

def shopS : Sp := ⟨5, 0, 0, false⟩
def zeroS : Sp := ⟨0, 0, 0, false⟩
def beginT (n : Nat) : TS := ⟨List.replicate n shopS, [], []⟩
theorem rep_set (k n : Nat) (h : k < n) : (List.replicate k shopS ++ List.replicate (n - k) zeroS).set k shopS = List.replicate (k + 1) shopS ++ List.replicate (n - (k + 1)) zeroS := by
  rw [List.set_append_right _ _ (by simp), show n - k = (n - (k + 1)) + 1 by omega, List.replicate_succ, List.length_replicate, Nat.sub_self, List.set_cons_zero, List.replicate_succ', List.append_assoc]
  rfl
theorem rep_get (k n : Nat) (h : k < n) : (List.replicate k shopS ++ List.replicate (n - k) zeroS)[k]? = some zeroS := by
  rw [List.getElem?_append_right (by simp), List.length_replicate, Nat.sub_self, List.getElem?_replicate, if_pos (by omega)]

set_option maxRecDepth 20000 in
theorem begin_w (f : Fl) (a : FA) (n : Nat) (hn : f.bikes = n) (hn1 : n ≤ 1000) (w : World) : Calls Try.prog 68 #[.agg (f.cells a).toArray] w fun e w' => ∃ x : { x : SA // x.n = n }, e = .returned (.pointer (some ⟨x.1.sb, 0, none⟩)) ∧ Mem w (stL f a x.1 (beginT n)) w' := by
  refine H_enter Try.func68 rfl Try.ntmps68 rfl ?_
  refine H_seq ?_
  refine R0 ?_
  refine X_box (v := .agg _) rfl rfl fun b1 => ?_
  refine xV (e_as (v := .pointer _) (q0 rfl)) rfl rfl ?_
  refine XN ?_
  refine thenJ_normal ?_
  refine H_seq ?_
  refine H_cut [3, 5, 6, 7, 8, 9, 10, 11, 12] (fun x : SA => [(3, .pointer (some ⟨x.sb, 0, none⟩))]) (fun x => [box x.sb 86 (stCells f a x), spRow (some ⟨x.q, 0, none⟩) x.c (List.replicate n zeroS), pmap x.m 127 PT.cells [], imap x.u [], box b1 24 (f.cells a)]) (fun x => x.n = n) ?_ ?_
  · refine RA rfl (by decide +kernel) ?_
    refine aV 0 (by decide +kernel) rfl (e_lds Try.isAgg24 Try.sizeOf24 (q0 rfl) (by first | exact bxs 0 rfl | exact bxs 1 rfl | exact bxs 2 rfl | exact bxs 3 rfl | exact bxs 4 rfl | exact bxs 5 rfl | exact bxs 6 rfl | exact bxs 7 rfl | exact bxs 8 rfl | exact bxs 9 rfl | exact rcs ‹_› ‹_› | exact rrs 0 rfl ‹_› | exact rrs 1 rfl ‹_› | exact rrs 2 rfl ‹_› | exact rrs 3 rfl ‹_› | exact rrs 4 rfl ‹_› | exact rrs 5 rfl ‹_› | exact rrs 6 rfl ‹_› | exact rrs 7 rfl ‹_›) rfl) rfl ?_
    refine aV 1 (by decide +kernel) rfl (e_fld Try.underlying24 rfl Try.sizeOf3 rfl (q0 rfl)) rfl ?_
    refine aV 2 (by decide +kernel) rfl (e_ld Try.isAgg3 (q0 rfl) (by first | exact bx 0 rfl rfl | exact bx 1 rfl rfl | exact bx 2 rfl rfl | exact bx 3 rfl rfl | exact bx 4 rfl rfl | exact bx 5 rfl rfl | exact bx 6 rfl rfl | exact bx 7 rfl rfl | exact bx 8 rfl rfl | exact bx 9 rfl rfl | exact rc ‹_› ‹_› rfl | exact rc0 ‹_› ‹_› rfl | exact xc ‹_› ‹_› | exact rr 0 rfl ‹_› rfl | exact rr0 0 rfl ‹_› rfl | exact rr 1 rfl ‹_› rfl | exact rr0 1 rfl ‹_› rfl | exact rr 2 rfl ‹_› rfl | exact rr0 2 rfl ‹_› rfl | exact rr 3 rfl ‹_› rfl | exact rr0 3 rfl ‹_› rfl | exact rr 4 rfl ‹_› rfl | exact rr0 4 rfl ‹_› rfl | exact rr 5 rfl ‹_› rfl | exact rr0 5 rfl ‹_› rfl | exact rr 6 rfl ‹_› rfl | exact rr0 6 rfl ‹_› rfl | exact rr 7 rfl ‹_› rfl | exact rr0 7 rfl ‹_› rfl)) rfl ?_
    refine rdy3 (i := 3) (j := 4) (k := 5) (by decide +kernel) (sub_drop 0) ?_ ?_ ?_
    · refine aL rfl (f_make (i := Try.t41) (k := 4) (n := n) (m := n) Sp.cells zeroS Try.underlying37 (by kernel_rfl) rfl rfl rfl (by show Value.int .i64 f.bikes = _; rw [hn]) (by show Value.int .i64 f.bikes = _; rw [hn]) ⟨⟨Nat.le_refl _, by omega⟩, by decide⟩ rfl fun b8 => ?_)
      refine rdy2 (i := 4) (j := 5) (by decide +kernel) (sub_drop 1) ?_ ?_
      · refine aL rfl (f_makePmap 127 PT.cells rfl fun b9 => ?_)
        refine aI 1 ?_
        refine rdy1 (i := 5) (by decide +kernel) (sub_drop 2) ?_
        refine aL rfl (f_makeMap rfl fun b10 => ?_)
        refine aI 2 ?_
        refine aV 6 (by decide +kernel) rfl (e_build Try.underlying86 fl86 Try.zeroValue86 (pt (v := .agg _) rfl (pt (v := .slice _ _ _) rfl (pt (v := .map _) rfl (pt (v := .map _) rfl E.p0)))) rfl) rfl ?_
        refine rdy1 (i := 7) (by decide +kernel) (sub_drop 3) ?_
        refine aL rfl (f_box (v := .agg _) rfl rfl fun b12 => ?_)
        refine aI 3 ?_
        refine aRL (sub_drop 4) ?_
        refine aV 8 (by decide +kernel) rfl (e_as (v := .pointer _) (q0 rfl)) rfl ?_
        refine aZ (by decide +kernel) (sub_drop 0) ?_
        exact cutJ_normal (⟨b12, b8, n, n, b9, b10⟩ : SA) (by repeat (first | exact agree_self | exact agree_over | refine agree_upd rfl ?_ | refine agree_updL rfl ?_ | refine agree_over2 rfl ?_)) ⟨rfl, trivial⟩ (fun w hw => hw.pick [3, 0, 1, 2, 4] (by decide)) rfl rfl
      · refine aL rfl (f_makeMap rfl fun b10 => ?_)
        refine aI 1 ?_
        refine rdy1 (i := 4) (by decide +kernel) (sub_drop 2) ?_
        refine aL rfl (f_makePmap 127 PT.cells rfl fun b9 => ?_)
        refine aI 1 ?_
        refine aV 6 (by decide +kernel) rfl (e_build Try.underlying86 fl86 Try.zeroValue86 (pt (v := .agg _) rfl (pt (v := .slice _ _ _) rfl (pt (v := .map _) rfl (pt (v := .map _) rfl E.p0)))) rfl) rfl ?_
        refine rdy1 (i := 7) (by decide +kernel) (sub_drop 3) ?_
        refine aL rfl (f_box (v := .agg _) rfl rfl fun b12 => ?_)
        refine aI 3 ?_
        refine aRL (sub_drop 4) ?_
        refine aV 8 (by decide +kernel) rfl (e_as (v := .pointer _) (q0 rfl)) rfl ?_
        refine aZ (by decide +kernel) (sub_drop 0) ?_
        exact cutJ_normal (⟨b12, b8, n, n, b9, b10⟩ : SA) (by repeat (first | exact agree_self | exact agree_over | refine agree_upd rfl ?_ | refine agree_updL rfl ?_ | refine agree_over2 rfl ?_)) ⟨rfl, trivial⟩ (fun w hw => hw.pick [3, 0, 1, 2, 4] (by decide)) rfl rfl
    · refine aL rfl (f_makePmap 127 PT.cells rfl fun b9 => ?_)
      refine rdy2 (i := 3) (j := 5) (by decide +kernel) (sub_drop 1) ?_ ?_
      · refine aL rfl (f_make (i := Try.t41) (k := 4) (n := n) (m := n) Sp.cells zeroS Try.underlying37 (by kernel_rfl) rfl rfl rfl (by show Value.int .i64 f.bikes = _; rw [hn]) (by show Value.int .i64 f.bikes = _; rw [hn]) ⟨⟨Nat.le_refl _, by omega⟩, by decide⟩ rfl fun b8 => ?_)
        refine rdy1 (i := 5) (by decide +kernel) (sub_drop 2) ?_
        refine aL rfl (f_makeMap rfl fun b10 => ?_)
        refine aI 2 ?_
        refine aV 6 (by decide +kernel) rfl (e_build Try.underlying86 fl86 Try.zeroValue86 (pt (v := .agg _) rfl (pt (v := .slice _ _ _) rfl (pt (v := .map _) rfl (pt (v := .map _) rfl E.p0)))) rfl) rfl ?_
        refine rdy1 (i := 7) (by decide +kernel) (sub_drop 3) ?_
        refine aL rfl (f_box (v := .agg _) rfl rfl fun b12 => ?_)
        refine aI 3 ?_
        refine aRL (sub_drop 4) ?_
        refine aV 8 (by decide +kernel) rfl (e_as (v := .pointer _) (q0 rfl)) rfl ?_
        refine aZ (by decide +kernel) (sub_drop 0) ?_
        exact cutJ_normal (⟨b12, b8, n, n, b9, b10⟩ : SA) (by repeat (first | exact agree_self | exact agree_over | refine agree_upd rfl ?_ | refine agree_updL rfl ?_ | refine agree_over2 rfl ?_)) ⟨rfl, trivial⟩ (fun w hw => hw.pick [3, 0, 1, 2, 4] (by decide)) rfl rfl
      · refine aL rfl (f_makeMap rfl fun b10 => ?_)
        refine aI 1 ?_
        refine rdy1 (i := 3) (by decide +kernel) (sub_drop 2) ?_
        refine aL rfl (f_make (i := Try.t41) (k := 4) (n := n) (m := n) Sp.cells zeroS Try.underlying37 (by kernel_rfl) rfl rfl rfl (by show Value.int .i64 f.bikes = _; rw [hn]) (by show Value.int .i64 f.bikes = _; rw [hn]) ⟨⟨Nat.le_refl _, by omega⟩, by decide⟩ rfl fun b8 => ?_)
        refine aV 6 (by decide +kernel) rfl (e_build Try.underlying86 fl86 Try.zeroValue86 (pt (v := .agg _) rfl (pt (v := .slice _ _ _) rfl (pt (v := .map _) rfl (pt (v := .map _) rfl E.p0)))) rfl) rfl ?_
        refine rdy1 (i := 7) (by decide +kernel) (sub_drop 3) ?_
        refine aL rfl (f_box (v := .agg _) rfl rfl fun b12 => ?_)
        refine aI 3 ?_
        refine aRL (sub_drop 4) ?_
        refine aV 8 (by decide +kernel) rfl (e_as (v := .pointer _) (q0 rfl)) rfl ?_
        refine aZ (by decide +kernel) (sub_drop 0) ?_
        exact cutJ_normal (⟨b12, b8, n, n, b9, b10⟩ : SA) (by repeat (first | exact agree_self | exact agree_over | refine agree_upd rfl ?_ | refine agree_updL rfl ?_ | refine agree_over2 rfl ?_)) ⟨rfl, trivial⟩ (fun w hw => hw.pick [3, 0, 1, 2, 4] (by decide)) rfl rfl
    · refine aL rfl (f_makeMap rfl fun b10 => ?_)
      refine rdy2 (i := 3) (j := 4) (by decide +kernel) (sub_drop 1) ?_ ?_
      · refine aL rfl (f_make (i := Try.t41) (k := 4) (n := n) (m := n) Sp.cells zeroS Try.underlying37 (by kernel_rfl) rfl rfl rfl (by show Value.int .i64 f.bikes = _; rw [hn]) (by show Value.int .i64 f.bikes = _; rw [hn]) ⟨⟨Nat.le_refl _, by omega⟩, by decide⟩ rfl fun b8 => ?_)
        refine rdy1 (i := 4) (by decide +kernel) (sub_drop 2) ?_
        refine aL rfl (f_makePmap 127 PT.cells rfl fun b9 => ?_)
        refine aI 1 ?_
        refine aV 6 (by decide +kernel) rfl (e_build Try.underlying86 fl86 Try.zeroValue86 (pt (v := .agg _) rfl (pt (v := .slice _ _ _) rfl (pt (v := .map _) rfl (pt (v := .map _) rfl E.p0)))) rfl) rfl ?_
        refine rdy1 (i := 7) (by decide +kernel) (sub_drop 3) ?_
        refine aL rfl (f_box (v := .agg _) rfl rfl fun b12 => ?_)
        refine aI 3 ?_
        refine aRL (sub_drop 4) ?_
        refine aV 8 (by decide +kernel) rfl (e_as (v := .pointer _) (q0 rfl)) rfl ?_
        refine aZ (by decide +kernel) (sub_drop 0) ?_
        exact cutJ_normal (⟨b12, b8, n, n, b9, b10⟩ : SA) (by repeat (first | exact agree_self | exact agree_over | refine agree_upd rfl ?_ | refine agree_updL rfl ?_ | refine agree_over2 rfl ?_)) ⟨rfl, trivial⟩ (fun w hw => hw.pick [3, 0, 1, 2, 4] (by decide)) rfl rfl
      · refine aL rfl (f_makePmap 127 PT.cells rfl fun b9 => ?_)
        refine rdy1 (i := 3) (by decide +kernel) (sub_drop 2) ?_
        refine aL rfl (f_make (i := Try.t41) (k := 4) (n := n) (m := n) Sp.cells zeroS Try.underlying37 (by kernel_rfl) rfl rfl rfl (by show Value.int .i64 f.bikes = _; rw [hn]) (by show Value.int .i64 f.bikes = _; rw [hn]) ⟨⟨Nat.le_refl _, by omega⟩, by decide⟩ rfl fun b8 => ?_)
        refine aV 6 (by decide +kernel) rfl (e_build Try.underlying86 fl86 Try.zeroValue86 (pt (v := .agg _) rfl (pt (v := .slice _ _ _) rfl (pt (v := .map _) rfl (pt (v := .map _) rfl E.p0)))) rfl) rfl ?_
        refine rdy1 (i := 7) (by decide +kernel) (sub_drop 3) ?_
        refine aL rfl (f_box (v := .agg _) rfl rfl fun b12 => ?_)
        refine aI 3 ?_
        refine aRL (sub_drop 4) ?_
        refine aV 8 (by decide +kernel) rfl (e_as (v := .pointer _) (q0 rfl)) rfl ?_
        refine aZ (by decide +kernel) (sub_drop 0) ?_
        exact cutJ_normal (⟨b12, b8, n, n, b9, b10⟩ : SA) (by repeat (first | exact agree_self | exact agree_over | refine agree_upd rfl ?_ | refine agree_updL rfl ?_ | refine agree_over2 rfl ?_)) ⟨rfl, trivial⟩ (fun w hw => hw.pick [3, 0, 1, 2, 4] (by decide)) rfl rfl
  · intro x g hxn
    refine thenJ_normal ?_
    refine H_seq ?_
    refine H_seq ?_
    refine R0 ?_
    refine xV (e_mv (v := .pointer _) (q0 rfl)) rfl rfl ?_
    refine xV (e_nilc (q0 rfl)) rfl rfl ?_
    refine xV (e_fld Try.underlying86 rfl Try.sizeOf37 rfl (q0 rfl)) rfl rfl ?_
    refine xV (e_ld Try.isAgg37 (q0 rfl) (by first | exact bx 0 rfl rfl | exact bx 1 rfl rfl | exact bx 2 rfl rfl | exact bx 3 rfl rfl | exact bx 4 rfl rfl | exact bx 5 rfl rfl | exact bx 6 rfl rfl | exact bx 7 rfl rfl | exact bx 8 rfl rfl | exact bx 9 rfl rfl | exact rc ‹_› ‹_› rfl | exact rc0 ‹_› ‹_› rfl | exact xc ‹_› ‹_› | exact rr 0 rfl ‹_› rfl | exact rr0 0 rfl ‹_› rfl | exact rr 1 rfl ‹_› rfl | exact rr0 1 rfl ‹_› rfl | exact rr 2 rfl ‹_› rfl | exact rr0 2 rfl ‹_› rfl | exact rr 3 rfl ‹_› rfl | exact rr0 3 rfl ‹_› rfl | exact rr 4 rfl ‹_› rfl | exact rr0 4 rfl ‹_› rfl | exact rr 5 rfl ‹_› rfl | exact rr0 5 rfl ‹_› rfl | exact rr 6 rfl ‹_› rfl | exact rr0 6 rfl ‹_› rfl | exact rr 7 rfl ‹_› rfl | exact rr0 7 rfl ‹_› rfl)) rfl rfl ?_
    refine xV (e_len Try.underlying37 (q0 rfl)) rfl rfl ?_
    refine xV (e_mv (v := .int _ _) (q0 rfl)) rfl rfl ?_
    refine XN ?_
    refine thenJ_normal ?_
    refine H_block ?_
    refine H_loop [4, 18, 19, 20, 21, 22, 23, 24, 25, 26, 27, 28] (fun k : Nat => [(18, .int .i64 k)]) (fun k => [box x.sb 86 (stCells f a x), spRow (some ⟨x.q, 0, none⟩) x.c (List.replicate k shopS ++ List.replicate (n - k) zeroS), pmap x.m 127 PT.cells [], imap x.u [], box b1 24 (f.cells a)]) (fun k => k ≤ n) (fun k => n - k) 0 ⟨rfl, trivial⟩ (fun _ h => by simpa using h) rfl (Nat.zero_le _) ?_
    rintro k g2 hk
    refine H_seq ?_
    refine R0 ?_
    refine xV (e_lt (q0 rfl) (q0 rfl)) rfl rfl ?_
    refine XN ?_
    refine thenJ_normal ?_
    refine H_seq ?_
    refine H_cond rfl (fun hlt => ?_) (fun hlt => ?_)
    · have hlt' : k < n := by simp at hlt; omega
      have hget := rep_get k n hlt'
      refine H_skip ?_
      refine thenJ_normal ?_
      refine H_seq ?_
      refine H_block ?_
      refine H_seq ?_
      refine R0 ?_
      refine xV (e_mv (v := .int _ _) (q0 rfl)) rfl rfl ?_
      refine xV (e_as (v := .int _ _) (q0 rfl)) rfl rfl ?_
      refine XN ?_
      refine thenJ_normal ?_
      refine R0 ?_
      refine xV (e_mv (v := .pointer _) (q0 rfl)) rfl rfl ?_
      refine xV (e_nilc (q0 rfl)) rfl rfl ?_
      refine xV (e_fld Try.underlying86 rfl Try.sizeOf37 rfl (q0 rfl)) rfl rfl ?_
      refine xV (e_ld Try.isAgg37 (q0 rfl) (by first | exact bx 0 rfl rfl | exact bx 1 rfl rfl | exact bx 2 rfl rfl | exact bx 3 rfl rfl | exact bx 4 rfl rfl | exact bx 5 rfl rfl | exact bx 6 rfl rfl | exact bx 7 rfl rfl | exact bx 8 rfl rfl | exact bx 9 rfl rfl | exact rc ‹_› ‹_› rfl | exact rc0 ‹_› ‹_› rfl | exact xc ‹_› ‹_› | exact rr 0 rfl ‹_› rfl | exact rr0 0 rfl ‹_› rfl | exact rr 1 rfl ‹_› rfl | exact rr0 1 rfl ‹_› rfl | exact rr 2 rfl ‹_› rfl | exact rr0 2 rfl ‹_› rfl | exact rr 3 rfl ‹_› rfl | exact rr0 3 rfl ‹_› rfl | exact rr 4 rfl ‹_› rfl | exact rr0 4 rfl ‹_› rfl | exact rr 5 rfl ‹_› rfl | exact rr0 5 rfl ‹_› rfl | exact rr 6 rfl ‹_› rfl | exact rr0 6 rfl ‹_› rfl | exact rr 7 rfl ‹_› rfl | exact rr0 7 rfl ‹_› rfl)) rfl rfl ?_
      refine xV (e_mv (v := .int _ _) (q0 rfl)) rfl rfl ?_
      refine xV (e_idx _ Try.underlying37 Try.sizeOf41 (q0 rfl) (q0 rfl) (fun _ => ⟨rfl, by omega⟩)) rfl rfl ?_
      refine xV (e_fld Try.underlying41 rfl Try.sizeOf3 rfl (q0 rfl)) rfl rfl ?_
      refine X_eff (f_storeR 1 (off := 0) shopS rfl rfl Try.sizeOf3 rfl rfl rfl hget rfl rfl ?_)
      refine XN ?_
      refine blockJ_normal ?_
      refine thenJ_normal ?_
      refine R0 ?_
      refine xV (e_add (q0 rfl) (q0 rfl) (fun _ => ⟨rfl, by omega, by omega⟩)) rfl rfl ?_
      refine xV (e_mv (v := .int _ _) (q0 rfl)) rfl rfl ?_
      refine XN ?_
      exact loopJ_normal (k + 1) (by repeat (first | exact agree_self | exact agree_over | refine agree_upd rfl ?_ | refine agree_updL rfl ?_ | refine agree_over2 rfl ?_)) ⟨rfl, trivial⟩ (fun w hw => by show Mem _ [_, spRow _ _ (List.replicate (k + 1) shopS ++ List.replicate (n - (k + 1)) zeroS), _, _, _] w; rw [← rep_set k n hlt']; exact hw) rfl (by show k + 1 ≤ n; omega) (by show n - (k + 1) < n - k; omega)
    · have hkn : k = n := by simp at hlt; omega
      subst hkn
      refine H_exit ?_
      refine thenJ_exit ?_
      refine loopJ_exit ?_
      refine blockJ_hit ?_
      refine thenJ_normal ?_
      refine H_seq ?_
      refine R0 ?_
      refine xV (e_mv (v := .pointer _) (q0 rfl)) rfl rfl ?_
      refine xV (e_as (v := .pointer _) (q0 rfl)) rfl rfl ?_
      refine XN ?_
      refine thenJ_normal ?_
      refine H_ret ?_
      exact ret1 (v := .pointer _) rfl rfl rfl fun w' hw => ⟨⟨x, hxn⟩, rfl, by have := hw.pick [0, 1, 2, 3] (by decide); simp only [Nat.sub_self, List.replicate_zero, List.append_nil] at this; exact this⟩

def leaveT (t : TS) (k : Nat) (to : Sp) : TS :=
  { t with ps := if (t.spots.getD k default).where_ = 3 then t.ps.eraseP (fun p => p.1 == (t.spots.getD k default).ride) else t.ps, spots := t.spots.set k to }
theorem leave_w {f : Fl} {a : FA} {s : SA} {t : TS} {w0 w : World} {L : List E.Item} (hw : Mem w0 (stL f a s t ++ L) w) (hmk : marks L = []) (hl : t.spots.length = s.n) (k : Nat) (hk : k < s.n) (to : Sp) :
    Calls Try.prog 86 #[.pointer (some ⟨s.sb, 0, none⟩), .int .i64 k, .agg to.cells.toArray] w fun e w' => ∃ _ : Unit, e = .returned (.tuple #[]) ∧ Mem w0 (stL f a s (leaveT t k to) ++ L) w' := by
  obtain ⟨x, hx⟩ : ∃ x, t.spots[k]? = some x := ⟨_, List.getElem?_eq_getElem (by omega)⟩
  have hg : t.spots.getD k default = x := by rw [List.getD_eq_getElem?_getD, hx]; rfl
  have hlv : leaveT t k to = ⟨t.spots.set k to, if x.where_ = 3 then t.ps.eraseP (fun p => p.1 == x.ride) else t.ps, t.used⟩ := by unfold leaveT; rw [hg]
  rw [hlv]
  refine H_enterM hw hmk Try.func86 rfl Try.ntmps86 rfl ?_
  refine H_seq ?_
  refine R0 ?_
  refine X_box (v := .agg _) rfl rfl fun b5 => ?_
  refine XN ?_
  refine thenJ_normal ?_
  refine H_seq ?_
  refine H_seq ?_
  refine R0 ?_
  refine xV (e_mv (v := .pointer _) (q0 rfl)) rfl rfl ?_
  refine xV (e_nilc (q0 rfl)) rfl rfl ?_
  refine xV (e_fld Try.underlying86 rfl Try.sizeOf37 rfl (q0 rfl)) rfl rfl ?_
  refine xV (e_ld Try.isAgg37 (q0 rfl) (by first | exact bx 0 rfl rfl | exact bx 1 rfl rfl | exact bx 2 rfl rfl | exact bx 3 rfl rfl | exact bx 4 rfl rfl | exact bx 5 rfl rfl | exact bx 6 rfl rfl | exact bx 7 rfl rfl | exact bx 8 rfl rfl | exact bx 9 rfl rfl | exact rc ‹_› ‹_› rfl | exact rc0 ‹_› ‹_› rfl | exact xc ‹_› ‹_› | exact rr 0 rfl ‹_› rfl | exact rr0 0 rfl ‹_› rfl | exact rr 1 rfl ‹_› rfl | exact rr0 1 rfl ‹_› rfl | exact rr 2 rfl ‹_› rfl | exact rr0 2 rfl ‹_› rfl | exact rr 3 rfl ‹_› rfl | exact rr0 3 rfl ‹_› rfl | exact rr 4 rfl ‹_› rfl | exact rr0 4 rfl ‹_› rfl | exact rr 5 rfl ‹_› rfl | exact rr0 5 rfl ‹_› rfl | exact rr 6 rfl ‹_› rfl | exact rr0 6 rfl ‹_› rfl | exact rr 7 rfl ‹_› rfl | exact rr0 7 rfl ‹_› rfl)) rfl rfl ?_
  refine xV (e_mv (v := .int _ _) (q0 rfl)) rfl rfl ?_
  refine xV (e_idx _ Try.underlying37 Try.sizeOf41 (q0 rfl) (q0 rfl) (fun _ => ⟨rfl, by omega⟩)) rfl rfl ?_
  refine xV (e_lds Try.isAgg41 Try.sizeOf41 (q0 rfl) (by first | exact bxs 0 rfl | exact bxs 1 rfl | exact bxs 2 rfl | exact bxs 3 rfl | exact bxs 4 rfl | exact bxs 5 rfl | exact bxs 6 rfl | exact bxs 7 rfl | exact bxs 8 rfl | exact bxs 9 rfl | exact rcs ‹_› ‹_› | exact rrs 0 rfl ‹_› | exact rrs 1 rfl ‹_› | exact rrs 2 rfl ‹_› | exact rrs 3 rfl ‹_› | exact rrs 4 rfl ‹_› | exact rrs 5 rfl ‹_› | exact rrs 6 rfl ‹_› | exact rrs 7 rfl ‹_›) rfl) rfl rfl ?_
  refine X_alloc Try.zeroValue41 rfl fun b6 => ?_
  (first | refine X_store 0 (v := .agg _) rfl rfl Try.sizeOf41 rfl rfl rfl rfl ?_ | refine X_store 1 (v := .agg _) rfl rfl Try.sizeOf41 rfl rfl rfl rfl ?_ | refine X_store 2 (v := .agg _) rfl rfl Try.sizeOf41 rfl rfl rfl rfl ?_ | refine X_store 3 (v := .agg _) rfl rfl Try.sizeOf41 rfl rfl rfl rfl ?_ | refine X_store 4 (v := .agg _) rfl rfl Try.sizeOf41 rfl rfl rfl rfl ?_ | refine X_store 5 (v := .agg _) rfl rfl Try.sizeOf41 rfl rfl rfl rfl ?_ | refine X_store 6 (v := .agg _) rfl rfl Try.sizeOf41 rfl rfl rfl rfl ?_ | refine X_store 7 (v := .agg _) rfl rfl Try.sizeOf41 rfl rfl rfl rfl ?_ | refine X_store 8 (v := .agg _) rfl rfl Try.sizeOf41 rfl rfl rfl rfl ?_)
  refine XN ?_
  refine thenJ_normal ?_
  refine H_seq ?_
  refine R0 ?_
  refine xV (e_fld Try.underlying41 rfl Try.sizeOf3 rfl (q0 rfl)) rfl rfl ?_
  refine xV (e_ld Try.isAgg3 (q0 rfl) (by first | exact bx 0 rfl rfl | exact bx 1 rfl rfl | exact bx 2 rfl rfl | exact bx 3 rfl rfl | exact bx 4 rfl rfl | exact bx 5 rfl rfl | exact bx 6 rfl rfl | exact bx 7 rfl rfl | exact bx 8 rfl rfl | exact bx 9 rfl rfl | exact rc ‹_› ‹_› rfl | exact rc0 ‹_› ‹_› rfl | exact xc ‹_› ‹_› | exact rr 0 rfl ‹_› rfl | exact rr0 0 rfl ‹_› rfl | exact rr 1 rfl ‹_› rfl | exact rr0 1 rfl ‹_› rfl | exact rr 2 rfl ‹_› rfl | exact rr0 2 rfl ‹_› rfl | exact rr 3 rfl ‹_› rfl | exact rr0 3 rfl ‹_› rfl | exact rr 4 rfl ‹_› rfl | exact rr0 4 rfl ‹_› rfl | exact rr 5 rfl ‹_› rfl | exact rr0 5 rfl ‹_› rfl | exact rr 6 rfl ‹_› rfl | exact rr0 6 rfl ‹_› rfl | exact rr 7 rfl ‹_› rfl | exact rr0 7 rfl ‹_› rfl)) rfl rfl ?_
  refine xV (e_eq (q0 rfl) (q0 rfl)) rfl rfl ?_
  refine XN ?_
  refine thenJ_normal ?_
  refine H_cond rfl (fun h3 => ?_) (fun h3 => ?_)
  · have hx3 : x.where_ = 3 := by simpa using h3
    rw [if_pos hx3]
    refine H_mem (fun w hw => hw.fr4) rfl ?_
    refine RAd 1 rfl (by decide +kernel) ?_
    refine aV 0 (by decide +kernel) rfl (e_mv (v := .pointer _) (q0 rfl)) rfl ?_
    refine aV 1 (by decide +kernel) rfl (e_nilc (q0 rfl)) rfl ?_
    refine aV 2 (by decide +kernel) rfl (e_fld Try.underlying86 rfl Try.sizeOf83 rfl (q0 rfl)) rfl ?_
    refine aV 3 (by decide +kernel) rfl (e_ld Try.isAgg83 (q0 rfl) (by first | exact bx 0 rfl rfl | exact bx 1 rfl rfl | exact bx 2 rfl rfl | exact bx 3 rfl rfl | exact bx 4 rfl rfl | exact bx 5 rfl rfl | exact bx 6 rfl rfl | exact bx 7 rfl rfl | exact bx 8 rfl rfl | exact bx 9 rfl rfl | exact rc ‹_› ‹_› rfl | exact rc0 ‹_› ‹_› rfl | exact xc ‹_› ‹_› | exact rr 0 rfl ‹_› rfl | exact rr0 0 rfl ‹_› rfl | exact rr 1 rfl ‹_› rfl | exact rr0 1 rfl ‹_› rfl | exact rr 2 rfl ‹_› rfl | exact rr0 2 rfl ‹_› rfl | exact rr 3 rfl ‹_› rfl | exact rr0 3 rfl ‹_› rfl | exact rr 4 rfl ‹_› rfl | exact rr0 4 rfl ‹_› rfl | exact rr 5 rfl ‹_› rfl | exact rr0 5 rfl ‹_› rfl | exact rr 6 rfl ‹_› rfl | exact rr0 6 rfl ‹_› rfl | exact rr 7 rfl ‹_› rfl | exact rr0 7 rfl ‹_› rfl)) rfl ?_
    refine aV 4 (by decide +kernel) rfl (e_fld Try.underlying41 rfl Try.sizeOf3 rfl (q0 rfl)) rfl ?_
    refine aV 5 (by decide +kernel) rfl (e_ld Try.isAgg3 (q0 rfl) (by first | exact bx 0 rfl rfl | exact bx 1 rfl rfl | exact bx 2 rfl rfl | exact bx 3 rfl rfl | exact bx 4 rfl rfl | exact bx 5 rfl rfl | exact bx 6 rfl rfl | exact bx 7 rfl rfl | exact bx 8 rfl rfl | exact bx 9 rfl rfl | exact rc ‹_› ‹_› rfl | exact rc0 ‹_› ‹_› rfl | exact xc ‹_› ‹_› | exact rr 0 rfl ‹_› rfl | exact rr0 0 rfl ‹_› rfl | exact rr 1 rfl ‹_› rfl | exact rr0 1 rfl ‹_› rfl | exact rr 2 rfl ‹_› rfl | exact rr0 2 rfl ‹_› rfl | exact rr 3 rfl ‹_› rfl | exact rr0 3 rfl ‹_› rfl | exact rr 4 rfl ‹_› rfl | exact rr0 4 rfl ‹_› rfl | exact rr 5 rfl ‹_› rfl | exact rr0 5 rfl ‹_› rfl | exact rr 6 rfl ‹_› rfl | exact rr0 6 rfl ‹_› rfl | exact rr 7 rfl ‹_› rfl | exact rr0 7 rfl ‹_› rfl)) rfl ?_
    refine rdy1 (i := 6) (by decide +kernel) (sub_drop 1) ?_
    refine aL rfl (f_pmapDel 0 Try.underlying83 Try.underlying3 rfl rfl rfl ?_)
    refine aZ (by decide +kernel) (sub_drop 1) ?_
    refine thenJ_normal ?_
    refine H_mem (fun w hw => hw.mv4) rfl ?_
    refine RT rfl rfl (by decide +kernel) ?_
    refine xV (e_mv (v := .pointer _) (q0 rfl)) rfl rfl ?_
    refine xV (e_nilc (q0 rfl)) rfl rfl ?_
    refine xV (e_fld Try.underlying86 rfl Try.sizeOf37 rfl (q0 rfl)) rfl rfl ?_
    refine xV (e_ld Try.isAgg37 (q0 rfl) (by first | exact bx 0 rfl rfl | exact bx 1 rfl rfl | exact bx 2 rfl rfl | exact bx 3 rfl rfl | exact bx 4 rfl rfl | exact bx 5 rfl rfl | exact bx 6 rfl rfl | exact bx 7 rfl rfl | exact bx 8 rfl rfl | exact bx 9 rfl rfl | exact rc ‹_› ‹_› rfl | exact rc0 ‹_› ‹_› rfl | exact xc ‹_› ‹_› | exact rr 0 rfl ‹_› rfl | exact rr0 0 rfl ‹_› rfl | exact rr 1 rfl ‹_› rfl | exact rr0 1 rfl ‹_› rfl | exact rr 2 rfl ‹_› rfl | exact rr0 2 rfl ‹_› rfl | exact rr 3 rfl ‹_› rfl | exact rr0 3 rfl ‹_› rfl | exact rr 4 rfl ‹_› rfl | exact rr0 4 rfl ‹_› rfl | exact rr 5 rfl ‹_› rfl | exact rr0 5 rfl ‹_› rfl | exact rr 6 rfl ‹_› rfl | exact rr0 6 rfl ‹_› rfl | exact rr 7 rfl ‹_› rfl | exact rr0 7 rfl ‹_› rfl)) rfl rfl ?_
    refine xV (e_mv (v := .int _ _) (q0 rfl)) rfl rfl ?_
    refine xV (e_lds Try.isAgg41 Try.sizeOf41 (q0 rfl) (by first | exact bxs 0 rfl | exact bxs 1 rfl | exact bxs 2 rfl | exact bxs 3 rfl | exact bxs 4 rfl | exact bxs 5 rfl | exact bxs 6 rfl | exact bxs 7 rfl | exact bxs 8 rfl | exact bxs 9 rfl | exact rcs ‹_› ‹_› | exact rrs 0 rfl ‹_› | exact rrs 1 rfl ‹_› | exact rrs 2 rfl ‹_› | exact rrs 3 rfl ‹_› | exact rrs 4 rfl ‹_› | exact rrs 5 rfl ‹_› | exact rrs 6 rfl ‹_› | exact rrs 7 rfl ‹_›) rfl) rfl rfl ?_
    refine xV (e_idx _ Try.underlying37 Try.sizeOf41 (q0 rfl) (q0 rfl) (fun _ => ⟨rfl, by omega⟩)) rfl rfl ?_
    refine XN ?_
    refine thenJ_normal ?_
    refine X_eff (f_storeR0 3 to rfl rfl Try.sizeOf41 rfl rfl rfl hx rfl rfl ?_)
    refine XN ?_
    exact end0 rfl hmk fun w' hw => ⟨(), rfl, hw.tail.tail⟩
  · have hx3 : ¬ x.where_ = 3 := by simpa using h3
    rw [if_neg hx3]
    refine H_skip ?_
    refine thenJ_normal ?_
    refine RT rfl rfl (by decide +kernel) ?_
    refine xV (e_mv (v := .pointer _) (q0 rfl)) rfl rfl ?_
    refine xV (e_nilc (q0 rfl)) rfl rfl ?_
    refine xV (e_fld Try.underlying86 rfl Try.sizeOf37 rfl (q0 rfl)) rfl rfl ?_
    refine xV (e_ld Try.isAgg37 (q0 rfl) (by first | exact bx 0 rfl rfl | exact bx 1 rfl rfl | exact bx 2 rfl rfl | exact bx 3 rfl rfl | exact bx 4 rfl rfl | exact bx 5 rfl rfl | exact bx 6 rfl rfl | exact bx 7 rfl rfl | exact bx 8 rfl rfl | exact bx 9 rfl rfl | exact rc ‹_› ‹_› rfl | exact rc0 ‹_› ‹_› rfl | exact xc ‹_› ‹_› | exact rr 0 rfl ‹_› rfl | exact rr0 0 rfl ‹_› rfl | exact rr 1 rfl ‹_› rfl | exact rr0 1 rfl ‹_› rfl | exact rr 2 rfl ‹_› rfl | exact rr0 2 rfl ‹_› rfl | exact rr 3 rfl ‹_› rfl | exact rr0 3 rfl ‹_› rfl | exact rr 4 rfl ‹_› rfl | exact rr0 4 rfl ‹_› rfl | exact rr 5 rfl ‹_› rfl | exact rr0 5 rfl ‹_› rfl | exact rr 6 rfl ‹_› rfl | exact rr0 6 rfl ‹_› rfl | exact rr 7 rfl ‹_› rfl | exact rr0 7 rfl ‹_› rfl)) rfl rfl ?_
    refine xV (e_mv (v := .int _ _) (q0 rfl)) rfl rfl ?_
    refine xV (e_lds Try.isAgg41 Try.sizeOf41 (q0 rfl) (by first | exact bxs 0 rfl | exact bxs 1 rfl | exact bxs 2 rfl | exact bxs 3 rfl | exact bxs 4 rfl | exact bxs 5 rfl | exact bxs 6 rfl | exact bxs 7 rfl | exact bxs 8 rfl | exact bxs 9 rfl | exact rcs ‹_› ‹_› | exact rrs 0 rfl ‹_› | exact rrs 1 rfl ‹_› | exact rrs 2 rfl ‹_› | exact rrs 3 rfl ‹_› | exact rrs 4 rfl ‹_› | exact rrs 5 rfl ‹_› | exact rrs 6 rfl ‹_› | exact rrs 7 rfl ‹_›) rfl) rfl rfl ?_
    refine xV (e_idx _ Try.underlying37 Try.sizeOf41 (q0 rfl) (q0 rfl) (fun _ => ⟨rfl, by omega⟩)) rfl rfl ?_
    refine XN ?_
    refine thenJ_normal ?_
    refine X_eff (f_storeR0 3 to rfl rfl Try.sizeOf41 rfl rfl rfl hx rfl rfl ?_)
    refine XN ?_
    exact end0 rfl hmk fun w' hw => ⟨(), rfl, hw.tail.tail⟩

attribute [local irreducible] tripPtr
theorem pause_w {f : Fl} {a : FA} {s : SA} {t : TS} {w0 w : World} {L : List E.Item} (hw : Mem w0 (stL f a s t ++ L) w) (hmk : marks L = []) (hl : t.spots.length = s.n) (k : Nat) (hk : k < s.n) (pa : Bool) {x : Sp} (hx : t.spots[k]? = some x) {q : Nat} {p : Int × Nat × PT} (hq : t.ps[q]? = some p) (hf : t.ps.find? (fun y => y.1 == x.ride) = some p) :
    Calls Try.prog 87 #[.pointer (some ⟨s.sb, 0, none⟩), .int .i64 k, .bool pa] w fun e w' => ∃ _ : Unit, e = .returned (.tuple #[]) ∧ Mem w0 (stL f a s ⟨t.spots.set k { x with paused := pa }, t.ps.set q (p.1, p.2.1, { p.2.2 with paused := pa }), t.used⟩ ++ L) w' := by
  have hptr : (mlook (ptrs t.ps) x.ride).getD (.pointer none) = .pointer (some ⟨p.2.1, 0, none⟩) := by rw [ptrs_val]; unfold tripPtr; rw [hf]; rfl
  refine H_enterM hw hmk Try.func87 rfl Try.ntmps87 rfl ?_
  refine H_seq ?_
  refine RT rfl rfl (by decide +kernel) ?_
  refine xV (e_mv (v := .pointer _) (q0 rfl)) rfl rfl ?_
  refine xV (e_nilc (q0 rfl)) rfl rfl ?_
  refine xV (e_fld Try.underlying86 rfl Try.sizeOf83 rfl (q0 rfl)) rfl rfl ?_
  refine xV (e_ld Try.isAgg83 (q0 rfl) (by first | exact bx 0 rfl rfl | exact bx 1 rfl rfl | exact bx 2 rfl rfl | exact bx 3 rfl rfl | exact bx 4 rfl rfl | exact bx 5 rfl rfl | exact bx 6 rfl rfl | exact bx 7 rfl rfl | exact bx 8 rfl rfl | exact bx 9 rfl rfl | exact rc ‹_› ‹_› rfl | exact rc0 ‹_› ‹_› rfl | exact xc ‹_› ‹_› | exact rr 0 rfl ‹_› rfl | exact rr0 0 rfl ‹_› rfl | exact rr 1 rfl ‹_› rfl | exact rr0 1 rfl ‹_› rfl | exact rr 2 rfl ‹_› rfl | exact rr0 2 rfl ‹_› rfl | exact rr 3 rfl ‹_› rfl | exact rr0 3 rfl ‹_› rfl | exact rr 4 rfl ‹_› rfl | exact rr0 4 rfl ‹_› rfl | exact rr 5 rfl ‹_› rfl | exact rr0 5 rfl ‹_› rfl | exact rr 6 rfl ‹_› rfl | exact rr0 6 rfl ‹_› rfl | exact rr 7 rfl ‹_› rfl | exact rr0 7 rfl ‹_› rfl)) rfl rfl ?_
  refine xV (e_mv (v := .pointer _) (q0 rfl)) rfl rfl ?_
  refine xV (e_nilc (q0 rfl)) rfl rfl ?_
  refine xV (e_fld Try.underlying86 rfl Try.sizeOf37 rfl (q0 rfl)) rfl rfl ?_
  refine xV (e_ld Try.isAgg37 (q0 rfl) (by first | exact bx 0 rfl rfl | exact bx 1 rfl rfl | exact bx 2 rfl rfl | exact bx 3 rfl rfl | exact bx 4 rfl rfl | exact bx 5 rfl rfl | exact bx 6 rfl rfl | exact bx 7 rfl rfl | exact bx 8 rfl rfl | exact bx 9 rfl rfl | exact rc ‹_› ‹_› rfl | exact rc0 ‹_› ‹_› rfl | exact xc ‹_› ‹_› | exact rr 0 rfl ‹_› rfl | exact rr0 0 rfl ‹_› rfl | exact rr 1 rfl ‹_› rfl | exact rr0 1 rfl ‹_› rfl | exact rr 2 rfl ‹_› rfl | exact rr0 2 rfl ‹_› rfl | exact rr 3 rfl ‹_› rfl | exact rr0 3 rfl ‹_› rfl | exact rr 4 rfl ‹_› rfl | exact rr0 4 rfl ‹_› rfl | exact rr 5 rfl ‹_› rfl | exact rr0 5 rfl ‹_› rfl | exact rr 6 rfl ‹_› rfl | exact rr0 6 rfl ‹_› rfl | exact rr 7 rfl ‹_› rfl | exact rr0 7 rfl ‹_› rfl)) rfl rfl ?_
  refine xV (e_mv (v := .int _ _) (q0 rfl)) rfl rfl ?_
  refine xV (e_idx _ Try.underlying37 Try.sizeOf41 (q0 rfl) (q0 rfl) (fun _ => ⟨rfl, by omega⟩)) rfl rfl ?_
  refine xV (e_fld Try.underlying41 rfl Try.sizeOf3 rfl (q0 rfl)) rfl rfl ?_
  refine xV (e_ld Try.isAgg3 (q0 rfl) (by first | exact bx 0 rfl rfl | exact bx 1 rfl rfl | exact bx 2 rfl rfl | exact bx 3 rfl rfl | exact bx 4 rfl rfl | exact bx 5 rfl rfl | exact bx 6 rfl rfl | exact bx 7 rfl rfl | exact bx 8 rfl rfl | exact bx 9 rfl rfl | exact rc ‹_› ‹_› rfl | exact rc0 ‹_› ‹_› rfl | exact xc ‹_› ‹_› | exact rr 0 rfl ‹_› rfl | exact rr0 0 rfl ‹_› rfl | exact rr 1 rfl ‹_› rfl | exact rr0 1 rfl ‹_› rfl | exact rr 2 rfl ‹_› rfl | exact rr0 2 rfl ‹_› rfl | exact rr 3 rfl ‹_› rfl | exact rr0 3 rfl ‹_› rfl | exact rr 4 rfl ‹_› rfl | exact rr0 4 rfl ‹_› rfl | exact rr 5 rfl ‹_› rfl | exact rr0 5 rfl ‹_› rfl | exact rr 6 rfl ‹_› rfl | exact rr0 6 rfl ‹_› rfl | exact rr 7 rfl ‹_› rfl | exact rr0 7 rfl ‹_› rfl)) rfl rfl ?_
  refine xV (e_lookG Try.underlying83 Try.underlying3 Try.zeroValue123 (q0 rfl) (q0 rfl) (pmap_map 2 rfl) (fun _ => hptr)) rfl rfl ?_
  refine xV (e_mv (v := .bool _) (q0 rfl)) rfl rfl ?_
  refine xV (e_nilc (q0 rfl)) rfl rfl ?_
  refine xV (e_fld Try.underlying127 rfl Try.sizeOf4 rfl (q0 rfl)) rfl rfl ?_
  refine XN ?_
  refine thenJ_normal ?_
  refine X_eff (f_pmapStore 2 (off := 2) { p.2.2 with paused := pa } rfl rfl Try.sizeOf4 rfl rfl rfl hq (Nat.le_refl 3) rfl ?_)
  refine XN ?_
  refine thenJ_normal ?_
  refine R0 ?_
  refine xV (e_mv (v := .pointer _) (q0 rfl)) rfl rfl ?_
  refine xV (e_nilc (q0 rfl)) rfl rfl ?_
  refine xV (e_fld Try.underlying86 rfl Try.sizeOf37 rfl (q0 rfl)) rfl rfl ?_
  refine xV (e_ld Try.isAgg37 (q0 rfl) (by first | exact bx 0 rfl rfl | exact bx 1 rfl rfl | exact bx 2 rfl rfl | exact bx 3 rfl rfl | exact bx 4 rfl rfl | exact bx 5 rfl rfl | exact bx 6 rfl rfl | exact bx 7 rfl rfl | exact bx 8 rfl rfl | exact bx 9 rfl rfl | exact rc ‹_› ‹_› rfl | exact rc0 ‹_› ‹_› rfl | exact xc ‹_› ‹_› | exact rr 0 rfl ‹_› rfl | exact rr0 0 rfl ‹_› rfl | exact rr 1 rfl ‹_› rfl | exact rr0 1 rfl ‹_› rfl | exact rr 2 rfl ‹_› rfl | exact rr0 2 rfl ‹_› rfl | exact rr 3 rfl ‹_› rfl | exact rr0 3 rfl ‹_› rfl | exact rr 4 rfl ‹_› rfl | exact rr0 4 rfl ‹_› rfl | exact rr 5 rfl ‹_› rfl | exact rr0 5 rfl ‹_› rfl | exact rr 6 rfl ‹_› rfl | exact rr0 6 rfl ‹_› rfl | exact rr 7 rfl ‹_› rfl | exact rr0 7 rfl ‹_› rfl)) rfl rfl ?_
  refine xV (e_mv (v := .int _ _) (q0 rfl)) rfl rfl ?_
  refine xV (e_mv (v := .bool _) (q0 rfl)) rfl rfl ?_
  refine xV (e_idx _ Try.underlying37 Try.sizeOf41 (q0 rfl) (q0 rfl) (fun _ => ⟨rfl, by omega⟩)) rfl rfl ?_
  refine xV (e_fld Try.underlying41 rfl Try.sizeOf4 rfl (q0 rfl)) rfl rfl ?_
  refine X_eff (f_storeR 1 (off := 3) { x with paused := pa } rfl rfl Try.sizeOf4 rfl rfl rfl hx rfl rfl ?_)
  refine XN ?_
  exact end0 rfl hmk fun w' hw => ⟨(), rfl, hw⟩

end Go.Proofs.Cus
