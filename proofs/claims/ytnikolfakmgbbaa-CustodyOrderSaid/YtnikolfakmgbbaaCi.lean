/-
  The walks: the state, read: how many are at a place, who rides, what refuses an event.
-/
import Derived.Test.YtnikolfakmgbbaaCh
import Derived.Test.YtnikolfakmgbbaaSt
import Derived.Test.YtnikolfakmgbbaaEv
namespace Go.Proofs.Cus
open Go Go.RowKit Go.Proofs.E

theorem fl41 {fs : Array Field} (h : Try.prog.underlying 41 = some (.struct fs) := by exact Try.underlying41) : FieldsLie Try.prog fs [(0, 1), (1, 1), (2, 1), (3, 1)] := by
  rw [Try.underlying41] at h
  cases h
  intro w
  kernel_rfl
theorem fl127 {fs : Array Field} (h : Try.prog.underlying 127 = some (.struct fs) := by exact Try.underlying127) : FieldsLie Try.prog fs [(0, 1), (1, 1), (2, 1)] := by
  rw [Try.underlying127] at h
  cases h
  intro w
  kernel_rfl
theorem fl86 {fs : Array Field} (h : Try.prog.underlying 86 = some (.struct fs) := by exact Try.underlying86) : FieldsLie Try.prog fs [(0, 5), (5, 1), (6, 1), (7, 1)] := by
  rw [Try.underlying86] at h
  cases h
  intro w
  kernel_rfl
theorem fl69 {fs : Array Field} (h : Try.prog.underlying 69 = some (.struct fs) := by exact Try.underlying69) : FieldsLie Try.prog fs [(0, 1), (1, 1), (2, 1)] := by
  rw [Try.underlying69] at h
  cases h
  intro w
  kernel_rfl

def Sp.cells (x : Sp) : List Value := [.int .i64 x.where_, .int .i64 x.place, .int .i64 x.ride, .bool x.paused]
def PT.cells (t : PT) : List Value := [.int .i64 t.rider, .int .i64 t.bike, .bool t.paused]
abbrev SpotsAt (w : World) (A : Option Addr) (n : Nat) (xs : List Sp) : Prop := SlAt w 4 Sp.cells A n xs
abbrev spRow (A : Option Addr) (c : Nat) (xs : List Sp) : E.Item := rowT 41 4 Sp.cells A c xs

/-- the state with the places of the open rides -/
structure TS where
  spots : List Sp
  ps : List (Int × Nat × PT)
  used : List Int
def TS.open_ (t : TS) : List (Int × PT) := t.ps.map fun p => (p.1, p.2.2)
def TS.plain (t : TS) : PS := ⟨t.spots, t.open_, t.used⟩
/-- where the state lies -/
structure SA where
  sb : Nat
  q : Nat
  n : Nat
  c : Nat
  m : Nat
  u : Nat
def usedPairs (l : List Int) : List (Int × Value) := l.map fun i => (i, .bool true)
def stCells (f : Fl) (a : FA) (s : SA) : List Value := f.cells a ++ [.slice (some ⟨s.q, 0, none⟩) s.n s.c, .map (some s.m), .map (some s.u)]
abbrev stL (f : Fl) (a : FA) (s : SA) (t : TS) : List E.Item :=
  [box s.sb 86 (stCells f a s), spRow (some ⟨s.q, 0, none⟩) s.c t.spots, pmap s.m 127 PT.cells t.ps, imap s.u (usedPairs t.used)]

structure StAt (w : World) (f : Fl) (a : FA) (s : SA) (t : TS) : Prop where
  lt : s.sb < w.heap.size
  row : RowAt w s.sb 0 (stCells f a s)
  spots : SpotsAt w (some ⟨s.q, 0, none⟩) s.n t.spots
  open_ : IMap w s.m (ptrs t.ps)
  trips : ∀ p ∈ t.ps, p.2.1 < w.heap.size ∧ RowAt w p.2.1 0 p.2.2.cells
  used : IMap w s.u (usedPairs t.used)
  fl : FlAt w f a
theorem StAt.mem {w0 w : World} {L : List E.Item} {f : Fl} {a : FA} {s : SA} {t : TS} (h : StAt w0 f a s t) (hm : Mem w0 L w) : StAt w f a s t :=
  ⟨Nat.lt_of_lt_of_le h.lt hm.1.size, h.row.below h.lt hm.1, h.spots.mem hm, h.open_.mem w hm, fun p hp => ⟨Nat.lt_of_lt_of_le (h.trips p hp).1 hm.1.size, (h.trips p hp).2.below (h.trips p hp).1 hm.1⟩, h.used.mem w hm, h.fl.mem hm⟩
theorem heap_row {w : World} {b : Nat} {cs : List Value} {t : TypeId} (h : w.heap[b]? = some (.cells cs.toArray t (0, 0))) : b < w.heap.size ∧ RowAt w b 0 cs :=
  ⟨(Array.getElem?_eq_some_iff.1 h).1, fun j u hu => by simp [World.cell?, h, hu]⟩
theorem stAt_of {w0 w : World} {L : List E.Item} {f : Fl} {a : FA} {s : SA} {t : TS} (hf : FlAt w f a) (hl : t.spots.length = s.n) (hn : s.n ≤ 1000) (hw : Mem w0 (stL f a s t ++ L) w) : StAt w f a s t := by
  have hsp := slAt_row hw (j := 1) rfl (fun _ => rfl) (by omega)
  rw [hl] at hsp
  have h0 := heap_row (hw.item (k := 0) rfl)
  have h2 : (pmap s.m 127 PT.cells t.ps).A w := hw.item (k := 2) rfl
  exact ⟨h0.1, h0.2, hsp, h2.1, fun p hp => heap_row (h2.2.1 p hp), hw.item (k := 3) rfl, hf⟩

theorem parked_w (x : Sp) (w : World) : Calls Try.prog 84 #[.agg x.cells.toArray] w fun e w' => e = .returned (.bool (parkedS x)) ∧ Bel w w' := by
  refine H_enter Try.func84 rfl Try.ntmps84 rfl ?_
  refine H_seq ?_
  refine R0 ?_
  refine X_box (v := .agg _) rfl rfl fun b1 => ?_
  refine xV (e_as (v := .bool _) (q0 rfl)) rfl rfl ?_
  refine XN ?_
  refine thenJ_normal ?_
  refine H_seq ?_
  refine R0 ?_
  refine xV (e_fld Try.underlying41 rfl Try.sizeOf3 rfl (q0 rfl)) rfl rfl ?_
  refine xV (e_ld Try.isAgg3 (q0 rfl) (by first | exact bx 0 rfl rfl | exact bx 1 rfl rfl | exact bx 2 rfl rfl | exact bx 3 rfl rfl | exact bx 4 rfl rfl | exact bx 5 rfl rfl | exact bx 6 rfl rfl | exact bx 7 rfl rfl | exact bx 8 rfl rfl | exact bx 9 rfl rfl | exact rc ‹_› ‹_› rfl | exact rc0 ‹_› ‹_› rfl | exact xc ‹_› ‹_› | exact rr 0 rfl ‹_› rfl | exact rr0 0 rfl ‹_› rfl | exact rr 1 rfl ‹_› rfl | exact rr0 1 rfl ‹_› rfl | exact rr 2 rfl ‹_› rfl | exact rr0 2 rfl ‹_› rfl | exact rr 3 rfl ‹_› rfl | exact rr0 3 rfl ‹_› rfl | exact rr 4 rfl ‹_› rfl | exact rr0 4 rfl ‹_› rfl | exact rr 5 rfl ‹_› rfl | exact rr0 5 rfl ‹_› rfl | exact rr 6 rfl ‹_› rfl | exact rr0 6 rfl ‹_› rfl | exact rr 7 rfl ‹_› rfl | exact rr0 7 rfl ‹_› rfl)) rfl rfl ?_
  refine xV (e_eq (q0 rfl) (q0 rfl)) rfl rfl ?_
  refine xV (e_mv (v := .bool _) (q0 rfl)) rfl rfl ?_
  refine xVF (e_fld Try.underlying41 rfl Try.sizeOf3 rfl (q0 rfl)) rfl rfl rfl rfl ?_
  refine xVF (e_ld Try.isAgg3 (q1 rfl) (by first | exact bx 0 rfl rfl | exact bx 1 rfl rfl | exact bx 2 rfl rfl | exact bx 3 rfl rfl | exact bx 4 rfl rfl | exact bx 5 rfl rfl | exact bx 6 rfl rfl | exact bx 7 rfl rfl | exact bx 8 rfl rfl | exact bx 9 rfl rfl | exact rc ‹_› ‹_› rfl | exact rc0 ‹_› ‹_› rfl | exact xc ‹_› ‹_› | exact rr 0 rfl ‹_› rfl | exact rr0 0 rfl ‹_› rfl | exact rr 1 rfl ‹_› rfl | exact rr0 1 rfl ‹_› rfl | exact rr 2 rfl ‹_› rfl | exact rr0 2 rfl ‹_› rfl | exact rr 3 rfl ‹_› rfl | exact rr0 3 rfl ‹_› rfl | exact rr 4 rfl ‹_› rfl | exact rr0 4 rfl ‹_› rfl | exact rr 5 rfl ‹_› rfl | exact rr0 5 rfl ‹_› rfl | exact rr 6 rfl ‹_› rfl | exact rr0 6 rfl ‹_› rfl | exact rr 7 rfl ‹_› rfl | exact rr0 7 rfl ‹_› rfl)) rfl rfl rfl rfl ?_
  refine xVF (e_eq (q1 rfl) (q0 rfl)) rfl rfl rfl rfl ?_
  refine xV (e_or (q0 rfl) rfl (fun h => by first | rfl | (rw [h]; rfl))) rfl rfl ?_
  refine xV (e_as (v := .bool _) (q0 rfl)) rfl rfl ?_
  refine XN ?_
  refine thenJ_normal ?_
  refine H_ret ?_
  exact ret1 (v := .bool _) rfl rfl rfl fun w' hw => ⟨rfl, hw.1⟩
theorem refused_w (no : Bool) (er : Int) (w : World) : Calls Try.prog 83 #[.bool no, .int .i64 er] w fun e w' => e = .returned (.int .i64 (refuse no er)) ∧ Bel w w' := by
  refine H_enter Try.func83 rfl Try.ntmps83 rfl ?_
  refine H_seq ?_
  refine R0 ?_
  refine xV (e_as (v := .int _ _) (q0 rfl)) rfl rfl ?_
  refine XN ?_
  refine thenJ_normal ?_
  refine H_seq ?_
  refine H_seq ?_
  refine R0 ?_
  refine xV (e_mv (v := .bool _) (q0 rfl)) rfl rfl ?_
  refine XN ?_
  refine thenJ_normal ?_
  refine H_cond rfl (fun h => ?_) (fun h => ?_)
  · refine H_seq ?_
    refine R0 ?_
    refine xV (e_mv (v := .int _ _) (q0 rfl)) rfl rfl ?_
    refine xV (e_as (v := .int _ _) (q0 rfl)) rfl rfl ?_
    refine XN ?_
    refine thenJ_normal ?_
    refine H_ret ?_
    refine thenJ_ret ?_
    exact ret1 (v := .int _ _) rfl rfl rfl fun w' hw => ⟨ret_int (by unfold refuse; rw [if_pos h]), hw.1⟩
  · refine H_skip ?_
    refine thenJ_normal ?_
    refine H_seq ?_
    refine R0 ?_
    refine xV (e_as (v := .int _ _) (q0 rfl)) rfl rfl ?_
    refine XN ?_
    refine thenJ_normal ?_
    refine H_ret ?_
    exact ret1 (v := .int _ _) rfl rfl rfl fun w' hw => ⟨ret_int (by unfold refuse; rw [if_neg (by rw [h]; decide)]), hw.1⟩

theorem countP_snoc (l : List Sp) (wh pl : Int) (k : Nat) (x : Sp) (h : l[k]? = some x) : countP (l.take (k + 1)) wh pl = countP (l.take k) wh pl + (if atP wh pl x = true then 1 else 0) := by
  unfold countP
  rw [take_snoc _ _ _ h, List.countP_append]
  simp [List.countP_cons]
theorem count_w {f : Fl} {a : FA} {s : SA} {t : TS} (wh pl : Int) (w : World) (h : StAt w f a s t) : Calls Try.prog 52 #[.pointer (some ⟨s.sb, 0, none⟩), .int .i64 wh, .int .i64 pl] w fun e w' => e = .returned (.int .i64 (countP t.spots wh pl)) ∧ Bel w w' := by
  have hlt := h.lt
  have hrow := h.row
  have hn := h.spots.2.1
  have hl := h.spots.1
  refine H_enter Try.func52 rfl Try.ntmps52 rfl ?_
  refine H_seq ?_
  refine R0 ?_
  refine xV (e_as (v := .int _ _) (q0 rfl)) rfl rfl ?_
  refine XN ?_
  refine thenJ_normal ?_
  refine H_seq ?_
  refine R0 ?_
  refine xV (e_as (v := .int _ _) (q0 rfl)) rfl rfl ?_
  refine XN ?_
  refine thenJ_normal ?_
  refine H_seq ?_
  refine H_seq ?_
  refine R0 ?_
  refine xV (e_mv (v := .pointer _) (q0 rfl)) rfl rfl ?_
  refine xV (e_nilc (q0 rfl)) rfl rfl ?_
  refine xV (e_fld Try.underlying86 rfl Try.sizeOf37 rfl (q0 rfl)) rfl rfl ?_
  refine xV (e_ld Try.isAgg37 (q0 rfl) (by first | exact bx 0 rfl rfl | exact bx 1 rfl rfl | exact bx 2 rfl rfl | exact bx 3 rfl rfl | exact bx 4 rfl rfl | exact bx 5 rfl rfl | exact bx 6 rfl rfl | exact bx 7 rfl rfl | exact bx 8 rfl rfl | exact bx 9 rfl rfl | exact rc ‹_› ‹_› rfl | exact rc0 ‹_› ‹_› rfl | exact xc ‹_› ‹_› | exact rr 0 rfl ‹_› rfl | exact rr0 0 rfl ‹_› rfl | exact rr 1 rfl ‹_› rfl | exact rr0 1 rfl ‹_› rfl | exact rr 2 rfl ‹_› rfl | exact rr0 2 rfl ‹_› rfl | exact rr 3 rfl ‹_› rfl | exact rr0 3 rfl ‹_› rfl | exact rr 4 rfl ‹_› rfl | exact rr0 4 rfl ‹_› rfl | exact rr 5 rfl ‹_› rfl | exact rr0 5 rfl ‹_› rfl | exact rr 6 rfl ‹_› rfl | exact rr0 6 rfl ‹_› rfl | exact rr 7 rfl ‹_› rfl | exact rr0 7 rfl ‹_› rfl)) rfl rfl ?_
  refine xV (e_len Try.underlying37 (q0 rfl)) rfl rfl ?_
  refine xV (e_mv (v := .int _ _) (q0 rfl)) rfl rfl ?_
  refine XN ?_
  refine thenJ_normal ?_
  refine H_block ?_
  refine H_loop [7, 9, 15, 16, 17, 18, 19, 20, 21, 22, 23, 24, 25, 26, 27, 28, 29, 30, 31] (fun k : Nat => [(15, .int .i64 k), (7, .int .i64 (countP (t.spots.take k) wh pl))]) (fun _ => []) (fun k => k ≤ s.n ∧ countP (t.spots.take k) wh pl ≤ k) (fun k => s.n - k) 0 ⟨rfl, rfl, trivial⟩ (fun _ h => h) rfl ⟨Nat.zero_le _, Nat.le_refl _⟩ ?_
  rintro k g ⟨hk, hc⟩
  refine H_seq ?_
  refine R0 ?_
  refine xV (e_lt (q0 rfl) (q0 rfl)) rfl rfl ?_
  refine XN ?_
  refine thenJ_normal ?_
  refine H_seq ?_
  refine H_cond rfl (fun hlt2 => ?_) (fun hlt2 => ?_)
  · have hk2 : k < s.n := by simpa using hlt2
    obtain ⟨x, hxk, hrx⟩ := h.spots.row hk2
    have hbl : s.q < w.heap.size := by
      obtain ⟨b, off, y, hA, hbl, _, _⟩ := h.spots.at_ hk2
      cases hA; exact hbl
    have hs := countP_snoc t.spots wh pl k x hxk
    refine H_skip ?_
    refine thenJ_normal ?_
    refine H_seq ?_
    refine H_block ?_
    refine H_seq ?_
    refine R0 ?_
    refine xV (e_idx _ Try.underlying37 Try.sizeOf41 (q0 rfl) (q0 rfl) (fun _ => ⟨rfl, by omega⟩)) rfl rfl ?_
    refine xV (e_lds Try.isAgg41 Try.sizeOf41 (q0 rfl) (by first | exact bxs 0 rfl | exact bxs 1 rfl | exact bxs 2 rfl | exact bxs 3 rfl | exact bxs 4 rfl | exact bxs 5 rfl | exact bxs 6 rfl | exact bxs 7 rfl | exact bxs 8 rfl | exact bxs 9 rfl | exact rcs ‹_› ‹_› | exact rrs 0 rfl ‹_› | exact rrs 1 rfl ‹_› | exact rrs 2 rfl ‹_› | exact rrs 3 rfl ‹_› | exact rrs 4 rfl ‹_› | exact rrs 5 rfl ‹_› | exact rrs 6 rfl ‹_› | exact rrs 7 rfl ‹_›) rfl) rfl rfl ?_
    refine X_alloc Try.zeroValue41 rfl fun b9 => ?_
    (first | refine X_store 0 (v := .agg _) rfl rfl Try.sizeOf41 rfl rfl rfl rfl ?_ | refine X_store 1 (v := .agg _) rfl rfl Try.sizeOf41 rfl rfl rfl rfl ?_ | refine X_store 2 (v := .agg _) rfl rfl Try.sizeOf41 rfl rfl rfl rfl ?_ | refine X_store 3 (v := .agg _) rfl rfl Try.sizeOf41 rfl rfl rfl rfl ?_ | refine X_store 4 (v := .agg _) rfl rfl Try.sizeOf41 rfl rfl rfl rfl ?_ | refine X_store 5 (v := .agg _) rfl rfl Try.sizeOf41 rfl rfl rfl rfl ?_ | refine X_store 6 (v := .agg _) rfl rfl Try.sizeOf41 rfl rfl rfl rfl ?_ | refine X_store 7 (v := .agg _) rfl rfl Try.sizeOf41 rfl rfl rfl rfl ?_ | refine X_store 8 (v := .agg _) rfl rfl Try.sizeOf41 rfl rfl rfl rfl ?_)
    refine XN ?_
    refine thenJ_normal ?_
    refine H_seq ?_
    refine R0 ?_
    refine xV (e_fld Try.underlying41 rfl Try.sizeOf3 rfl (q0 rfl)) rfl rfl ?_
    refine xV (e_ld Try.isAgg3 (q0 rfl) (by first | exact bx 0 rfl rfl | exact bx 1 rfl rfl | exact bx 2 rfl rfl | exact bx 3 rfl rfl | exact bx 4 rfl rfl | exact bx 5 rfl rfl | exact bx 6 rfl rfl | exact bx 7 rfl rfl | exact bx 8 rfl rfl | exact bx 9 rfl rfl | exact rc ‹_› ‹_› rfl | exact rc0 ‹_› ‹_› rfl | exact xc ‹_› ‹_› | exact rr 0 rfl ‹_› rfl | exact rr0 0 rfl ‹_› rfl | exact rr 1 rfl ‹_› rfl | exact rr0 1 rfl ‹_› rfl | exact rr 2 rfl ‹_› rfl | exact rr0 2 rfl ‹_› rfl | exact rr 3 rfl ‹_› rfl | exact rr0 3 rfl ‹_› rfl | exact rr 4 rfl ‹_› rfl | exact rr0 4 rfl ‹_› rfl | exact rr 5 rfl ‹_› rfl | exact rr0 5 rfl ‹_› rfl | exact rr 6 rfl ‹_› rfl | exact rr0 6 rfl ‹_› rfl | exact rr 7 rfl ‹_› rfl | exact rr0 7 rfl ‹_› rfl)) rfl rfl ?_
    refine xV (e_mv (v := .int _ _) (q0 rfl)) rfl rfl ?_
    refine xV (e_eq (q0 rfl) (q0 rfl)) rfl rfl ?_
    refine xV (e_mv (v := .bool _) (q0 rfl)) rfl rfl ?_
    refine xVT (e_fld Try.underlying41 rfl Try.sizeOf3 rfl (q0 rfl)) rfl rfl rfl rfl ?_
    refine xVT (e_ld Try.isAgg3 (q1 rfl) (by first | exact bx 0 rfl rfl | exact bx 1 rfl rfl | exact bx 2 rfl rfl | exact bx 3 rfl rfl | exact bx 4 rfl rfl | exact bx 5 rfl rfl | exact bx 6 rfl rfl | exact bx 7 rfl rfl | exact bx 8 rfl rfl | exact bx 9 rfl rfl | exact rc ‹_› ‹_› rfl | exact rc0 ‹_› ‹_› rfl | exact xc ‹_› ‹_› | exact rr 0 rfl ‹_› rfl | exact rr0 0 rfl ‹_› rfl | exact rr 1 rfl ‹_› rfl | exact rr0 1 rfl ‹_› rfl | exact rr 2 rfl ‹_› rfl | exact rr0 2 rfl ‹_› rfl | exact rr 3 rfl ‹_› rfl | exact rr0 3 rfl ‹_› rfl | exact rr 4 rfl ‹_› rfl | exact rr0 4 rfl ‹_› rfl | exact rr 5 rfl ‹_› rfl | exact rr0 5 rfl ‹_› rfl | exact rr 6 rfl ‹_› rfl | exact rr0 6 rfl ‹_› rfl | exact rr 7 rfl ‹_› rfl | exact rr0 7 rfl ‹_› rfl)) rfl rfl rfl rfl ?_
    refine xVT (e_mv (v := .int _ _) (q0 rfl)) rfl rfl rfl rfl ?_
    refine xVT (e_eq (q1 rfl) (q1 rfl)) rfl rfl rfl rfl ?_
    refine xV (e_and (q0 rfl) rfl (fun h => by first | rfl | (rw [h]; rfl))) rfl rfl ?_
    refine XN ?_
    refine thenJ_normal ?_
    refine H_cond rfl (fun hb => ?_) (fun hb => ?_)
    · have hs2 : countP (t.spots.take (k + 1)) wh pl = countP (t.spots.take k) wh pl + 1 := by rw [hs, if_pos (by unfold atP; exact hb)]
      refine R0 ?_
      refine xV (e_mv (v := .int _ _) (q0 rfl)) rfl rfl ?_
      refine xV (e_add (q0 rfl) (q0 rfl) (fun _ => ⟨rfl, by omega, by omega⟩)) rfl rfl ?_
      refine xV (e_as (v := .int _ _) (q0 rfl)) rfl rfl ?_
      refine XN ?_
      refine blockJ_normal ?_
      refine thenJ_normal ?_
      refine R0 ?_
      refine xV (e_add (q0 rfl) (q0 rfl) (fun _ => ⟨rfl, by omega, by omega⟩)) rfl rfl ?_
      refine xV (e_mv (v := .int _ _) (q0 rfl)) rfl rfl ?_
      refine XN ?_
      exact loopJ_normal (k + 1) (by repeat (first | exact agree_self | exact agree_over | refine agree_upd rfl ?_ | refine agree_updL rfl ?_ | refine agree_over2 rfl ?_)) ⟨rfl, by show _ = Value.int .i64 (countP (t.spots.take (k + 1)) wh pl : Int); rw [hs2]; rfl, trivial⟩ (fun w hw => mem_nil.2 hw.1) rfl ⟨by omega, by omega⟩ (by show s.n - (k + 1) < s.n - k; omega)
    · have hs2 : countP (t.spots.take (k + 1)) wh pl = countP (t.spots.take k) wh pl := by rw [hs, if_neg (by unfold atP; rw [hb]; decide), Nat.add_zero]
      refine H_skip ?_
      refine blockJ_normal ?_
      refine thenJ_normal ?_
      refine R0 ?_
      refine xV (e_add (q0 rfl) (q0 rfl) (fun _ => ⟨rfl, by omega, by omega⟩)) rfl rfl ?_
      refine xV (e_mv (v := .int _ _) (q0 rfl)) rfl rfl ?_
      refine XN ?_
      exact loopJ_normal (k + 1) (by repeat (first | exact agree_self | exact agree_over | refine agree_upd rfl ?_ | refine agree_updL rfl ?_ | refine agree_over2 rfl ?_)) ⟨rfl, by show _ = Value.int .i64 (countP (t.spots.take (k + 1)) wh pl : Int); rw [hs2]; rfl, trivial⟩ (fun w hw => mem_nil.2 hw.1) rfl ⟨by omega, by omega⟩ (by show s.n - (k + 1) < s.n - k; omega)
  · have hkn : k = s.n := by simp at hlt2; omega
    refine H_exit ?_
    refine thenJ_exit ?_
    refine loopJ_exit ?_
    refine blockJ_hit ?_
    refine thenJ_normal ?_
    refine H_seq ?_
    refine R0 ?_
    refine xV (e_mv (v := .int _ _) (q0 rfl)) rfl rfl ?_
    refine xV (e_as (v := .int _ _) (q0 rfl)) rfl rfl ?_
    refine XN ?_
    refine thenJ_normal ?_
    refine H_ret ?_
    exact ret1 (v := .int _ _) rfl rfl rfl fun w' hw => ⟨ret_int (by rw [hkn, ← hl, List.take_length]), hw.1⟩

theorem pairs_mem {es : List MapEntry} {ps : List (Int × Value)} (h : PairsAre es ps) : (∀ e ∈ es, ∃ p ∈ ps, pairIs e p) ∧ (∀ p ∈ ps, ∃ e ∈ es, pairIs e p) := by
  induction h with
  | nil => exact ⟨fun _ h => by simp at h, fun _ h => by simp at h⟩
  | cons h1 _ ih =>
    refine ⟨fun e he => ?_, fun p hp => ?_⟩
    · rcases List.mem_cons.1 he with rfl | he
      · exact ⟨_, List.mem_cons_self .., h1⟩
      · obtain ⟨p, hp, hq⟩ := ih.1 e he
        exact ⟨p, List.mem_cons_of_mem _ hp, hq⟩
    · rcases List.mem_cons.1 hp with rfl | hp
      · exact ⟨_, List.mem_cons_self .., h1⟩
      · obtain ⟨e, he, hq⟩ := ih.2 p hp
        exact ⟨e, List.mem_cons_of_mem _ he, hq⟩
theorem left_less (es : List MapEntry) (seen : Array Nat) (e : MapEntry) (he : e ∈ es) (hs : seen.contains e.born = false) : (es.filter fun x => !(seen.push e.born).contains x.born).length < (es.filter fun x => !seen.contains x.born).length := by
  have hsub : ∀ x : MapEntry, (!(seen.push e.born).contains x.born) = true → (!seen.contains x.born) = true := fun x hx => by
    simp at hx ⊢; exact hx.1
  have key : ∀ l : List MapEntry, e ∈ l → (l.filter fun x => !(seen.push e.born).contains x.born).length < (l.filter fun x => !seen.contains x.born).length := by
    intro l
    induction l with
    | nil => intro h; cases h
    | cons y l ih =>
      intro hm
      have hle : ∀ l : List MapEntry, (l.filter fun x => !(seen.push e.born).contains x.born).length ≤ (l.filter fun x => !seen.contains x.born).length := by
        intro l
        induction l with
        | nil => simp
        | cons z l ih2 =>
          simp only [List.filter_cons]
          split
          · rename_i h; rw [if_pos (hsub z h)]; simp only [List.length_cons]; omega
          · split
            · simp only [List.length_cons]; omega
            · exact ih2
      rcases List.mem_cons.1 hm with rfl | hm
      · simp only [List.filter_cons]
        rw [if_neg (by simp), if_pos (by simpa using hs)]
        have := hle l
        simp only [List.length_cons]; omega
      · have := ih hm
        simp only [List.filter_cons]
        split
        · rename_i h; rw [if_pos (hsub y h)]; simp only [List.length_cons]; omega
        · split
          · simp only [List.length_cons]; omega
          · exact this
  exact key es he
theorem born_inj {es : List MapEntry} {clock : Nat} (h : BornOk es clock) {x y : MapEntry} (hx : x ∈ es) (hy : y ∈ es) (he : x.born = y.born) : x = y := by
  obtain ⟨i, hi, rfl⟩ := List.getElem_of_mem hx
  obtain ⟨j, hj, rfl⟩ := List.getElem_of_mem hy
  have := List.pairwise_iff_getElem.1 h.asc
  rcases Nat.lt_trichotomy i j with h1 | h1 | h1
  · have := this i j hi hj h1; omega
  · subst h1; rfl
  · have := this j i hj hi h1; omega
theorem riding_w {f : Fl} {a : FA} {s : SA} {t : TS} (rider : Int) (w : World) (h : StAt w f a s t) : Calls Try.prog 85 #[.pointer (some ⟨s.sb, 0, none⟩), .int .i64 rider] w fun e w' => e = .returned (.bool (ridingP t.open_ rider)) ∧ Bel w w' := by
  have hlt := h.lt
  have hrow := h.row
  obtain ⟨es, clock, hmap, hpairs, hB⟩ := h.open_
  have hmlt : s.m < w.heap.size := (Array.getElem?_eq_some_iff.1 hmap).1
  have hmm : ∀ (L : List E.Item) w', Mem w L w' → w'.heap[s.m]? = some (.map es clock) := fun L w' hw => (hw.1.block s.m hmlt).trans hmap
  obtain ⟨hp1, hp2⟩ := pairs_mem hpairs
  refine H_enter Try.func85 rfl Try.ntmps85 rfl ?_
  refine H_seq ?_
  refine R0 ?_
  refine xV (e_as (v := .bool _) (q0 rfl)) rfl rfl ?_
  refine XN ?_
  refine thenJ_normal ?_
  refine H_seq ?_
  refine H_seq ?_
  refine R0 ?_
  refine xV (e_mv (v := .pointer _) (q0 rfl)) rfl rfl ?_
  refine xV (e_nilc (q0 rfl)) rfl rfl ?_
  refine xV (e_fld Try.underlying86 rfl Try.sizeOf83 rfl (q0 rfl)) rfl rfl ?_
  refine xV (e_ld Try.isAgg83 (q0 rfl) (by first | exact bx 0 rfl rfl | exact bx 1 rfl rfl | exact bx 2 rfl rfl | exact bx 3 rfl rfl | exact bx 4 rfl rfl | exact bx 5 rfl rfl | exact bx 6 rfl rfl | exact bx 7 rfl rfl | exact bx 8 rfl rfl | exact bx 9 rfl rfl | exact rc ‹_› ‹_› rfl | exact rc0 ‹_› ‹_› rfl | exact xc ‹_› ‹_› | exact rr 0 rfl ‹_› rfl | exact rr0 0 rfl ‹_› rfl | exact rr 1 rfl ‹_› rfl | exact rr0 1 rfl ‹_› rfl | exact rr 2 rfl ‹_› rfl | exact rr0 2 rfl ‹_› rfl | exact rr 3 rfl ‹_› rfl | exact rr0 3 rfl ‹_› rfl | exact rr 4 rfl ‹_› rfl | exact rr0 4 rfl ‹_› rfl | exact rr 5 rfl ‹_› rfl | exact rr0 5 rfl ‹_› rfl | exact rr 6 rfl ‹_› rfl | exact rr0 6 rfl ‹_› rfl | exact rr 7 rfl ‹_› rfl | exact rr0 7 rfl ‹_› rfl)) rfl rfl ?_
  refine X_eff (f_range Try.underlying83 (hmm _) rfl rfl fun r => ?_)
  refine XN ?_
  refine thenJ_normal ?_
  refine H_block ?_
  refine H_loop [4, 6, 12, 13, 14, 15, 16, 17, 18, 19, 20, 21] (fun _ : Array Nat => []) (fun seen => [mit r s.m clock seen clock]) (fun seen => ∀ e ∈ es.toList, seen.contains e.born = true → ∀ b tr, (e.val = .pointer (some ⟨b, 0, none⟩)) → (∃ k, (k, b, tr) ∈ t.ps) → tr.rider ≠ rider) (fun seen => (es.toList.filter fun x => !seen.contains x.born).length) #[] trivial (fun _ h => h) rfl (fun e _ hc => by simp at hc) ?_
  rintro seen g hinv
  refine H_seq ?_
  refine R0 ?_
  refine X_eff (f_next 0 (hmm _) hB rfl rfl (Nat.le_refl _) rfl (fun hall => ?_) (fun e he hs => ?_))
  · refine xV (e_ext (q0 rfl) rfl) rfl rfl ?_
    refine XN ?_
    refine thenJ_normal ?_
    refine H_seq ?_
    refine H_cond rfl (fun hb => ?_) (fun hb => ?_)
    · cases hb
    · refine H_exit ?_
      refine thenJ_exit ?_
      refine loopJ_exit ?_
      refine blockJ_hit ?_
      refine thenJ_normal ?_
      refine H_seq ?_
      refine R0 ?_
      refine xV (e_as (v := .bool _) (q0 rfl)) rfl rfl ?_
      refine XN ?_
      refine thenJ_normal ?_
      refine H_ret ?_
      exact ret1 (v := .bool _) rfl rfl rfl fun w' hw => ⟨ret_bool (by
        unfold ridingP TS.open_
        rw [eq_comm, List.any_eq_false]
        intro p hp
        obtain ⟨q, hq, rfl⟩ := List.mem_map.1 hp
        obtain ⟨e, he, hk, hv⟩ := hp2 (q.1, .pointer (some ⟨q.2.1, 0, none⟩)) (List.mem_map.2 ⟨q, hq, rfl⟩)
        simpa using hinv e he (hall e he) q.2.1 q.2.2 hv ⟨q.1, hq⟩), hw.1⟩
  · obtain ⟨pv, hpv, hk, hv⟩ := hp1 e he
    obtain ⟨q, hq, rfl⟩ := List.mem_map.1 hpv
    obtain ⟨ek, ev', eb⟩ := e
    simp only at hv
    subst hv
    obtain ⟨hql, hqr⟩ := h.trips q hq
    refine xV (e_ext (q0 rfl) rfl) rfl rfl ?_
    refine XN ?_
    refine thenJ_normal ?_
    refine H_seq ?_
    refine H_cond rfl (fun hb => ?_) (fun hb => ?_)
    · refine H_skip ?_
      refine thenJ_normal ?_
      refine H_block ?_
      refine H_seq ?_
      refine R0 ?_
      refine xV (e_entry 0 (hmm _) hB he (q0 rfl) rfl) rfl rfl ?_
      refine xV (e_ext (q0 rfl) rfl) rfl rfl ?_
      refine xV (e_as (v := .pointer _) (q0 rfl)) rfl rfl ?_
      refine XN ?_
      refine thenJ_normal ?_
      refine H_seq ?_
      refine R0 ?_
      refine xV (e_mv (v := .pointer _) (q0 rfl)) rfl rfl ?_
      refine xV (e_nilc (q0 rfl)) rfl rfl ?_
      refine xV (e_fld Try.underlying127 rfl Try.sizeOf3 rfl (q0 rfl)) rfl rfl ?_
      refine xV (e_ld Try.isAgg3 (q0 rfl) (by first | exact bx 0 rfl rfl | exact bx 1 rfl rfl | exact bx 2 rfl rfl | exact bx 3 rfl rfl | exact bx 4 rfl rfl | exact bx 5 rfl rfl | exact bx 6 rfl rfl | exact bx 7 rfl rfl | exact bx 8 rfl rfl | exact bx 9 rfl rfl | exact rc ‹_› ‹_› rfl | exact rc0 ‹_› ‹_› rfl | exact xc ‹_› ‹_› | exact rr 0 rfl ‹_› rfl | exact rr0 0 rfl ‹_› rfl | exact rr 1 rfl ‹_› rfl | exact rr0 1 rfl ‹_› rfl | exact rr 2 rfl ‹_› rfl | exact rr0 2 rfl ‹_› rfl | exact rr 3 rfl ‹_› rfl | exact rr0 3 rfl ‹_› rfl | exact rr 4 rfl ‹_› rfl | exact rr0 4 rfl ‹_› rfl | exact rr 5 rfl ‹_› rfl | exact rr0 5 rfl ‹_› rfl | exact rr 6 rfl ‹_› rfl | exact rr0 6 rfl ‹_› rfl | exact rr 7 rfl ‹_› rfl | exact rr0 7 rfl ‹_› rfl)) rfl rfl ?_
      refine xV (e_mv (v := .int _ _) (q0 rfl)) rfl rfl ?_
      refine xV (e_eq (q0 rfl) (q0 rfl)) rfl rfl ?_
      refine XN ?_
      refine thenJ_normal ?_
      refine H_cond rfl (fun hrd => ?_) (fun hrd => ?_)
      · refine H_seq ?_
        refine R0 ?_
        refine xV (e_as (v := .bool _) (q0 rfl)) rfl rfl ?_
        refine XN ?_
        refine thenJ_normal ?_
        refine H_ret ?_
        refine blockJ_ret ?_
        refine loopJ_ret ?_
        refine blockJ_ret ?_
        refine thenJ_ret ?_
        exact ret1 (v := .bool _) rfl rfl rfl fun w' hw => ⟨ret_bool (by
          unfold ridingP TS.open_
          rw [eq_comm, List.any_eq_true]
          exact ⟨(q.1, q.2.2), List.mem_map.2 ⟨q, hq, rfl⟩, hrd⟩), hw.1⟩
      · refine H_skip ?_
        refine blockJ_normal ?_
        exact loopJ_normal (seen.push eb) (by repeat (first | exact agree_self | exact agree_over | refine agree_upd rfl ?_ | refine agree_updL rfl ?_ | refine agree_over2 rfl ?_)) trivial (fun _ h => h) rfl (fun e' he' hc b tr hb' ⟨k, hk'⟩ => by
          by_cases hs' : seen.contains e'.born = true
          · exact hinv e' he' hs' b tr hb' ⟨k, hk'⟩
          · have hbe : e'.born = eb := by simp at hc hs'; exact hc.resolve_left hs'
            have := born_inj hB he' he hbe
            subst this
            simp only [Value.pointer.injEq, Option.some.injEq, Addr.mk.injEq, and_true] at hb'
            subst hb'
            have h1 := (h.trips _ hk').2 0 (.int .i64 tr.rider) rfl
            have h2 := hqr 0 (.int .i64 q.2.2.rider) rfl
            rw [h1] at h2
            simp only [Option.some.injEq, Value.int.injEq, true_and] at h2
            rw [h2]
            simpa using hrd) (left_less es.toList seen ⟨ek, _, eb⟩ he hs)
    · cases hb

def tripPtr (ps : List (Int × Nat × PT)) (key : Int) : Option Addr := (ps.find? fun p => p.1 == key).map fun p => ⟨p.2.1, 0, none⟩
theorem ptrs_val (ps : List (Int × Nat × PT)) (key : Int) : (mlook (ptrs ps) key).getD (.pointer none) = .pointer (tripPtr ps key) := by
  rw [ptrs_look]; unfold tripPtr
  cases ps.find? (fun p => p.1 == key) <;> rfl
theorem used_val (l : List Int) (key : Int) : (mlook (usedPairs l) key).getD (.bool false) = .bool (usedP l key) := by
  unfold mlook usedPairs usedP
  induction l with
  | nil => rfl
  | cons x l ih =>
    by_cases hx : x = key
    · simp [hx]
    · simp only [List.map_cons, List.any_cons]
      rw [List.find?_cons_of_neg (by simpa using hx), ih]
      simp [hx]
theorem look_plain (ps : List (Int × Nat × PT)) (used : List Int) (sp : List Sp) (key : Int) : lookP (TS.mk sp ps used).open_ key = (ps.find? fun p => p.1 == key).map fun p => p.2.2 := by
  unfold lookP TS.open_
  induction ps with
  | nil => rfl
  | cons p ps ih =>
    by_cases hx : p.1 == key
    · simp [hx]
    · simp only [List.map_cons] at ih ⊢
      rw [List.find?_cons_of_neg (by simpa using hx), List.find?_cons_of_neg (by simpa using hx)]
      exact ih

theorem ck1 {tr : List Int} {s : PS} {e : Ev} {x : Sp} (h : e.kind = 1) (hx : s.spots.getD e.bike.toNat default = x) : checkP tr s e = if (!parkedS x && decide (0 < (countP s.spots 1 e.place : Int))) = true then 22 else refuse (parkedS x) 23 := by
  subst hx; unfold checkP; simp only; rw [if_pos h]
theorem ck2 {tr : List Int} {s : PS} {e : Ev} {x : Sp} (h : e.kind = 2) (hx : s.spots.getD e.bike.toNat default = x) : checkP tr s e = refuse (parkedS x) 23 := by
  subst hx; unfold checkP; simp only; rw [if_neg (by omega), if_pos h]
theorem ck3 {tr : List Int} {s : PS} {e : Ev} {x : Sp} (h : e.kind = 3) (hx : s.spots.getD e.bike.toNat default = x) : checkP tr s e = if parkedS x = false then 23 else if usedP s.used e.ride = true then 6 else refuse (ridingP s.open_ e.rider) 22 := by
  subst hx; unfold checkP; simp only; rw [if_neg (by omega), if_neg (by omega), if_pos h]
theorem ck4 {tr : List Int} {s : PS} {e : Ev} {x : Sp} (h : e.kind = 4) (hx : s.spots.getD e.bike.toNat default = x) : checkP tr s e = match lookP s.open_ e.ride with | none => 7 | some t => if parkedS x = false then 23 else refuse t.paused 12 := by
  subst hx; unfold checkP; simp only; rw [if_neg (by omega), if_neg (by omega), if_neg (by omega), if_pos h]
  rfl
theorem ck5 {tr : List Int} {s : PS} {e : Ev} {x : Sp} (h : e.kind = 5 ∨ e.kind = 6) (hx : s.spots.getD e.bike.toNat default = x) : checkP tr s e = if x.where_ ≠ 3 then 23 else refuse (x.paused == decide (e.kind = 5)) 12 := by
  subst hx; unfold checkP; simp only; rw [if_neg (by omega), if_neg (by omega), if_neg (by omega), if_neg (by omega), if_pos h]
theorem ck7 {tr : List Int} {s : PS} {e : Ev} {x : Sp} (h : e.kind = 7) (hx : s.spots.getD e.bike.toNat default = x) : checkP tr s e = if (decide (x.where_ = 3) || decide (x.where_ = 4)) = true then 23 else refuse (decide (tr.getD e.place.toNat 0 ≤ (countP s.spots 4 e.place : Int))) 24 := by
  subst hx; unfold checkP; simp only; rw [if_neg (by omega), if_neg (by omega), if_neg (by omega), if_neg (by omega), if_neg (by omega), if_pos h]
theorem ck8 {tr : List Int} {s : PS} {e : Ev} {x : Sp} (h : e.kind = 8) (hx : s.spots.getD e.bike.toNat default = x) : checkP tr s e = refuse (decide (x.where_ = 3) || decide (x.where_ = 5)) 23 := by
  subst hx; unfold checkP; simp only; rw [if_neg (by omega), if_neg (by omega), if_neg (by omega), if_neg (by omega), if_neg (by omega), if_neg (by omega), if_pos h]
theorem ck9 {tr : List Int} {s : PS} {e : Ev} {x : Sp} (h : e.kind = 9) (hx : s.spots.getD e.bike.toNat default = x) : checkP tr s e = refuse (decide (x.where_ = 5) || decide (x.where_ = 6)) 23 := by
  subst hx; unfold checkP; simp only; rw [if_neg (by omega), if_neg (by omega), if_neg (by omega), if_neg (by omega), if_neg (by omega), if_neg (by omega), if_neg (by omega), if_pos h]
theorem ck0 {tr : List Int} {s : PS} {e : Ev} (h : e.kind < 1 ∨ 9 < e.kind) : checkP tr s e = 0 := by
  unfold checkP; simp only; rw [if_neg (by omega), if_neg (by omega), if_neg (by omega), if_neg (by omega), if_neg (by omega), if_neg (by omega), if_neg (by omega), if_neg (by omega)]

attribute [local irreducible] parkedS countP refuse ridingP usedP tripPtr
set_option maxRecDepth 20000 in
theorem scheck_w {f : Fl} {a : FA} {s : SA} {t : TS} (e : Ev) (w : World) (h : StAt w f a s t) (hbike : 0 ≤ e.bike ∧ e.bike < s.n) (hpl : e.kind = 7 → 0 ≤ e.place ∧ e.place < f.trucks.length) :
    Calls Try.prog 69 #[.pointer (some ⟨s.sb, 0, none⟩), .agg e.cells.toArray] w fun r w' => r = .returned (.int .i64 (checkP f.trucks t.plain e)) ∧ Bel w w' := by
  have hlt := h.lt
  have hrow := h.row
  obtain ⟨k, hk⟩ : ∃ k : Nat, e.bike = k := ⟨e.bike.toNat, by omega⟩
  have hkn : k < s.n := by omega
  obtain ⟨x, hxk, hrx⟩ := h.spots.row hkn
  have hq : s.q < w.heap.size := by
    obtain ⟨b, off, y, hA, hbl, _, _⟩ := h.spots.at_ hkn
    cases hA; exact hbl
  have hx : t.plain.spots.getD e.bike.toNat default = x := by
    rw [hk, Int.toNat_natCast, List.getD_eq_getElem?_getD]
    show (t.spots[k]?).getD default = x
    rw [hxk]; rfl
  have hopen : ∀ key, lookP t.plain.open_ key = (t.ps.find? fun p => p.1 == key).map fun p => p.2.2 := fun key => look_plain t.ps t.used t.spots key
  refine H_enter Try.func69 rfl Try.ntmps69 rfl ?_
  refine H_seq ?_
  refine R0 ?_
  refine X_box (v := .agg _) rfl rfl fun b3 => ?_
  refine xV (e_as (v := .int _ _) (q0 rfl)) rfl rfl ?_
  refine XN ?_
  refine thenJ_normal ?_
  refine H_seq ?_
  refine RA rfl (by decide +kernel) ?_
  refine aV 0 (by decide +kernel) rfl (e_mv (v := .pointer _) (q0 rfl)) rfl ?_
  refine aV 1 (by decide +kernel) rfl (e_nilc (q0 rfl)) rfl ?_
  refine aV 2 (by decide +kernel) rfl (e_fld Try.underlying86 rfl Try.sizeOf37 rfl (q0 rfl)) rfl ?_
  refine aV 3 (by decide +kernel) rfl (e_ld Try.isAgg37 (q0 rfl) (by first | exact bx 0 rfl rfl | exact bx 1 rfl rfl | exact bx 2 rfl rfl | exact bx 3 rfl rfl | exact bx 4 rfl rfl | exact bx 5 rfl rfl | exact bx 6 rfl rfl | exact bx 7 rfl rfl | exact bx 8 rfl rfl | exact bx 9 rfl rfl | exact rc ‹_› ‹_› rfl | exact rc0 ‹_› ‹_› rfl | exact xc ‹_› ‹_› | exact rr 0 rfl ‹_› rfl | exact rr0 0 rfl ‹_› rfl | exact rr 1 rfl ‹_› rfl | exact rr0 1 rfl ‹_› rfl | exact rr 2 rfl ‹_› rfl | exact rr0 2 rfl ‹_› rfl | exact rr 3 rfl ‹_› rfl | exact rr0 3 rfl ‹_› rfl | exact rr 4 rfl ‹_› rfl | exact rr0 4 rfl ‹_› rfl | exact rr 5 rfl ‹_› rfl | exact rr0 5 rfl ‹_› rfl | exact rr 6 rfl ‹_› rfl | exact rr0 6 rfl ‹_› rfl | exact rr 7 rfl ‹_› rfl | exact rr0 7 rfl ‹_› rfl)) rfl ?_
  refine aV 4 (by decide +kernel) rfl (e_fld Try.underlying67 rfl Try.sizeOf3 rfl (q0 rfl)) rfl ?_
  refine aV 5 (by decide +kernel) rfl (e_ld Try.isAgg3 (q0 rfl) (by first | exact bx 0 rfl rfl | exact bx 1 rfl rfl | exact bx 2 rfl rfl | exact bx 3 rfl rfl | exact bx 4 rfl rfl | exact bx 5 rfl rfl | exact bx 6 rfl rfl | exact bx 7 rfl rfl | exact bx 8 rfl rfl | exact bx 9 rfl rfl | exact rc ‹_› ‹_› rfl | exact rc0 ‹_› ‹_› rfl | exact xc ‹_› ‹_› | exact rr 0 rfl ‹_› rfl | exact rr0 0 rfl ‹_› rfl | exact rr 1 rfl ‹_› rfl | exact rr0 1 rfl ‹_› rfl | exact rr 2 rfl ‹_› rfl | exact rr0 2 rfl ‹_› rfl | exact rr 3 rfl ‹_› rfl | exact rr0 3 rfl ‹_› rfl | exact rr 4 rfl ‹_› rfl | exact rr0 4 rfl ‹_› rfl | exact rr 5 rfl ‹_› rfl | exact rr0 5 rfl ‹_› rfl | exact rr 6 rfl ‹_› rfl | exact rr0 6 rfl ‹_› rfl | exact rr 7 rfl ‹_› rfl | exact rr0 7 rfl ‹_› rfl)) rfl ?_
  refine aV 6 (by decide +kernel) rfl (e_idx k Try.underlying37 Try.sizeOf41 (q0 rfl) (q0 rfl) (fun _ => ⟨hk, hkn⟩)) rfl ?_
  refine aV 7 (by decide +kernel) rfl (e_lds Try.isAgg41 Try.sizeOf41 (q0 rfl) (by first | exact bxs 0 rfl | exact bxs 1 rfl | exact bxs 2 rfl | exact bxs 3 rfl | exact bxs 4 rfl | exact bxs 5 rfl | exact bxs 6 rfl | exact bxs 7 rfl | exact bxs 8 rfl | exact bxs 9 rfl | exact rcs ‹_› ‹_› | exact rrs 0 rfl ‹_› | exact rrs 1 rfl ‹_› | exact rrs 2 rfl ‹_› | exact rrs 3 rfl ‹_› | exact rrs 4 rfl ‹_› | exact rrs 5 rfl ‹_› | exact rrs 6 rfl ‹_› | exact rrs 7 rfl ‹_›) rfl) rfl ?_
  refine rdy1 (i := 8) (by decide +kernel) (sub_drop 0) ?_
  refine aL rfl (f_alloc Try.zeroValue41 rfl fun b5 => ?_)
  refine rdy1 (i := 9) (by decide +kernel) (sub_drop 1) ?_
  (first | refine aL rfl (f_store 0 (v := .agg _) rfl rfl Try.sizeOf41 rfl rfl rfl rfl ?_) | refine aL rfl (f_store 1 (v := .agg _) rfl rfl Try.sizeOf41 rfl rfl rfl rfl ?_) | refine aL rfl (f_store 2 (v := .agg _) rfl rfl Try.sizeOf41 rfl rfl rfl rfl ?_) | refine aL rfl (f_store 3 (v := .agg _) rfl rfl Try.sizeOf41 rfl rfl rfl rfl ?_) | refine aL rfl (f_store 4 (v := .agg _) rfl rfl Try.sizeOf41 rfl rfl rfl rfl ?_) | refine aL rfl (f_store 5 (v := .agg _) rfl rfl Try.sizeOf41 rfl rfl rfl rfl ?_) | refine aL rfl (f_store 6 (v := .agg _) rfl rfl Try.sizeOf41 rfl rfl rfl rfl ?_) | refine aL rfl (f_store 7 (v := .agg _) rfl rfl Try.sizeOf41 rfl rfl rfl rfl ?_) | refine aL rfl (f_store 8 (v := .agg _) rfl rfl Try.sizeOf41 rfl rfl rfl rfl ?_))
  refine aZ (by decide +kernel) (sub_drop 1) ?_
  refine thenJ_normal ?_
  refine H_seq ?_
  refine R1 rfl (by decide +kernel) ?_
  refine xV (e_mv (v := .pointer _) (q0 rfl)) rfl rfl ?_
  refine xV (e_nilc (q0 rfl)) rfl rfl ?_
  refine xV (e_fld Try.underlying86 rfl Try.sizeOf83 rfl (q0 rfl)) rfl rfl ?_
  refine xV (e_ld Try.isAgg83 (q0 rfl) (by first | exact bx 0 rfl rfl | exact bx 1 rfl rfl | exact bx 2 rfl rfl | exact bx 3 rfl rfl | exact bx 4 rfl rfl | exact bx 5 rfl rfl | exact bx 6 rfl rfl | exact bx 7 rfl rfl | exact bx 8 rfl rfl | exact bx 9 rfl rfl | exact rc ‹_› ‹_› rfl | exact rc0 ‹_› ‹_› rfl | exact xc ‹_› ‹_› | exact rr 0 rfl ‹_› rfl | exact rr0 0 rfl ‹_› rfl | exact rr 1 rfl ‹_› rfl | exact rr0 1 rfl ‹_› rfl | exact rr 2 rfl ‹_› rfl | exact rr0 2 rfl ‹_› rfl | exact rr 3 rfl ‹_› rfl | exact rr0 3 rfl ‹_› rfl | exact rr 4 rfl ‹_› rfl | exact rr0 4 rfl ‹_› rfl | exact rr 5 rfl ‹_› rfl | exact rr0 5 rfl ‹_› rfl | exact rr 6 rfl ‹_› rfl | exact rr0 6 rfl ‹_› rfl | exact rr 7 rfl ‹_› rfl | exact rr0 7 rfl ‹_› rfl)) rfl rfl ?_
  refine xV (e_fld Try.underlying67 rfl Try.sizeOf3 rfl (q0 rfl)) rfl rfl ?_
  refine xV (e_ld Try.isAgg3 (q0 rfl) (by first | exact bx 0 rfl rfl | exact bx 1 rfl rfl | exact bx 2 rfl rfl | exact bx 3 rfl rfl | exact bx 4 rfl rfl | exact bx 5 rfl rfl | exact bx 6 rfl rfl | exact bx 7 rfl rfl | exact bx 8 rfl rfl | exact bx 9 rfl rfl | exact rc ‹_› ‹_› rfl | exact rc0 ‹_› ‹_› rfl | exact xc ‹_› ‹_› | exact rr 0 rfl ‹_› rfl | exact rr0 0 rfl ‹_› rfl | exact rr 1 rfl ‹_› rfl | exact rr0 1 rfl ‹_› rfl | exact rr 2 rfl ‹_› rfl | exact rr0 2 rfl ‹_› rfl | exact rr 3 rfl ‹_› rfl | exact rr0 3 rfl ‹_› rfl | exact rr 4 rfl ‹_› rfl | exact rr0 4 rfl ‹_› rfl | exact rr 5 rfl ‹_› rfl | exact rr0 5 rfl ‹_› rfl | exact rr 6 rfl ‹_› rfl | exact rr0 6 rfl ‹_› rfl | exact rr 7 rfl ‹_› rfl | exact rr0 7 rfl ‹_› rfl)) rfl rfl ?_
  refine xV (e_lookG Try.underlying83 Try.underlying3 Try.zeroValue123 (q0 rfl) (q0 rfl) (h.open_.mem) (fun _ => ptrs_val t.ps e.ride)) rfl rfl ?_
  refine xV (e_as (v := .pointer _) (q0 rfl)) rfl rfl ?_
  refine XN ?_
  refine thenJ_normal ?_
  refine H_seq ?_
  refine R0 ?_
  refine xV (e_as (q0 rfl)) rfl rfl ?_
  refine XN ?_
  refine thenJ_normal ?_
  refine H_seq ?_
  refine H_seq ?_
  refine R0 ?_
  refine xV (e_fld Try.underlying67 rfl Try.sizeOf3 rfl (q0 rfl)) rfl rfl ?_
  refine xV (e_ld Try.isAgg3 (q0 rfl) (by first | exact bx 0 rfl rfl | exact bx 1 rfl rfl | exact bx 2 rfl rfl | exact bx 3 rfl rfl | exact bx 4 rfl rfl | exact bx 5 rfl rfl | exact bx 6 rfl rfl | exact bx 7 rfl rfl | exact bx 8 rfl rfl | exact bx 9 rfl rfl | exact rc ‹_› ‹_› rfl | exact rc0 ‹_› ‹_› rfl | exact xc ‹_› ‹_› | exact rr 0 rfl ‹_› rfl | exact rr0 0 rfl ‹_› rfl | exact rr 1 rfl ‹_› rfl | exact rr0 1 rfl ‹_› rfl | exact rr 2 rfl ‹_› rfl | exact rr0 2 rfl ‹_› rfl | exact rr 3 rfl ‹_› rfl | exact rr0 3 rfl ‹_› rfl | exact rr 4 rfl ‹_› rfl | exact rr0 4 rfl ‹_› rfl | exact rr 5 rfl ‹_› rfl | exact rr0 5 rfl ‹_› rfl | exact rr 6 rfl ‹_› rfl | exact rr0 6 rfl ‹_› rfl | exact rr 7 rfl ‹_› rfl | exact rr0 7 rfl ‹_› rfl)) rfl rfl ?_
  refine XN ?_
  refine thenJ_normal ?_
  refine H_block ?_
  refine H_seq ?_
  refine H_block ?_
  refine H_seq ?_
  refine H_block ?_
  refine H_seq ?_
  refine H_block ?_
  refine H_seq ?_
  refine H_block ?_
  refine H_seq ?_
  refine H_block ?_
  refine H_seq ?_
  refine H_block ?_
  refine H_seq ?_
  refine H_block ?_
  refine H_seq ?_
  refine H_block ?_
  refine H_seq ?_
  refine H_seq ?_
  refine H_seq ?_
  refine R0 ?_
  refine xV (e_eq (q0 rfl) (q0 rfl)) rfl rfl ?_
  refine xV (e_as (v := .bool _) (q0 rfl)) rfl rfl ?_
  refine XN ?_
  refine thenJ_normal ?_
  refine H_cond rfl (fun h1 => ?_) (fun h1 => ?_)
  · have hk1 : e.kind = 1 := by simpa using h1
    refine H_exit ?_
    refine thenJ_exit ?_
    refine thenJ_exit ?_
    refine blockJ_hit ?_
    refine thenJ_normal ?_
    refine H_seq ?_
    refine R0 ?_
    refine xV (e_lds Try.isAgg41 Try.sizeOf41 (q0 rfl) (by first | exact bxs 0 rfl | exact bxs 1 rfl | exact bxs 2 rfl | exact bxs 3 rfl | exact bxs 4 rfl | exact bxs 5 rfl | exact bxs 6 rfl | exact bxs 7 rfl | exact bxs 8 rfl | exact bxs 9 rfl | exact rcs ‹_› ‹_› | exact rrs 0 rfl ‹_› | exact rrs 1 rfl ‹_› | exact rrs 2 rfl ‹_› | exact rrs 3 rfl ‹_› | exact rrs 4 rfl ‹_› | exact rrs 5 rfl ‹_› | exact rrs 6 rfl ‹_› | exact rrs 7 rfl ‹_›) rfl) rfl rfl ?_
    refine xC (en Try.call84 (ha1 (q0 rfl))) (fun _ w _ => parked_w x w) rfl rfl ?_
    refine xV (e_not (q0 rfl)) rfl rfl ?_
    refine xV (e_mv (v := .bool _) (q0 rfl)) rfl rfl ?_
    refine xVT (e_mv (v := .pointer _) (q0 rfl)) rfl rfl rfl rfl ?_
    refine xVT (e_fld Try.underlying67 rfl Try.sizeOf3 rfl (q0 rfl)) rfl rfl rfl rfl ?_
    refine xVT (e_ld Try.isAgg3 (q1 rfl) (by first | exact bx 0 rfl rfl | exact bx 1 rfl rfl | exact bx 2 rfl rfl | exact bx 3 rfl rfl | exact bx 4 rfl rfl | exact bx 5 rfl rfl | exact bx 6 rfl rfl | exact bx 7 rfl rfl | exact bx 8 rfl rfl | exact bx 9 rfl rfl | exact rc ‹_› ‹_› rfl | exact rc0 ‹_› ‹_› rfl | exact xc ‹_› ‹_› | exact rr 0 rfl ‹_› rfl | exact rr0 0 rfl ‹_› rfl | exact rr 1 rfl ‹_› rfl | exact rr0 1 rfl ‹_› rfl | exact rr 2 rfl ‹_› rfl | exact rr0 2 rfl ‹_› rfl | exact rr 3 rfl ‹_› rfl | exact rr0 3 rfl ‹_› rfl | exact rr 4 rfl ‹_› rfl | exact rr0 4 rfl ‹_› rfl | exact rr 5 rfl ‹_› rfl | exact rr0 5 rfl ‹_› rfl | exact rr 6 rfl ‹_› rfl | exact rr0 6 rfl ‹_› rfl | exact rr 7 rfl ‹_› rfl | exact rr0 7 rfl ‹_› rfl)) rfl rfl rfl rfl ?_
    refine xCT (en Try.call52 (ha3 (q1 (v := .pointer _) rfl) (q0 rfl) (q1 (v := .int _ _) rfl))) (fun _ w hm => count_w 1 e.place w (h.mem hm)) rfl rfl rfl rfl ?_
    refine xVT (e_gt (q1 rfl) (q0 rfl)) rfl rfl rfl rfl ?_
    refine xV (e_and (q0 rfl) rfl (fun h => by first | rfl | (rw [h]; rfl))) rfl rfl ?_
    refine XN ?_
    refine thenJ_normal ?_
    refine H_cond rfl (fun hb => ?_) (fun hb => ?_)
    · refine H_seq ?_
      refine R0 ?_
      refine xV (e_as (v := .int _ _) (q0 rfl)) rfl rfl ?_
      refine XN ?_
      refine thenJ_normal ?_
      refine H_ret ?_
      refine blockJ_ret ?_
      refine thenJ_ret ?_
      refine blockJ_ret ?_
      refine thenJ_ret ?_
      refine blockJ_ret ?_
      refine thenJ_ret ?_
      refine blockJ_ret ?_
      refine thenJ_ret ?_
      refine blockJ_ret ?_
      refine thenJ_ret ?_
      refine blockJ_ret ?_
      refine thenJ_ret ?_
      refine blockJ_ret ?_
      refine thenJ_ret ?_
      refine blockJ_ret ?_
      refine thenJ_ret ?_
      exact ret1 (v := .int _ _) rfl rfl rfl fun w' hw => ⟨ret_int (by rw [ck1 hk1 hx]; exact (if_pos hb).symm), hw.1⟩
    · refine H_skip ?_
      refine blockJ_normal ?_
      refine thenJ_normal ?_
      refine H_seq ?_
      refine H_seq ?_
      refine R0 ?_
      refine xV (e_mv (q0 rfl)) rfl rfl ?_
      refine xV (e_lds Try.isAgg41 Try.sizeOf41 (q0 rfl) (by first | exact bxs 0 rfl | exact bxs 1 rfl | exact bxs 2 rfl | exact bxs 3 rfl | exact bxs 4 rfl | exact bxs 5 rfl | exact bxs 6 rfl | exact bxs 7 rfl | exact bxs 8 rfl | exact bxs 9 rfl | exact rcs ‹_› ‹_› | exact rrs 0 rfl ‹_› | exact rrs 1 rfl ‹_› | exact rrs 2 rfl ‹_› | exact rrs 3 rfl ‹_› | exact rrs 4 rfl ‹_› | exact rrs 5 rfl ‹_› | exact rrs 6 rfl ‹_› | exact rrs 7 rfl ‹_›) rfl) rfl rfl ?_
      refine xC (en Try.call84 (ha1 (q0 rfl))) (fun _ w _ => parked_w x w) rfl rfl ?_
      refine xC (enV Try.call83 (q0 rfl) (fun _ => rfl)) (fun _ w _ => refused_w (parkedS x) 23 w) rfl rfl ?_
      refine xV (e_as (v := .int _ _) (q0 rfl)) rfl rfl ?_
      refine XN ?_
      refine thenJ_normal ?_
      refine H_ret ?_
      refine thenJ_ret ?_
      refine blockJ_ret ?_
      refine thenJ_ret ?_
      refine blockJ_ret ?_
      refine thenJ_ret ?_
      refine blockJ_ret ?_
      refine thenJ_ret ?_
      refine blockJ_ret ?_
      refine thenJ_ret ?_
      refine blockJ_ret ?_
      refine thenJ_ret ?_
      refine blockJ_ret ?_
      refine thenJ_ret ?_
      refine blockJ_ret ?_
      refine thenJ_ret ?_
      exact ret1 (v := .int _ _) rfl rfl rfl fun w' hw => ⟨ret_int (by rw [ck1 hk1 hx]; exact (if_neg (show ¬ (!parkedS x && decide (0 < (countP t.spots 1 e.place : Int))) = true by rw [hb]; decide)).symm), hw.1⟩
  · refine H_skip ?_
    refine thenJ_normal ?_
    refine H_seq ?_
    refine H_seq ?_
    refine R0 ?_
    refine xV (e_eq (q0 rfl) (q0 rfl)) rfl rfl ?_
    refine xV (e_as (v := .bool _) (q0 rfl)) rfl rfl ?_
    refine XN ?_
    refine thenJ_normal ?_
    refine H_cond rfl (fun h2 => ?_) (fun h2 => ?_)
    · have hk2 : e.kind = 2 := by simpa using h2
      refine H_exit ?_
      refine thenJ_exit ?_
      refine thenJ_exit ?_
      refine blockJ_pass rfl ?_
      refine thenJ_exit ?_
      refine blockJ_hit ?_
      refine thenJ_normal ?_
      refine H_seq ?_
      refine H_seq ?_
      refine R0 ?_
      refine xV (e_mv (q0 rfl)) rfl rfl ?_
      refine xV (e_lds Try.isAgg41 Try.sizeOf41 (q0 rfl) (by first | exact bxs 0 rfl | exact bxs 1 rfl | exact bxs 2 rfl | exact bxs 3 rfl | exact bxs 4 rfl | exact bxs 5 rfl | exact bxs 6 rfl | exact bxs 7 rfl | exact bxs 8 rfl | exact bxs 9 rfl | exact rcs ‹_› ‹_› | exact rrs 0 rfl ‹_› | exact rrs 1 rfl ‹_› | exact rrs 2 rfl ‹_› | exact rrs 3 rfl ‹_› | exact rrs 4 rfl ‹_› | exact rrs 5 rfl ‹_› | exact rrs 6 rfl ‹_› | exact rrs 7 rfl ‹_›) rfl) rfl rfl ?_
      refine xC (en Try.call84 (ha1 (q0 rfl))) (fun _ w _ => parked_w x w) rfl rfl ?_
      refine xC (enV Try.call83 (q0 rfl) (fun _ => rfl)) (fun _ w _ => refused_w (parkedS x) 23 w) rfl rfl ?_
      refine xV (e_as (v := .int _ _) (q0 rfl)) rfl rfl ?_
      refine XN ?_
      refine thenJ_normal ?_
      refine H_ret ?_
      refine thenJ_ret ?_
      refine blockJ_ret ?_
      refine thenJ_ret ?_
      refine blockJ_ret ?_
      refine thenJ_ret ?_
      refine blockJ_ret ?_
      refine thenJ_ret ?_
      refine blockJ_ret ?_
      refine thenJ_ret ?_
      refine blockJ_ret ?_
      refine thenJ_ret ?_
      refine blockJ_ret ?_
      refine thenJ_ret ?_
      refine blockJ_ret ?_
      refine thenJ_ret ?_
      exact ret1 (v := .int _ _) rfl rfl rfl fun w' hw => ⟨ret_int (ck2 hk2 hx).symm, hw.1⟩
    · refine H_skip ?_
      refine thenJ_normal ?_
      refine H_seq ?_
      refine H_seq ?_
      refine R0 ?_
      refine xV (e_eq (q0 rfl) (q0 rfl)) rfl rfl ?_
      refine xV (e_as (v := .bool _) (q0 rfl)) rfl rfl ?_
      refine XN ?_
      refine thenJ_normal ?_
      refine H_cond rfl (fun h3 => ?_) (fun h3 => ?_)
      · have hk3 : e.kind = 3 := by simpa using h3
        refine H_exit ?_
        refine thenJ_exit ?_
        refine thenJ_exit ?_
        refine blockJ_pass rfl ?_
        refine thenJ_exit ?_
        refine blockJ_pass rfl ?_
        refine thenJ_exit ?_
        refine blockJ_hit ?_
        refine thenJ_normal ?_
        refine H_seq ?_
        refine H_seq ?_
        refine H_block ?_
        refine H_seq ?_
        refine R0 ?_
        refine xV (e_lds Try.isAgg41 Try.sizeOf41 (q0 rfl) (by first | exact bxs 0 rfl | exact bxs 1 rfl | exact bxs 2 rfl | exact bxs 3 rfl | exact bxs 4 rfl | exact bxs 5 rfl | exact bxs 6 rfl | exact bxs 7 rfl | exact bxs 8 rfl | exact bxs 9 rfl | exact rcs ‹_› ‹_› | exact rrs 0 rfl ‹_› | exact rrs 1 rfl ‹_› | exact rrs 2 rfl ‹_› | exact rrs 3 rfl ‹_› | exact rrs 4 rfl ‹_› | exact rrs 5 rfl ‹_› | exact rrs 6 rfl ‹_› | exact rrs 7 rfl ‹_›) rfl) rfl rfl ?_
        refine xC (en Try.call84 (ha1 (q0 rfl))) (fun _ w _ => parked_w x w) rfl rfl ?_
        refine xV (e_not (q0 rfl)) rfl rfl ?_
        refine xV (e_as (v := .bool _) (q0 rfl)) rfl rfl ?_
        refine XN ?_
        refine thenJ_normal ?_
        refine H_cond rfl (fun hb => ?_) (fun hb => ?_)
        · refine H_seq ?_
          refine R0 ?_
          refine xV (e_as (v := .int _ _) (q0 rfl)) rfl rfl ?_
          refine XN ?_
          refine thenJ_normal ?_
          refine H_ret ?_
          refine blockJ_ret ?_
          refine thenJ_ret ?_
          refine thenJ_ret ?_
          refine blockJ_ret ?_
          refine thenJ_ret ?_
          refine blockJ_ret ?_
          refine thenJ_ret ?_
          refine blockJ_ret ?_
          refine thenJ_ret ?_
          refine blockJ_ret ?_
          refine thenJ_ret ?_
          refine blockJ_ret ?_
          refine thenJ_ret ?_
          refine blockJ_ret ?_
          refine thenJ_ret ?_
          exact ret1 (v := .int _ _) rfl rfl rfl fun w' hw => ⟨ret_int (by rw [ck3 hk3 hx]; exact (if_pos (by simpa using hb)).symm), hw.1⟩
        · refine H_seq ?_
          refine R1 rfl (by decide +kernel) ?_
          refine xV (e_mv (v := .pointer _) (q0 rfl)) rfl rfl ?_
          refine xV (e_nilc (q0 rfl)) rfl rfl ?_
          refine xV (e_fld Try.underlying86 rfl Try.sizeOf84 rfl (q0 rfl)) rfl rfl ?_
          refine xV (e_ld Try.isAgg84 (q0 rfl) (by first | exact bx 0 rfl rfl | exact bx 1 rfl rfl | exact bx 2 rfl rfl | exact bx 3 rfl rfl | exact bx 4 rfl rfl | exact bx 5 rfl rfl | exact bx 6 rfl rfl | exact bx 7 rfl rfl | exact bx 8 rfl rfl | exact bx 9 rfl rfl | exact rc ‹_› ‹_› rfl | exact rc0 ‹_› ‹_› rfl | exact xc ‹_› ‹_› | exact rr 0 rfl ‹_› rfl | exact rr0 0 rfl ‹_› rfl | exact rr 1 rfl ‹_› rfl | exact rr0 1 rfl ‹_› rfl | exact rr 2 rfl ‹_› rfl | exact rr0 2 rfl ‹_› rfl | exact rr 3 rfl ‹_› rfl | exact rr0 3 rfl ‹_› rfl | exact rr 4 rfl ‹_› rfl | exact rr0 4 rfl ‹_› rfl | exact rr 5 rfl ‹_› rfl | exact rr0 5 rfl ‹_› rfl | exact rr 6 rfl ‹_› rfl | exact rr0 6 rfl ‹_› rfl | exact rr 7 rfl ‹_› rfl | exact rr0 7 rfl ‹_› rfl)) rfl rfl ?_
          refine xV (e_fld Try.underlying67 rfl Try.sizeOf3 rfl (q0 rfl)) rfl rfl ?_
          refine xV (e_ld Try.isAgg3 (q0 rfl) (by first | exact bx 0 rfl rfl | exact bx 1 rfl rfl | exact bx 2 rfl rfl | exact bx 3 rfl rfl | exact bx 4 rfl rfl | exact bx 5 rfl rfl | exact bx 6 rfl rfl | exact bx 7 rfl rfl | exact bx 8 rfl rfl | exact bx 9 rfl rfl | exact rc ‹_› ‹_› rfl | exact rc0 ‹_› ‹_› rfl | exact xc ‹_› ‹_› | exact rr 0 rfl ‹_› rfl | exact rr0 0 rfl ‹_› rfl | exact rr 1 rfl ‹_› rfl | exact rr0 1 rfl ‹_› rfl | exact rr 2 rfl ‹_› rfl | exact rr0 2 rfl ‹_› rfl | exact rr 3 rfl ‹_› rfl | exact rr0 3 rfl ‹_› rfl | exact rr 4 rfl ‹_› rfl | exact rr0 4 rfl ‹_› rfl | exact rr 5 rfl ‹_› rfl | exact rr0 5 rfl ‹_› rfl | exact rr 6 rfl ‹_› rfl | exact rr0 6 rfl ‹_› rfl | exact rr 7 rfl ‹_› rfl | exact rr0 7 rfl ‹_› rfl)) rfl rfl ?_
          refine xV (e_lookG Try.underlying84 Try.underlying3 Try.zeroValue4 (q0 rfl) (q0 rfl) (h.used.mem) (fun _ => used_val t.used e.ride)) rfl rfl ?_
          refine xV (e_as (v := .bool _) (q0 rfl)) rfl rfl ?_
          refine XN ?_
          refine thenJ_normal ?_
          refine H_cond rfl (fun hu => ?_) (fun hu => ?_)
          · refine H_seq ?_
            refine R0 ?_
            refine xV (e_as (v := .int _ _) (q0 rfl)) rfl rfl ?_
            refine XN ?_
            refine thenJ_normal ?_
            refine H_ret ?_
            refine blockJ_ret ?_
            refine thenJ_ret ?_
            refine thenJ_ret ?_
            refine blockJ_ret ?_
            refine thenJ_ret ?_
            refine blockJ_ret ?_
            refine thenJ_ret ?_
            refine blockJ_ret ?_
            refine thenJ_ret ?_
            refine blockJ_ret ?_
            refine thenJ_ret ?_
            refine blockJ_ret ?_
            refine thenJ_ret ?_
            refine blockJ_ret ?_
            refine thenJ_ret ?_
            exact ret1 (v := .int _ _) rfl rfl rfl fun w' hw => ⟨ret_int (by rw [ck3 hk3 hx, if_neg (by simpa using hb)]; exact (if_pos hu).symm), hw.1⟩
          · refine H_skip ?_
            refine blockJ_normal ?_
            refine thenJ_normal ?_
            refine H_seq ?_
            refine R0 ?_
            refine xV (e_mv (q0 rfl)) rfl rfl ?_
            refine xV (e_mv (v := .pointer _) (q0 rfl)) rfl rfl ?_
            refine xV (e_fld Try.underlying67 rfl Try.sizeOf3 rfl (q0 rfl)) rfl rfl ?_
            refine xV (e_ld Try.isAgg3 (q0 rfl) (by first | exact bx 0 rfl rfl | exact bx 1 rfl rfl | exact bx 2 rfl rfl | exact bx 3 rfl rfl | exact bx 4 rfl rfl | exact bx 5 rfl rfl | exact bx 6 rfl rfl | exact bx 7 rfl rfl | exact bx 8 rfl rfl | exact bx 9 rfl rfl | exact rc ‹_› ‹_› rfl | exact rc0 ‹_› ‹_› rfl | exact xc ‹_› ‹_› | exact rr 0 rfl ‹_› rfl | exact rr0 0 rfl ‹_› rfl | exact rr 1 rfl ‹_› rfl | exact rr0 1 rfl ‹_› rfl | exact rr 2 rfl ‹_› rfl | exact rr0 2 rfl ‹_› rfl | exact rr 3 rfl ‹_› rfl | exact rr0 3 rfl ‹_› rfl | exact rr 4 rfl ‹_› rfl | exact rr0 4 rfl ‹_› rfl | exact rr 5 rfl ‹_› rfl | exact rr0 5 rfl ‹_› rfl | exact rr 6 rfl ‹_› rfl | exact rr0 6 rfl ‹_› rfl | exact rr 7 rfl ‹_› rfl | exact rr0 7 rfl ‹_› rfl)) rfl rfl ?_
            refine xC (en Try.call85 (ha2 (q0 rfl) (q0 rfl))) (fun _ w hm => riding_w e.rider w (h.mem hm)) rfl rfl ?_
            refine xC (enV Try.call83 (q0 rfl) (fun _ => rfl)) (fun _ w _ => refused_w (ridingP t.open_ e.rider) 22 w) rfl rfl ?_
            refine xV (e_as (v := .int _ _) (q0 rfl)) rfl rfl ?_
            refine XN ?_
            refine thenJ_normal ?_
            refine H_ret ?_
            refine thenJ_ret ?_
            refine blockJ_ret ?_
            refine thenJ_ret ?_
            refine blockJ_ret ?_
            refine thenJ_ret ?_
            refine blockJ_ret ?_
            refine thenJ_ret ?_
            refine blockJ_ret ?_
            refine thenJ_ret ?_
            refine blockJ_ret ?_
            refine thenJ_ret ?_
            refine blockJ_ret ?_
            refine thenJ_ret ?_
            exact ret1 (v := .int _ _) rfl rfl rfl fun w' hw => ⟨ret_int (by rw [ck3 hk3 hx, if_neg (by simpa using hb)]; exact (if_neg (show ¬ usedP t.used e.ride = true by rw [hu]; decide)).symm), hw.1⟩
      · refine H_skip ?_
        refine thenJ_normal ?_
        refine H_seq ?_
        refine H_seq ?_
        refine R0 ?_
        refine xV (e_eq (q0 rfl) (q0 rfl)) rfl rfl ?_
        refine xV (e_as (v := .bool _) (q0 rfl)) rfl rfl ?_
        refine XN ?_
        refine thenJ_normal ?_
        refine H_cond rfl (fun h4 => ?_) (fun h4 => ?_)
        · have hk4 : e.kind = 4 := by simpa using h4
          have hck := ck4 (tr := f.trucks) hk4 hx
          rw [hopen] at hck
          refine H_exit ?_
          refine thenJ_exit ?_
          refine thenJ_exit ?_
          refine blockJ_pass rfl ?_
          refine thenJ_exit ?_
          refine blockJ_pass rfl ?_
          refine thenJ_exit ?_
          refine blockJ_pass rfl ?_
          refine thenJ_exit ?_
          refine blockJ_hit ?_
          refine thenJ_normal ?_
          refine H_seq ?_
          refine H_seq ?_
          refine H_block ?_
          refine H_seq ?_
          refine R0 ?_
          refine xV (e_mv (v := .pointer _) (q0 rfl)) rfl rfl ?_
          refine xV (e_eqNilP Try.underlying123 (q0 rfl)) rfl rfl ?_
          refine xV (e_as (v := .bool _) (q0 rfl)) rfl rfl ?_
          refine XN ?_
          refine thenJ_normal ?_
          refine H_cond rfl (fun hn => ?_) (fun hn => ?_)
          · have hnone : t.ps.find? (fun p => p.1 == e.ride) = none := by
              unfold tripPtr at hn
              cases hf : t.ps.find? (fun p => p.1 == e.ride) with
              | none => rfl
              | some p => rw [hf] at hn; cases hn
            rw [hnone] at hck
            refine H_seq ?_
            refine R0 ?_
            refine xV (e_as (v := .int _ _) (q0 rfl)) rfl rfl ?_
            refine XN ?_
            refine thenJ_normal ?_
            refine H_ret ?_
            refine blockJ_ret ?_
            refine thenJ_ret ?_
            refine thenJ_ret ?_
            refine blockJ_ret ?_
            refine thenJ_ret ?_
            refine blockJ_ret ?_
            refine thenJ_ret ?_
            refine blockJ_ret ?_
            refine thenJ_ret ?_
            refine blockJ_ret ?_
            refine thenJ_ret ?_
            refine blockJ_ret ?_
            refine thenJ_ret ?_
            exact ret1 (v := .int _ _) rfl rfl rfl fun w' hw => ⟨ret_int hck.symm, hw.1⟩
          · obtain ⟨p, hf⟩ : ∃ p, t.ps.find? (fun p => p.1 == e.ride) = some p := by
              unfold tripPtr at hn
              cases hf : t.ps.find? (fun p => p.1 == e.ride) with
              | none => rw [hf] at hn; cases hn
              | some p => exact ⟨p, rfl⟩
            have hptr : tripPtr t.ps e.ride = some ⟨p.2.1, 0, none⟩ := by unfold tripPtr; rw [hf]; rfl
            rw [hf] at hck
            rw [hptr]
            obtain ⟨hql, hqr⟩ := h.trips p (List.mem_of_find?_eq_some hf)
            refine H_seq ?_
            refine R0 ?_
            refine xV (e_lds Try.isAgg41 Try.sizeOf41 (q0 rfl) (by first | exact bxs 0 rfl | exact bxs 1 rfl | exact bxs 2 rfl | exact bxs 3 rfl | exact bxs 4 rfl | exact bxs 5 rfl | exact bxs 6 rfl | exact bxs 7 rfl | exact bxs 8 rfl | exact bxs 9 rfl | exact rcs ‹_› ‹_› | exact rrs 0 rfl ‹_› | exact rrs 1 rfl ‹_› | exact rrs 2 rfl ‹_› | exact rrs 3 rfl ‹_› | exact rrs 4 rfl ‹_› | exact rrs 5 rfl ‹_› | exact rrs 6 rfl ‹_› | exact rrs 7 rfl ‹_›) rfl) rfl rfl ?_
            refine xC (en Try.call84 (ha1 (q0 rfl))) (fun _ w _ => parked_w x w) rfl rfl ?_
            refine xV (e_not (q0 rfl)) rfl rfl ?_
            refine xV (e_as (v := .bool _) (q0 rfl)) rfl rfl ?_
            refine XN ?_
            refine thenJ_normal ?_
            refine H_cond rfl (fun hb => ?_) (fun hb => ?_)
            · refine H_seq ?_
              refine R0 ?_
              refine xV (e_as (v := .int _ _) (q0 rfl)) rfl rfl ?_
              refine XN ?_
              refine thenJ_normal ?_
              refine H_ret ?_
              refine blockJ_ret ?_
              refine thenJ_ret ?_
              refine thenJ_ret ?_
              refine blockJ_ret ?_
              refine thenJ_ret ?_
              refine blockJ_ret ?_
              refine thenJ_ret ?_
              refine blockJ_ret ?_
              refine thenJ_ret ?_
              refine blockJ_ret ?_
              refine thenJ_ret ?_
              refine blockJ_ret ?_
              refine thenJ_ret ?_
              exact ret1 (v := .int _ _) rfl rfl rfl fun w' hw => ⟨ret_int (by rw [hck]; exact (if_pos (by simpa using hb)).symm), hw.1⟩
            · refine H_skip ?_
              refine blockJ_normal ?_
              refine thenJ_normal ?_
              refine H_seq ?_
              refine R0 ?_
              refine xV (e_mv (q0 rfl)) rfl rfl ?_
              refine xV (e_mv (v := .pointer _) (q0 rfl)) rfl rfl ?_
              refine xV (e_nilc (q0 rfl)) rfl rfl ?_
              refine xV (e_fld Try.underlying127 rfl Try.sizeOf4 rfl (q0 rfl)) rfl rfl ?_
              refine xV (e_ld Try.isAgg4 (q0 rfl) (by first | exact bx 0 rfl rfl | exact bx 1 rfl rfl | exact bx 2 rfl rfl | exact bx 3 rfl rfl | exact bx 4 rfl rfl | exact bx 5 rfl rfl | exact bx 6 rfl rfl | exact bx 7 rfl rfl | exact bx 8 rfl rfl | exact bx 9 rfl rfl | exact rc ‹_› ‹_› rfl | exact rc0 ‹_› ‹_› rfl | exact xc ‹_› ‹_› | exact rr 0 rfl ‹_› rfl | exact rr0 0 rfl ‹_› rfl | exact rr 1 rfl ‹_› rfl | exact rr0 1 rfl ‹_› rfl | exact rr 2 rfl ‹_› rfl | exact rr0 2 rfl ‹_› rfl | exact rr 3 rfl ‹_› rfl | exact rr0 3 rfl ‹_› rfl | exact rr 4 rfl ‹_› rfl | exact rr0 4 rfl ‹_› rfl | exact rr 5 rfl ‹_› rfl | exact rr0 5 rfl ‹_› rfl | exact rr 6 rfl ‹_› rfl | exact rr0 6 rfl ‹_› rfl | exact rr 7 rfl ‹_› rfl | exact rr0 7 rfl ‹_› rfl)) rfl rfl ?_
              refine xC (enV Try.call83 (q0 rfl) (fun _ => rfl)) (fun _ w _ => refused_w (p.2.2.paused) 12 w) rfl rfl ?_
              refine xV (e_as (v := .int _ _) (q0 rfl)) rfl rfl ?_
              refine XN ?_
              refine thenJ_normal ?_
              refine H_ret ?_
              refine thenJ_ret ?_
              refine blockJ_ret ?_
              refine thenJ_ret ?_
              refine blockJ_ret ?_
              refine thenJ_ret ?_
              refine blockJ_ret ?_
              refine thenJ_ret ?_
              refine blockJ_ret ?_
              refine thenJ_ret ?_
              refine blockJ_ret ?_
              refine thenJ_ret ?_
              exact ret1 (v := .int _ _) rfl rfl rfl fun w' hw => ⟨ret_int (by rw [hck]; exact (if_neg (by simpa using hb)).symm), hw.1⟩
        · refine H_skip ?_
          refine thenJ_normal ?_
          refine H_seq ?_
          refine H_seq ?_
          refine H_seq ?_
          refine R0 ?_
          refine xV (e_eq (q0 rfl) (q0 rfl)) rfl rfl ?_
          refine xV (e_as (v := .bool _) (q0 rfl)) rfl rfl ?_
          refine XN ?_
          refine thenJ_normal ?_
          refine H_cond rfl (fun h5 => ?_) (fun h5 => ?_)
          · have hk56 : e.kind = 5 ∨ e.kind = 6 := .inl (by simpa using h5)
            refine H_skip ?_
            refine thenJ_normal ?_
            refine H_cond rfl (fun h5b => ?_) (fun h5b => ?_)
            · refine H_exit ?_
              refine thenJ_exit ?_
              refine thenJ_exit ?_
              refine blockJ_pass rfl ?_
              refine thenJ_exit ?_
              refine blockJ_pass rfl ?_
              refine thenJ_exit ?_
              refine blockJ_pass rfl ?_
              refine thenJ_exit ?_
              refine blockJ_pass rfl ?_
              refine thenJ_exit ?_
              refine blockJ_hit ?_
              refine thenJ_normal ?_
              refine H_seq ?_
              refine H_seq ?_
              refine H_seq ?_
              refine R0 ?_
              refine xV (e_fld Try.underlying41 rfl Try.sizeOf3 rfl (q0 rfl)) rfl rfl ?_
              refine xV (e_ld Try.isAgg3 (q0 rfl) (by first | exact bx 0 rfl rfl | exact bx 1 rfl rfl | exact bx 2 rfl rfl | exact bx 3 rfl rfl | exact bx 4 rfl rfl | exact bx 5 rfl rfl | exact bx 6 rfl rfl | exact bx 7 rfl rfl | exact bx 8 rfl rfl | exact bx 9 rfl rfl | exact rc ‹_› ‹_› rfl | exact rc0 ‹_› ‹_› rfl | exact xc ‹_› ‹_› | exact rr 0 rfl ‹_› rfl | exact rr0 0 rfl ‹_› rfl | exact rr 1 rfl ‹_› rfl | exact rr0 1 rfl ‹_› rfl | exact rr 2 rfl ‹_› rfl | exact rr0 2 rfl ‹_› rfl | exact rr 3 rfl ‹_› rfl | exact rr0 3 rfl ‹_› rfl | exact rr 4 rfl ‹_› rfl | exact rr0 4 rfl ‹_› rfl | exact rr 5 rfl ‹_› rfl | exact rr0 5 rfl ‹_› rfl | exact rr 6 rfl ‹_› rfl | exact rr0 6 rfl ‹_› rfl | exact rr 7 rfl ‹_› rfl | exact rr0 7 rfl ‹_› rfl)) rfl rfl ?_
              refine xV (e_ne (q0 rfl) (q0 rfl)) rfl rfl ?_
              refine XN ?_
              refine thenJ_normal ?_
              refine H_cond rfl (fun hb => ?_) (fun hb => ?_)
              · refine H_seq ?_
                refine R0 ?_
                refine xV (e_as (v := .int _ _) (q0 rfl)) rfl rfl ?_
                refine XN ?_
                refine thenJ_normal ?_
                refine H_ret ?_
                refine thenJ_ret ?_
                refine thenJ_ret ?_
                refine blockJ_ret ?_
                refine thenJ_ret ?_
                refine blockJ_ret ?_
                refine thenJ_ret ?_
                refine blockJ_ret ?_
                refine thenJ_ret ?_
                refine blockJ_ret ?_
                refine thenJ_ret ?_
                exact ret1 (v := .int _ _) rfl rfl rfl fun w' hw => ⟨ret_int (by rw [ck5 hk56 hx]; exact (if_pos (by simpa using hb)).symm), hw.1⟩
              · refine H_skip ?_
                refine thenJ_normal ?_
                refine H_seq ?_
                refine R0 ?_
                refine xV (e_mv (q0 rfl)) rfl rfl ?_
                refine xV (e_fld Try.underlying41 rfl Try.sizeOf4 rfl (q0 rfl)) rfl rfl ?_
                refine xV (e_ld Try.isAgg4 (q0 rfl) (by first | exact bx 0 rfl rfl | exact bx 1 rfl rfl | exact bx 2 rfl rfl | exact bx 3 rfl rfl | exact bx 4 rfl rfl | exact bx 5 rfl rfl | exact bx 6 rfl rfl | exact bx 7 rfl rfl | exact bx 8 rfl rfl | exact bx 9 rfl rfl | exact rc ‹_› ‹_› rfl | exact rc0 ‹_› ‹_› rfl | exact xc ‹_› ‹_› | exact rr 0 rfl ‹_› rfl | exact rr0 0 rfl ‹_› rfl | exact rr 1 rfl ‹_› rfl | exact rr0 1 rfl ‹_› rfl | exact rr 2 rfl ‹_› rfl | exact rr0 2 rfl ‹_› rfl | exact rr 3 rfl ‹_› rfl | exact rr0 3 rfl ‹_› rfl | exact rr 4 rfl ‹_› rfl | exact rr0 4 rfl ‹_› rfl | exact rr 5 rfl ‹_› rfl | exact rr0 5 rfl ‹_› rfl | exact rr 6 rfl ‹_› rfl | exact rr0 6 rfl ‹_› rfl | exact rr 7 rfl ‹_› rfl | exact rr0 7 rfl ‹_› rfl)) rfl rfl ?_
                refine xV (e_fld Try.underlying67 rfl Try.sizeOf3 rfl (q0 rfl)) rfl rfl ?_
                refine xV (e_ld Try.isAgg3 (q0 rfl) (by first | exact bx 0 rfl rfl | exact bx 1 rfl rfl | exact bx 2 rfl rfl | exact bx 3 rfl rfl | exact bx 4 rfl rfl | exact bx 5 rfl rfl | exact bx 6 rfl rfl | exact bx 7 rfl rfl | exact bx 8 rfl rfl | exact bx 9 rfl rfl | exact rc ‹_› ‹_› rfl | exact rc0 ‹_› ‹_› rfl | exact xc ‹_› ‹_› | exact rr 0 rfl ‹_› rfl | exact rr0 0 rfl ‹_› rfl | exact rr 1 rfl ‹_› rfl | exact rr0 1 rfl ‹_› rfl | exact rr 2 rfl ‹_› rfl | exact rr0 2 rfl ‹_› rfl | exact rr 3 rfl ‹_› rfl | exact rr0 3 rfl ‹_› rfl | exact rr 4 rfl ‹_› rfl | exact rr0 4 rfl ‹_› rfl | exact rr 5 rfl ‹_› rfl | exact rr0 5 rfl ‹_› rfl | exact rr 6 rfl ‹_› rfl | exact rr0 6 rfl ‹_› rfl | exact rr 7 rfl ‹_› rfl | exact rr0 7 rfl ‹_› rfl)) rfl rfl ?_
                refine xV (e_eq (q0 rfl) (q0 rfl)) rfl rfl ?_
                refine xV (e_eqb Try.underlying4 (q0 rfl) (q0 rfl)) rfl rfl ?_
                refine xC (enV Try.call83 (q0 rfl) (fun _ => rfl)) (fun _ w _ => refused_w (x.paused == decide (e.kind = 5)) 12 w) rfl rfl ?_
                refine xV (e_as (v := .int _ _) (q0 rfl)) rfl rfl ?_
                refine XN ?_
                refine thenJ_normal ?_
                refine H_ret ?_
                refine thenJ_ret ?_
                refine blockJ_ret ?_
                refine thenJ_ret ?_
                refine blockJ_ret ?_
                refine thenJ_ret ?_
                refine blockJ_ret ?_
                refine thenJ_ret ?_
                refine blockJ_ret ?_
                refine thenJ_ret ?_
                exact ret1 (v := .int _ _) rfl rfl rfl fun w' hw => ⟨ret_int (by rw [ck5 hk56 hx]; exact (if_neg (by simpa using hb)).symm), hw.1⟩
            · rw [h5] at h5b; cases h5b
          · refine R0 ?_
            refine xV (e_eq (q0 rfl) (q0 rfl)) rfl rfl ?_
            refine xV (e_as (v := .bool _) (q0 rfl)) rfl rfl ?_
            refine XN ?_
            refine thenJ_normal ?_
            refine H_cond rfl (fun h6 => ?_) (fun h6 => ?_)
            · have hk56 : e.kind = 5 ∨ e.kind = 6 := .inr (by simpa using h6)
              refine H_exit ?_
              refine thenJ_exit ?_
              refine thenJ_exit ?_
              refine blockJ_pass rfl ?_
              refine thenJ_exit ?_
              refine blockJ_pass rfl ?_
              refine thenJ_exit ?_
              refine blockJ_pass rfl ?_
              refine thenJ_exit ?_
              refine blockJ_pass rfl ?_
              refine thenJ_exit ?_
              refine blockJ_hit ?_
              refine thenJ_normal ?_
              refine H_seq ?_
              refine H_seq ?_
              refine H_seq ?_
              refine R0 ?_
              refine xV (e_fld Try.underlying41 rfl Try.sizeOf3 rfl (q0 rfl)) rfl rfl ?_
              refine xV (e_ld Try.isAgg3 (q0 rfl) (by first | exact bx 0 rfl rfl | exact bx 1 rfl rfl | exact bx 2 rfl rfl | exact bx 3 rfl rfl | exact bx 4 rfl rfl | exact bx 5 rfl rfl | exact bx 6 rfl rfl | exact bx 7 rfl rfl | exact bx 8 rfl rfl | exact bx 9 rfl rfl | exact rc ‹_› ‹_› rfl | exact rc0 ‹_› ‹_› rfl | exact xc ‹_› ‹_› | exact rr 0 rfl ‹_› rfl | exact rr0 0 rfl ‹_› rfl | exact rr 1 rfl ‹_› rfl | exact rr0 1 rfl ‹_› rfl | exact rr 2 rfl ‹_› rfl | exact rr0 2 rfl ‹_› rfl | exact rr 3 rfl ‹_› rfl | exact rr0 3 rfl ‹_› rfl | exact rr 4 rfl ‹_› rfl | exact rr0 4 rfl ‹_› rfl | exact rr 5 rfl ‹_› rfl | exact rr0 5 rfl ‹_› rfl | exact rr 6 rfl ‹_› rfl | exact rr0 6 rfl ‹_› rfl | exact rr 7 rfl ‹_› rfl | exact rr0 7 rfl ‹_› rfl)) rfl rfl ?_
              refine xV (e_ne (q0 rfl) (q0 rfl)) rfl rfl ?_
              refine XN ?_
              refine thenJ_normal ?_
              refine H_cond rfl (fun hb => ?_) (fun hb => ?_)
              · refine H_seq ?_
                refine R0 ?_
                refine xV (e_as (v := .int _ _) (q0 rfl)) rfl rfl ?_
                refine XN ?_
                refine thenJ_normal ?_
                refine H_ret ?_
                refine thenJ_ret ?_
                refine thenJ_ret ?_
                refine blockJ_ret ?_
                refine thenJ_ret ?_
                refine blockJ_ret ?_
                refine thenJ_ret ?_
                refine blockJ_ret ?_
                refine thenJ_ret ?_
                refine blockJ_ret ?_
                refine thenJ_ret ?_
                exact ret1 (v := .int _ _) rfl rfl rfl fun w' hw => ⟨ret_int (by rw [ck5 hk56 hx]; exact (if_pos (by simpa using hb)).symm), hw.1⟩
              · refine H_skip ?_
                refine thenJ_normal ?_
                refine H_seq ?_
                refine R0 ?_
                refine xV (e_mv (q0 rfl)) rfl rfl ?_
                refine xV (e_fld Try.underlying41 rfl Try.sizeOf4 rfl (q0 rfl)) rfl rfl ?_
                refine xV (e_ld Try.isAgg4 (q0 rfl) (by first | exact bx 0 rfl rfl | exact bx 1 rfl rfl | exact bx 2 rfl rfl | exact bx 3 rfl rfl | exact bx 4 rfl rfl | exact bx 5 rfl rfl | exact bx 6 rfl rfl | exact bx 7 rfl rfl | exact bx 8 rfl rfl | exact bx 9 rfl rfl | exact rc ‹_› ‹_› rfl | exact rc0 ‹_› ‹_› rfl | exact xc ‹_› ‹_› | exact rr 0 rfl ‹_› rfl | exact rr0 0 rfl ‹_› rfl | exact rr 1 rfl ‹_› rfl | exact rr0 1 rfl ‹_› rfl | exact rr 2 rfl ‹_› rfl | exact rr0 2 rfl ‹_› rfl | exact rr 3 rfl ‹_› rfl | exact rr0 3 rfl ‹_› rfl | exact rr 4 rfl ‹_› rfl | exact rr0 4 rfl ‹_› rfl | exact rr 5 rfl ‹_› rfl | exact rr0 5 rfl ‹_› rfl | exact rr 6 rfl ‹_› rfl | exact rr0 6 rfl ‹_› rfl | exact rr 7 rfl ‹_› rfl | exact rr0 7 rfl ‹_› rfl)) rfl rfl ?_
                refine xV (e_fld Try.underlying67 rfl Try.sizeOf3 rfl (q0 rfl)) rfl rfl ?_
                refine xV (e_ld Try.isAgg3 (q0 rfl) (by first | exact bx 0 rfl rfl | exact bx 1 rfl rfl | exact bx 2 rfl rfl | exact bx 3 rfl rfl | exact bx 4 rfl rfl | exact bx 5 rfl rfl | exact bx 6 rfl rfl | exact bx 7 rfl rfl | exact bx 8 rfl rfl | exact bx 9 rfl rfl | exact rc ‹_› ‹_› rfl | exact rc0 ‹_› ‹_› rfl | exact xc ‹_› ‹_› | exact rr 0 rfl ‹_› rfl | exact rr0 0 rfl ‹_› rfl | exact rr 1 rfl ‹_› rfl | exact rr0 1 rfl ‹_› rfl | exact rr 2 rfl ‹_› rfl | exact rr0 2 rfl ‹_› rfl | exact rr 3 rfl ‹_› rfl | exact rr0 3 rfl ‹_› rfl | exact rr 4 rfl ‹_› rfl | exact rr0 4 rfl ‹_› rfl | exact rr 5 rfl ‹_› rfl | exact rr0 5 rfl ‹_› rfl | exact rr 6 rfl ‹_› rfl | exact rr0 6 rfl ‹_› rfl | exact rr 7 rfl ‹_› rfl | exact rr0 7 rfl ‹_› rfl)) rfl rfl ?_
                refine xV (e_eq (q0 rfl) (q0 rfl)) rfl rfl ?_
                refine xV (e_eqb Try.underlying4 (q0 rfl) (q0 rfl)) rfl rfl ?_
                refine xC (enV Try.call83 (q0 rfl) (fun _ => rfl)) (fun _ w _ => refused_w (x.paused == decide (e.kind = 5)) 12 w) rfl rfl ?_
                refine xV (e_as (v := .int _ _) (q0 rfl)) rfl rfl ?_
                refine XN ?_
                refine thenJ_normal ?_
                refine H_ret ?_
                refine thenJ_ret ?_
                refine blockJ_ret ?_
                refine thenJ_ret ?_
                refine blockJ_ret ?_
                refine thenJ_ret ?_
                refine blockJ_ret ?_
                refine thenJ_ret ?_
                refine blockJ_ret ?_
                refine thenJ_ret ?_
                exact ret1 (v := .int _ _) rfl rfl rfl fun w' hw => ⟨ret_int (by rw [ck5 hk56 hx]; exact (if_neg (by simpa using hb)).symm), hw.1⟩
            · refine H_skip ?_
              refine thenJ_normal ?_
              refine H_seq ?_
              refine H_seq ?_
              refine R0 ?_
              refine xV (e_eq (q0 rfl) (q0 rfl)) rfl rfl ?_
              refine xV (e_as (v := .bool _) (q0 rfl)) rfl rfl ?_
              refine XN ?_
              refine thenJ_normal ?_
              refine H_cond rfl (fun h7 => ?_) (fun h7 => ?_)
              · have hk7 : e.kind = 7 := by simpa using h7
                obtain ⟨hp0, hpn⟩ := hpl hk7
                obtain ⟨pk, hpk⟩ : ∃ k : Nat, e.place = k := ⟨e.place.toNat, by omega⟩
                have htl := h.fl.trucks.1
                have hpt : pk < a.tn := by omega
                obtain ⟨tb, toff, tx, htA, htb, htx, htr⟩ := h.fl.trucks.at_ hpt
                have hgd : f.trucks.getD e.place.toNat 0 = tx := by
                  rw [hpk, Int.toNat_natCast, List.getD_eq_getElem?_getD, htx]; rfl
                refine H_exit ?_
                refine thenJ_exit ?_
                refine thenJ_exit ?_
                refine blockJ_pass rfl ?_
                refine thenJ_exit ?_
                refine blockJ_pass rfl ?_
                refine thenJ_exit ?_
                refine blockJ_pass rfl ?_
                refine thenJ_exit ?_
                refine blockJ_pass rfl ?_
                refine thenJ_exit ?_
                refine blockJ_pass rfl ?_
                refine thenJ_exit ?_
                refine blockJ_hit ?_
                refine thenJ_normal ?_
                refine H_seq ?_
                refine H_seq ?_
                refine H_seq ?_
                refine R0 ?_
                refine xV (e_fld Try.underlying41 rfl Try.sizeOf3 rfl (q0 rfl)) rfl rfl ?_
                refine xV (e_ld Try.isAgg3 (q0 rfl) (by first | exact bx 0 rfl rfl | exact bx 1 rfl rfl | exact bx 2 rfl rfl | exact bx 3 rfl rfl | exact bx 4 rfl rfl | exact bx 5 rfl rfl | exact bx 6 rfl rfl | exact bx 7 rfl rfl | exact bx 8 rfl rfl | exact bx 9 rfl rfl | exact rc ‹_› ‹_› rfl | exact rc0 ‹_› ‹_› rfl | exact xc ‹_› ‹_› | exact rr 0 rfl ‹_› rfl | exact rr0 0 rfl ‹_› rfl | exact rr 1 rfl ‹_› rfl | exact rr0 1 rfl ‹_› rfl | exact rr 2 rfl ‹_› rfl | exact rr0 2 rfl ‹_› rfl | exact rr 3 rfl ‹_› rfl | exact rr0 3 rfl ‹_› rfl | exact rr 4 rfl ‹_› rfl | exact rr0 4 rfl ‹_› rfl | exact rr 5 rfl ‹_› rfl | exact rr0 5 rfl ‹_› rfl | exact rr 6 rfl ‹_› rfl | exact rr0 6 rfl ‹_› rfl | exact rr 7 rfl ‹_› rfl | exact rr0 7 rfl ‹_› rfl)) rfl rfl ?_
                refine xV (e_eq (q0 rfl) (q0 rfl)) rfl rfl ?_
                refine xV (e_mv (v := .bool _) (q0 rfl)) rfl rfl ?_
                refine xVF (e_fld Try.underlying41 rfl Try.sizeOf3 rfl (q0 rfl)) rfl rfl rfl rfl ?_
                refine xVF (e_ld Try.isAgg3 (q1 rfl) (by first | exact bx 0 rfl rfl | exact bx 1 rfl rfl | exact bx 2 rfl rfl | exact bx 3 rfl rfl | exact bx 4 rfl rfl | exact bx 5 rfl rfl | exact bx 6 rfl rfl | exact bx 7 rfl rfl | exact bx 8 rfl rfl | exact bx 9 rfl rfl | exact rc ‹_› ‹_› rfl | exact rc0 ‹_› ‹_› rfl | exact xc ‹_› ‹_› | exact rr 0 rfl ‹_› rfl | exact rr0 0 rfl ‹_› rfl | exact rr 1 rfl ‹_› rfl | exact rr0 1 rfl ‹_› rfl | exact rr 2 rfl ‹_› rfl | exact rr0 2 rfl ‹_› rfl | exact rr 3 rfl ‹_› rfl | exact rr0 3 rfl ‹_› rfl | exact rr 4 rfl ‹_› rfl | exact rr0 4 rfl ‹_› rfl | exact rr 5 rfl ‹_› rfl | exact rr0 5 rfl ‹_› rfl | exact rr 6 rfl ‹_› rfl | exact rr0 6 rfl ‹_› rfl | exact rr 7 rfl ‹_› rfl | exact rr0 7 rfl ‹_› rfl)) rfl rfl rfl rfl ?_
                refine xVF (e_eq (q1 rfl) (q0 rfl)) rfl rfl rfl rfl ?_
                refine xV (e_or (q0 rfl) rfl (fun h => by first | rfl | (rw [h]; rfl))) rfl rfl ?_
                refine XN ?_
                refine thenJ_normal ?_
                refine H_cond rfl (fun hb => ?_) (fun hb => ?_)
                · refine H_seq ?_
                  refine R0 ?_
                  refine xV (e_as (v := .int _ _) (q0 rfl)) rfl rfl ?_
                  refine XN ?_
                  refine thenJ_normal ?_
                  refine H_ret ?_
                  refine thenJ_ret ?_
                  refine thenJ_ret ?_
                  refine blockJ_ret ?_
                  refine thenJ_ret ?_
                  refine blockJ_ret ?_
                  refine thenJ_ret ?_
                  refine blockJ_ret ?_
                  refine thenJ_ret ?_
                  exact ret1 (v := .int _ _) rfl rfl rfl fun w' hw => ⟨ret_int (by rw [ck7 hk7 hx]; exact (if_pos hb).symm), hw.1⟩
                · have _ht : True := trivial
                  refine H_skip ?_
                  refine thenJ_normal ?_
                  refine H_seq ?_
                  refine R1 rfl (by decide +kernel) ?_
                  refine xV (e_mv (q0 rfl)) rfl rfl ?_
                  refine xV (e_mv (v := .pointer _) (q0 rfl)) rfl rfl ?_
                  refine xV (e_fld Try.underlying67 rfl Try.sizeOf3 rfl (q0 rfl)) rfl rfl ?_
                  refine xV (e_ld Try.isAgg3 (q0 rfl) (by first | exact bx 0 rfl rfl | exact bx 1 rfl rfl | exact bx 2 rfl rfl | exact bx 3 rfl rfl | exact bx 4 rfl rfl | exact bx 5 rfl rfl | exact bx 6 rfl rfl | exact bx 7 rfl rfl | exact bx 8 rfl rfl | exact bx 9 rfl rfl | exact rc ‹_› ‹_› rfl | exact rc0 ‹_› ‹_› rfl | exact xc ‹_› ‹_› | exact rr 0 rfl ‹_› rfl | exact rr0 0 rfl ‹_› rfl | exact rr 1 rfl ‹_› rfl | exact rr0 1 rfl ‹_› rfl | exact rr 2 rfl ‹_› rfl | exact rr0 2 rfl ‹_› rfl | exact rr 3 rfl ‹_› rfl | exact rr0 3 rfl ‹_› rfl | exact rr 4 rfl ‹_› rfl | exact rr0 4 rfl ‹_› rfl | exact rr 5 rfl ‹_› rfl | exact rr0 5 rfl ‹_› rfl | exact rr 6 rfl ‹_› rfl | exact rr0 6 rfl ‹_› rfl | exact rr 7 rfl ‹_› rfl | exact rr0 7 rfl ‹_› rfl)) rfl rfl ?_
                  refine xC (en Try.call52 (ha3 (q0 rfl) (q0 rfl) (q0 rfl))) (fun _ w hm => count_w 4 e.place w (h.mem hm)) rfl rfl ?_
                  refine xV (e_mv (v := .pointer _) (q0 rfl)) rfl rfl ?_
                  refine xV (e_nilc (q0 rfl)) rfl rfl ?_
                  refine xV (e_fld Try.underlying86 rfl Try.sizeOf24 rfl (q0 rfl)) rfl rfl ?_
                  refine xV (e_fld Try.underlying24 rfl Try.sizeOf22 rfl (q0 rfl)) rfl rfl ?_
                  refine xV (e_ld (v := .slice (some ⟨tb, toff, none⟩) a.tn a.tc) Try.isAgg22 (q0 rfl) (rc (j := 4) hrow hlt (by show some (Value.slice a.tA a.tn a.tc) = _; rw [htA]))) rfl rfl ?_
                  refine xV (e_fld Try.underlying67 rfl Try.sizeOf3 rfl (q0 rfl)) rfl rfl ?_
                  refine xV (e_ld Try.isAgg3 (q0 rfl) (by first | exact bx 0 rfl rfl | exact bx 1 rfl rfl | exact bx 2 rfl rfl | exact bx 3 rfl rfl | exact bx 4 rfl rfl | exact bx 5 rfl rfl | exact bx 6 rfl rfl | exact bx 7 rfl rfl | exact bx 8 rfl rfl | exact bx 9 rfl rfl | exact rc ‹_› ‹_› rfl | exact rc0 ‹_› ‹_› rfl | exact xc ‹_› ‹_› | exact rr 0 rfl ‹_› rfl | exact rr0 0 rfl ‹_› rfl | exact rr 1 rfl ‹_› rfl | exact rr0 1 rfl ‹_› rfl | exact rr 2 rfl ‹_› rfl | exact rr0 2 rfl ‹_› rfl | exact rr 3 rfl ‹_› rfl | exact rr0 3 rfl ‹_› rfl | exact rr 4 rfl ‹_› rfl | exact rr0 4 rfl ‹_› rfl | exact rr 5 rfl ‹_› rfl | exact rr0 5 rfl ‹_› rfl | exact rr 6 rfl ‹_› rfl | exact rr0 6 rfl ‹_› rfl | exact rr 7 rfl ‹_› rfl | exact rr0 7 rfl ‹_› rfl)) rfl rfl ?_
                  refine xV (e_idx pk Try.underlying22 Try.sizeOf3 (q0 rfl) (q0 rfl) (fun _ => ⟨hpk, hpt⟩)) rfl rfl ?_
                  refine xV (e_ld Try.isAgg3 (q0 rfl) (by first | exact bx 0 rfl rfl | exact bx 1 rfl rfl | exact bx 2 rfl rfl | exact bx 3 rfl rfl | exact bx 4 rfl rfl | exact bx 5 rfl rfl | exact bx 6 rfl rfl | exact bx 7 rfl rfl | exact bx 8 rfl rfl | exact bx 9 rfl rfl | exact rc ‹_› ‹_› rfl | exact rc0 ‹_› ‹_› rfl | exact xc ‹_› ‹_› | exact rr 0 rfl ‹_› rfl | exact rr0 0 rfl ‹_› rfl | exact rr 1 rfl ‹_› rfl | exact rr0 1 rfl ‹_› rfl | exact rr 2 rfl ‹_› rfl | exact rr0 2 rfl ‹_› rfl | exact rr 3 rfl ‹_› rfl | exact rr0 3 rfl ‹_› rfl | exact rr 4 rfl ‹_› rfl | exact rr0 4 rfl ‹_› rfl | exact rr 5 rfl ‹_› rfl | exact rr0 5 rfl ‹_› rfl | exact rr 6 rfl ‹_› rfl | exact rr0 6 rfl ‹_› rfl | exact rr 7 rfl ‹_› rfl | exact rr0 7 rfl ‹_› rfl)) rfl rfl ?_
                  refine xV (e_ge (q0 rfl) (q0 rfl)) rfl rfl ?_
                  refine xC (enV Try.call83 (q0 rfl) (fun _ => rfl)) (fun _ w _ => refused_w (decide (tx ≤ (countP t.spots 4 e.place : Int))) 24 w) rfl rfl ?_
                  refine xV (e_as (v := .int _ _) (q0 rfl)) rfl rfl ?_
                  refine XN ?_
                  refine thenJ_normal ?_
                  refine H_ret ?_
                  refine thenJ_ret ?_
                  refine blockJ_ret ?_
                  refine thenJ_ret ?_
                  refine blockJ_ret ?_
                  refine thenJ_ret ?_
                  refine blockJ_ret ?_
                  refine thenJ_ret ?_
                  exact ret1 (v := .int _ _) rfl rfl rfl fun w' hw => ⟨ret_int (by rw [ck7 hk7 hx, hgd]; exact (if_neg (by rw [hb]; decide)).symm), hw.1⟩
              · refine H_skip ?_
                refine thenJ_normal ?_
                refine H_seq ?_
                refine H_seq ?_
                refine R0 ?_
                refine xV (e_eq (q0 rfl) (q0 rfl)) rfl rfl ?_
                refine xV (e_as (v := .bool _) (q0 rfl)) rfl rfl ?_
                refine XN ?_
                refine thenJ_normal ?_
                refine H_cond rfl (fun h8 => ?_) (fun h8 => ?_)
                · have hk8 : e.kind = 8 := by simpa using h8
                  refine H_exit ?_
                  refine thenJ_exit ?_
                  refine thenJ_exit ?_
                  refine blockJ_pass rfl ?_
                  refine thenJ_exit ?_
                  refine blockJ_pass rfl ?_
                  refine thenJ_exit ?_
                  refine blockJ_pass rfl ?_
                  refine thenJ_exit ?_
                  refine blockJ_pass rfl ?_
                  refine thenJ_exit ?_
                  refine blockJ_pass rfl ?_
                  refine thenJ_exit ?_
                  refine blockJ_pass rfl ?_
                  refine thenJ_exit ?_
                  refine blockJ_hit ?_
                  refine thenJ_normal ?_
                  refine H_seq ?_
                  refine H_seq ?_
                  refine R0 ?_
                  refine xV (e_mv (q0 rfl)) rfl rfl ?_
                  refine xV (e_fld Try.underlying41 rfl Try.sizeOf3 rfl (q0 rfl)) rfl rfl ?_
                  refine xV (e_ld Try.isAgg3 (q0 rfl) (by first | exact bx 0 rfl rfl | exact bx 1 rfl rfl | exact bx 2 rfl rfl | exact bx 3 rfl rfl | exact bx 4 rfl rfl | exact bx 5 rfl rfl | exact bx 6 rfl rfl | exact bx 7 rfl rfl | exact bx 8 rfl rfl | exact bx 9 rfl rfl | exact rc ‹_› ‹_› rfl | exact rc0 ‹_› ‹_› rfl | exact xc ‹_› ‹_› | exact rr 0 rfl ‹_› rfl | exact rr0 0 rfl ‹_› rfl | exact rr 1 rfl ‹_› rfl | exact rr0 1 rfl ‹_› rfl | exact rr 2 rfl ‹_› rfl | exact rr0 2 rfl ‹_› rfl | exact rr 3 rfl ‹_› rfl | exact rr0 3 rfl ‹_› rfl | exact rr 4 rfl ‹_› rfl | exact rr0 4 rfl ‹_› rfl | exact rr 5 rfl ‹_› rfl | exact rr0 5 rfl ‹_› rfl | exact rr 6 rfl ‹_› rfl | exact rr0 6 rfl ‹_› rfl | exact rr 7 rfl ‹_› rfl | exact rr0 7 rfl ‹_› rfl)) rfl rfl ?_
                  refine xV (e_eq (q0 rfl) (q0 rfl)) rfl rfl ?_
                  refine xV (e_mv (v := .bool _) (q0 rfl)) rfl rfl ?_
                  refine xVF (e_fld Try.underlying41 rfl Try.sizeOf3 rfl (q0 rfl)) rfl rfl rfl rfl ?_
                  refine xVF (e_ld Try.isAgg3 (q1 rfl) (by first | exact bx 0 rfl rfl | exact bx 1 rfl rfl | exact bx 2 rfl rfl | exact bx 3 rfl rfl | exact bx 4 rfl rfl | exact bx 5 rfl rfl | exact bx 6 rfl rfl | exact bx 7 rfl rfl | exact bx 8 rfl rfl | exact bx 9 rfl rfl | exact rc ‹_› ‹_› rfl | exact rc0 ‹_› ‹_› rfl | exact xc ‹_› ‹_› | exact rr 0 rfl ‹_› rfl | exact rr0 0 rfl ‹_› rfl | exact rr 1 rfl ‹_› rfl | exact rr0 1 rfl ‹_› rfl | exact rr 2 rfl ‹_› rfl | exact rr0 2 rfl ‹_› rfl | exact rr 3 rfl ‹_› rfl | exact rr0 3 rfl ‹_› rfl | exact rr 4 rfl ‹_› rfl | exact rr0 4 rfl ‹_› rfl | exact rr 5 rfl ‹_› rfl | exact rr0 5 rfl ‹_› rfl | exact rr 6 rfl ‹_› rfl | exact rr0 6 rfl ‹_› rfl | exact rr 7 rfl ‹_› rfl | exact rr0 7 rfl ‹_› rfl)) rfl rfl rfl rfl ?_
                  refine xVF (e_eq (q1 rfl) (q0 rfl)) rfl rfl rfl rfl ?_
                  refine xV (e_or (q0 rfl) rfl (fun h => by first | rfl | (rw [h]; rfl))) rfl rfl ?_
                  refine xC (enV Try.call83 (q0 rfl) (fun _ => rfl)) (fun _ w _ => refused_w (decide (x.where_ = 3) || decide (x.where_ = 5)) 23 w) rfl rfl ?_
                  refine xV (e_as (v := .int _ _) (q0 rfl)) rfl rfl ?_
                  refine XN ?_
                  refine thenJ_normal ?_
                  refine H_ret ?_
                  refine thenJ_ret ?_
                  refine blockJ_ret ?_
                  refine thenJ_ret ?_
                  refine blockJ_ret ?_
                  refine thenJ_ret ?_
                  exact ret1 (v := .int _ _) rfl rfl rfl fun w' hw => ⟨ret_int (ck8 hk8 hx).symm, hw.1⟩
                · refine H_skip ?_
                  refine thenJ_normal ?_
                  refine H_seq ?_
                  refine R0 ?_
                  refine xV (e_eq (q0 rfl) (q0 rfl)) rfl rfl ?_
                  refine xV (e_as (v := .bool _) (q0 rfl)) rfl rfl ?_
                  refine XN ?_
                  refine thenJ_normal ?_
                  refine H_cond rfl (fun h9 => ?_) (fun h9 => ?_)
                  · have hk9 : e.kind = 9 := by simpa using h9
                    refine H_exit ?_
                    refine thenJ_exit ?_
                    refine blockJ_pass rfl ?_
                    refine thenJ_exit ?_
                    refine blockJ_pass rfl ?_
                    refine thenJ_exit ?_
                    refine blockJ_pass rfl ?_
                    refine thenJ_exit ?_
                    refine blockJ_pass rfl ?_
                    refine thenJ_exit ?_
                    refine blockJ_pass rfl ?_
                    refine thenJ_exit ?_
                    refine blockJ_pass rfl ?_
                    refine thenJ_exit ?_
                    refine blockJ_pass rfl ?_
                    refine thenJ_exit ?_
                    refine blockJ_hit ?_
                    refine thenJ_normal ?_
                    refine H_seq ?_
                    refine H_seq ?_
                    refine R0 ?_
                    refine xV (e_mv (q0 rfl)) rfl rfl ?_
                    refine xV (e_fld Try.underlying41 rfl Try.sizeOf3 rfl (q0 rfl)) rfl rfl ?_
                    refine xV (e_ld Try.isAgg3 (q0 rfl) (by first | exact bx 0 rfl rfl | exact bx 1 rfl rfl | exact bx 2 rfl rfl | exact bx 3 rfl rfl | exact bx 4 rfl rfl | exact bx 5 rfl rfl | exact bx 6 rfl rfl | exact bx 7 rfl rfl | exact bx 8 rfl rfl | exact bx 9 rfl rfl | exact rc ‹_› ‹_› rfl | exact rc0 ‹_› ‹_› rfl | exact xc ‹_› ‹_› | exact rr 0 rfl ‹_› rfl | exact rr0 0 rfl ‹_› rfl | exact rr 1 rfl ‹_› rfl | exact rr0 1 rfl ‹_› rfl | exact rr 2 rfl ‹_› rfl | exact rr0 2 rfl ‹_› rfl | exact rr 3 rfl ‹_› rfl | exact rr0 3 rfl ‹_› rfl | exact rr 4 rfl ‹_› rfl | exact rr0 4 rfl ‹_› rfl | exact rr 5 rfl ‹_› rfl | exact rr0 5 rfl ‹_› rfl | exact rr 6 rfl ‹_› rfl | exact rr0 6 rfl ‹_› rfl | exact rr 7 rfl ‹_› rfl | exact rr0 7 rfl ‹_› rfl)) rfl rfl ?_
                    refine xV (e_eq (q0 rfl) (q0 rfl)) rfl rfl ?_
                    refine xV (e_mv (v := .bool _) (q0 rfl)) rfl rfl ?_
                    refine xVF (e_fld Try.underlying41 rfl Try.sizeOf3 rfl (q0 rfl)) rfl rfl rfl rfl ?_
                    refine xVF (e_ld Try.isAgg3 (q1 rfl) (by first | exact bx 0 rfl rfl | exact bx 1 rfl rfl | exact bx 2 rfl rfl | exact bx 3 rfl rfl | exact bx 4 rfl rfl | exact bx 5 rfl rfl | exact bx 6 rfl rfl | exact bx 7 rfl rfl | exact bx 8 rfl rfl | exact bx 9 rfl rfl | exact rc ‹_› ‹_› rfl | exact rc0 ‹_› ‹_› rfl | exact xc ‹_› ‹_› | exact rr 0 rfl ‹_› rfl | exact rr0 0 rfl ‹_› rfl | exact rr 1 rfl ‹_› rfl | exact rr0 1 rfl ‹_› rfl | exact rr 2 rfl ‹_› rfl | exact rr0 2 rfl ‹_› rfl | exact rr 3 rfl ‹_› rfl | exact rr0 3 rfl ‹_› rfl | exact rr 4 rfl ‹_› rfl | exact rr0 4 rfl ‹_› rfl | exact rr 5 rfl ‹_› rfl | exact rr0 5 rfl ‹_› rfl | exact rr 6 rfl ‹_› rfl | exact rr0 6 rfl ‹_› rfl | exact rr 7 rfl ‹_› rfl | exact rr0 7 rfl ‹_› rfl)) rfl rfl rfl rfl ?_
                    refine xVF (e_eq (q1 rfl) (q0 rfl)) rfl rfl rfl rfl ?_
                    refine xV (e_or (q0 rfl) rfl (fun h => by first | rfl | (rw [h]; rfl))) rfl rfl ?_
                    refine xC (enV Try.call83 (q0 rfl) (fun _ => rfl)) (fun _ w _ => refused_w (decide (x.where_ = 5) || decide (x.where_ = 6)) 23 w) rfl rfl ?_
                    refine xV (e_as (v := .int _ _) (q0 rfl)) rfl rfl ?_
                    refine XN ?_
                    refine thenJ_normal ?_
                    refine H_ret ?_
                    refine thenJ_ret ?_
                    refine blockJ_ret ?_
                    refine thenJ_ret ?_
                    exact ret1 (v := .int _ _) rfl rfl rfl fun w' hw => ⟨ret_int (ck9 hk9 hx).symm, hw.1⟩
                  · refine H_skip ?_
                    refine thenJ_normal ?_
                    refine H_exit ?_
                    refine blockJ_pass rfl ?_
                    refine thenJ_exit ?_
                    refine blockJ_pass rfl ?_
                    refine thenJ_exit ?_
                    refine blockJ_pass rfl ?_
                    refine thenJ_exit ?_
                    refine blockJ_pass rfl ?_
                    refine thenJ_exit ?_
                    refine blockJ_pass rfl ?_
                    refine thenJ_exit ?_
                    refine blockJ_pass rfl ?_
                    refine thenJ_exit ?_
                    refine blockJ_pass rfl ?_
                    refine thenJ_exit ?_
                    refine blockJ_pass rfl ?_
                    refine thenJ_exit ?_
                    refine blockJ_hit ?_
                    refine thenJ_normal ?_
                    refine H_seq ?_
                    refine R0 ?_
                    refine xV (e_as (v := .int _ _) (q0 rfl)) rfl rfl ?_
                    refine XN ?_
                    refine thenJ_normal ?_
                    refine H_ret ?_
                    exact ret1 (v := .int _ _) rfl rfl rfl fun w' hw => ⟨ret_int (ck0 (by simp at h1 h2 h3 h4 h5 h6 h7 h8 h9; omega)).symm, hw.1⟩

end Go.Proofs.Cus
