import Derived.Test.YtlihpbblpmpcfaaCusA
import Derived.Test.YtlihpbblpmpcfaaCusS
import Derived.Test.YtlihpbblpmpcfaaEng2
import Derived.Test.YtlihpbblpmpcfaaEng1
set_option linter.unusedVariables false
set_option linter.unusedSimpArgs false
/-
  The walks: the state, read: how many are at a place, who rides, what refuses an event.
-/
namespace Go.Proofs.Cus
open Go Go.RowKit Go.Proofs.E

theorem fl58 {fs : Array Field} (h : Try.prog.underlying 58 = some (.struct fs) := by exact Try.underlying58) : FieldsLie Try.prog fs [(0, 1), (1, 1), (2, 1), (3, 1)] := by
  rw [Try.underlying58] at h
  cases h
  intro w
  kernel_rfl
theorem fl126 {fs : Array Field} (h : Try.prog.underlying 126 = some (.struct fs) := by exact Try.underlying126) : FieldsLie Try.prog fs [(0, 1), (1, 1), (2, 1)] := by
  rw [Try.underlying126] at h
  cases h
  intro w
  kernel_rfl
theorem fl89 {fs : Array Field} (h : Try.prog.underlying 89 = some (.struct fs) := by exact Try.underlying89) : FieldsLie Try.prog fs [(0, 5), (5, 1), (6, 1), (7, 1)] := by
  rw [Try.underlying89] at h
  cases h
  intro w
  kernel_rfl

def Sp.cells (x : Sp) : List Value := [.int .i64 x.where_, .int .i64 x.place, .int .i64 x.ride, .bool x.paused]
def PT.cells (t : PT) : List Value := [.int .i64 t.rider, .int .i64 t.bike, .bool t.paused]
abbrev SpotsAt (w : World) (A : Option Addr) (n : Nat) (xs : List Sp) : Prop := SlAt w 4 Sp.cells A n xs
abbrev spRow (A : Option Addr) (c : Nat) (xs : List Sp) : E.Item := rowT 58 4 Sp.cells A c xs

/-- the state with the places of the open rides -/
structure TS where
  spots : List Sp
  ps : List (Int × Nat × PT)
  used : List Int
def TS.open_ (t : TS) : List (Int × PT) := t.ps.map fun p => (p.1, p.2.2)
def TS.plain (t : TS) : PS := ⟨t.spots, t.open_, t.used⟩
/-- where the state lies -/
structure SA where
  sb : Nat
  q : Nat
  n : Nat
  c : Nat
  m : Nat
  u : Nat
def usedPairs (l : List Int) : List (Int × Value) := l.map fun i => (i, .bool true)
def stCells (f : Fl) (a : FA) (s : SA) : List Value := f.cells a ++ [.slice (some ⟨s.q, 0, none⟩) s.n s.c, .map (some s.m), .map (some s.u)]
abbrev stL (f : Fl) (a : FA) (s : SA) (t : TS) : List E.Item :=
  [box s.sb 89 (stCells f a s), spRow (some ⟨s.q, 0, none⟩) s.c t.spots, pmap s.m 126 PT.cells t.ps, imap s.u (usedPairs t.used)]

structure StAt (w : World) (f : Fl) (a : FA) (s : SA) (t : TS) : Prop where
  lt : s.sb < w.heap.size
  row : RowAt w s.sb 0 (stCells f a s)
  spots : SpotsAt w (some ⟨s.q, 0, none⟩) s.n t.spots
  open_ : IMap w s.m (ptrs t.ps)
  trips : ∀ p ∈ t.ps, p.2.1 < w.heap.size ∧ RowAt w p.2.1 0 p.2.2.cells
  used : IMap w s.u (usedPairs t.used)
  fl : FlAt w f a
theorem StAt.mem {w0 w : World} {L : List E.Item} {f : Fl} {a : FA} {s : SA} {t : TS} (h : StAt w0 f a s t) (hm : Mem w0 L w) : StAt w f a s t :=
  ⟨Nat.lt_of_lt_of_le h.lt hm.1.size, h.row.below h.lt hm.1, h.spots.mem hm, h.open_.mem w hm, fun p hp => ⟨Nat.lt_of_lt_of_le (h.trips p hp).1 hm.1.size, (h.trips p hp).2.below (h.trips p hp).1 hm.1⟩, h.used.mem w hm, h.fl.mem hm⟩
theorem heap_row {w : World} {b : Nat} {cs : List Value} {t : TypeId} (h : w.heap[b]? = some (.cells cs.toArray t (0, 0))) : b < w.heap.size ∧ RowAt w b 0 cs :=
  ⟨(Array.getElem?_eq_some_iff.1 h).1, fun j u hu => by simp [World.cell?, h, hu]⟩
theorem stAt_of {w0 w : World} {L : List E.Item} {f : Fl} {a : FA} {s : SA} {t : TS} (hf : FlAt w f a) (hl : t.spots.length = s.n) (hn : s.n ≤ 1000) (hw : Mem w0 (stL f a s t ++ L) w) : StAt w f a s t := by
  have hsp := slAt_row hw (j := 1) rfl (fun _ => rfl) (by omega)
  rw [hl] at hsp
  have h0 := heap_row (hw.item (k := 0) rfl)
  have h2 : (pmap s.m 126 PT.cells t.ps).A w := hw.item (k := 2) rfl
  exact ⟨h0.1, h0.2, hsp, h2.1, fun p hp => heap_row (h2.2.1 p hp), hw.item (k := 3) rfl, hf⟩

theorem parked_w (x : Sp) (w : World) : Calls Try.prog 82 #[.agg x.cells.toArray] w fun e w' => e = .returned (.bool (parkedS x)) ∧ Bel w w' := by
  refine H_enter Try.func82 rfl Try.ntmps82 rfl ?_
  refine H_seq ?_
  refine R0 ?_
  refine X_box (v := .agg _) rfl rfl fun b1 => ?_
  refine xV (e_as (v := .bool _) (q0 rfl)) rfl rfl ?_
  refine XN ?_
  refine thenJ_normal ?_
  refine H_seq ?_
  refine R0 ?_
  refine xV (e_fld Try.underlying58 rfl Try.sizeOf3 rfl (q0 rfl)) rfl rfl ?_
  refine xV (eL Try.isAgg3 (q0 rfl)) rfl rfl ?_
  refine xV (e_eq (q0 rfl) (q0 rfl)) rfl rfl ?_
  refine xV (e_mv (v := .bool _) (q0 rfl)) rfl rfl ?_
  refine xVF (e_fld Try.underlying58 rfl Try.sizeOf3 rfl (q0 rfl)) rfl rfl rfl rfl ?_
  refine xVF (eL Try.isAgg3 (q1 rfl)) rfl rfl rfl rfl ?_
  refine xVF (e_eq (q1 rfl) (q0 rfl)) rfl rfl rfl rfl ?_
  refine xV (e_or (q0 rfl) rfl (fun h => by first | rfl | (rw [h]; rfl))) rfl rfl ?_
  refine xV (e_as (v := .bool _) (q0 rfl)) rfl rfl ?_
  refine XN ?_
  refine thenJ_normal ?_
  refine H_ret ?_
  exact ret1 (v := .bool _) rfl rfl rfl fun w' hw => ⟨rfl, hw.1⟩
theorem refused_w (no : Bool) (er : Int) (w : World) : Calls Try.prog 81 #[.bool no, .int .i64 er] w fun e w' => e = .returned (.int .i64 (refuse no er)) ∧ Bel w w' := by
  refine H_enter Try.func81 rfl Try.ntmps81 rfl ?_
  refine H_seq ?_
  refine R0 ?_
  refine xV (e_as (v := .int _ _) (q0 rfl)) rfl rfl ?_
  refine XN ?_
  refine thenJ_normal ?_
  refine H_seq ?_
  refine H_seq ?_
  refine R0 ?_
  refine xV (e_mv (v := .bool _) (q0 rfl)) rfl rfl ?_
  refine XN ?_
  refine thenJ_normal ?_
  refine H_cond rfl (fun h => ?_) (fun h => ?_)
  · refine H_seq ?_
    refine R0 ?_
    refine xV (e_mv (v := .int _ _) (q0 rfl)) rfl rfl ?_
    refine xV (e_as (v := .int _ _) (q0 rfl)) rfl rfl ?_
    refine XN ?_
    refine thenJ_normal ?_
    refine H_ret ?_
    refine thenJ_ret ?_
    exact ret1 (v := .int _ _) rfl rfl rfl fun w' hw => ⟨ret_int (by unfold refuse; rw [if_pos h]), hw.1⟩
  · refine H_skip ?_
    refine thenJ_normal ?_
    refine H_seq ?_
    refine R0 ?_
    refine xV (e_as (v := .int _ _) (q0 rfl)) rfl rfl ?_
    refine XN ?_
    refine thenJ_normal ?_
    refine H_ret ?_
    exact ret1 (v := .int _ _) rfl rfl rfl fun w' hw => ⟨ret_int (by unfold refuse; rw [if_neg (by rw [h]; decide)]), hw.1⟩

theorem countP_snoc (l : List Sp) (wh pl : Int) (k : Nat) (x : Sp) (h : l[k]? = some x) : countP (l.take (k + 1)) wh pl = countP (l.take k) wh pl + (if atP wh pl x = true then 1 else 0) := by
  unfold countP
  rw [take_snoc _ _ _ h, List.countP_append]
  simp [List.countP_cons]
theorem count_w {f : Fl} {a : FA} {s : SA} {t : TS} (wh pl : Int) (w : World) (h : StAt w f a s t) : Calls Try.prog 83 #[.pointer (some ⟨s.sb, 0, none⟩), .int .i64 wh, .int .i64 pl] w fun e w' => e = .returned (.int .i64 (countP t.spots wh pl)) ∧ Bel w w' := by
  have hlt := h.lt
  have hrow := h.row
  have hn := h.spots.2.1
  have hl := h.spots.1
  refine H_enter Try.func83 rfl Try.ntmps83 rfl ?_
  refine H_seq ?_
  refine R0 ?_
  refine xV (e_as (v := .int _ _) (q0 rfl)) rfl rfl ?_
  refine XN ?_
  refine thenJ_normal ?_
  refine H_seq ?_
  refine R0 ?_
  refine xV (e_as (v := .int _ _) (q0 rfl)) rfl rfl ?_
  refine XN ?_
  refine thenJ_normal ?_
  refine H_seq ?_
  refine H_seq ?_
  refine R0 ?_
  refine xV (e_mv (v := .pointer _) (q0 rfl)) rfl rfl ?_
  refine xV (e_nilc (q0 rfl)) rfl rfl ?_
  refine xV (e_fld Try.underlying89 rfl Try.sizeOf54 rfl (q0 rfl)) rfl rfl ?_
  refine xV (eL Try.isAgg54 (q0 rfl)) rfl rfl ?_
  refine xV (e_len Try.underlying54 (q0 rfl)) rfl rfl ?_
  refine xV (e_mv (v := .int _ _) (q0 rfl)) rfl rfl ?_
  refine XN ?_
  refine thenJ_normal ?_
  refine H_block ?_
  refine H_loop [7, 9, 15, 16, 17, 18, 19, 20, 21, 22, 23, 24, 25, 26, 27, 28, 29, 30, 31] (fun k : Nat => [(15, .int .i64 k), (7, .int .i64 (countP (t.spots.take k) wh pl))]) (fun _ => []) (fun k => k ≤ s.n ∧ countP (t.spots.take k) wh pl ≤ k) (fun k => s.n - k) 0 ⟨rfl, rfl, trivial⟩ (fun _ h => h) rfl ⟨Nat.zero_le _, Nat.le_refl _⟩ ?_
  rintro k g ⟨hk, hc⟩
  refine H_seq ?_
  refine R0 ?_
  refine xV (e_lt (q0 rfl) (q0 rfl)) rfl rfl ?_
  refine XN ?_
  refine thenJ_normal ?_
  refine H_seq ?_
  refine H_cond rfl (fun hlt2 => ?_) (fun hlt2 => ?_)
  · have hk2 : k < s.n := by simpa using hlt2
    obtain ⟨x, hxk, hrx⟩ := h.spots.row hk2
    have hbl : s.q < w.heap.size := by
      obtain ⟨b, off, y, hA, hbl, _, _⟩ := h.spots.at_ hk2
      cases hA; exact hbl
    have hs := countP_snoc t.spots wh pl k x hxk
    refine H_skip ?_
    refine thenJ_normal ?_
    refine H_seq ?_
    refine H_block ?_
    refine H_seq ?_
    refine R0 ?_
    refine xV (e_idx _ Try.underlying54 Try.sizeOf58 (q0 rfl) (q0 rfl) (fun _ => ⟨rfl, by omega⟩)) rfl rfl ?_
    refine xV (eS Try.isAgg58 Try.sizeOf58 (q0 rfl)) rfl rfl ?_
    refine X_alloc Try.zeroValue58 rfl fun b9 => ?_
    refine X_st (v := .agg _) rfl rfl Try.sizeOf58 ?_
    refine XN ?_
    refine thenJ_normal ?_
    refine H_seq ?_
    refine R0 ?_
    refine xV (e_fld Try.underlying58 rfl Try.sizeOf3 rfl (q0 rfl)) rfl rfl ?_
    refine xV (eL Try.isAgg3 (q0 rfl)) rfl rfl ?_
    refine xV (e_mv (v := .int _ _) (q0 rfl)) rfl rfl ?_
    refine xV (e_eq (q0 rfl) (q0 rfl)) rfl rfl ?_
    refine xV (e_mv (v := .bool _) (q0 rfl)) rfl rfl ?_
    refine xVT (e_fld Try.underlying58 rfl Try.sizeOf3 rfl (q0 rfl)) rfl rfl rfl rfl ?_
    refine xVT (eL Try.isAgg3 (q1 rfl)) rfl rfl rfl rfl ?_
    refine xVT (e_mv (v := .int _ _) (q0 rfl)) rfl rfl rfl rfl ?_
    refine xVT (e_eq (q1 rfl) (q1 rfl)) rfl rfl rfl rfl ?_
    refine xV (e_and (q0 rfl) rfl (fun h => by first | rfl | (rw [h]; rfl))) rfl rfl ?_
    refine XN ?_
    refine thenJ_normal ?_
    refine H_cond rfl (fun hb => ?_) (fun hb => ?_)
    · have hs2 : countP (t.spots.take (k + 1)) wh pl = countP (t.spots.take k) wh pl + 1 := by rw [hs, if_pos (by unfold atP; exact hb)]
      refine R0 ?_
      refine xV (e_mv (v := .int _ _) (q0 rfl)) rfl rfl ?_
      refine xV (e_add (q0 rfl) (q0 rfl) (fun _ => ⟨rfl, by omega, by omega⟩)) rfl rfl ?_
      refine xV (e_as (v := .int _ _) (q0 rfl)) rfl rfl ?_
      refine XN ?_
      refine blockJ_normal ?_
      refine thenJ_normal ?_
      refine R0 ?_
      refine xV (e_add (q0 rfl) (q0 rfl) (fun _ => ⟨rfl, by omega, by omega⟩)) rfl rfl ?_
      refine xV (e_mv (v := .int _ _) (q0 rfl)) rfl rfl ?_
      refine XN ?_
      exact loopJ_normal (k + 1) (by repeat (first | exact agree_self | exact agree_over | refine agree_upd rfl ?_ | refine agree_updL rfl ?_ | refine agree_over2 rfl ?_)) ⟨rfl, by show _ = Value.int .i64 (countP (t.spots.take (k + 1)) wh pl : Int); rw [hs2]; rfl, trivial⟩ (fun w hw => mem_nil.2 hw.1) rfl ⟨by omega, by omega⟩ (by show s.n - (k + 1) < s.n - k; omega)
    · have hs2 : countP (t.spots.take (k + 1)) wh pl = countP (t.spots.take k) wh pl := by rw [hs, if_neg (by unfold atP; rw [hb]; decide), Nat.add_zero]
      refine H_skip ?_
      refine blockJ_normal ?_
      refine thenJ_normal ?_
      refine R0 ?_
      refine xV (e_add (q0 rfl) (q0 rfl) (fun _ => ⟨rfl, by omega, by omega⟩)) rfl rfl ?_
      refine xV (e_mv (v := .int _ _) (q0 rfl)) rfl rfl ?_
      refine XN ?_
      exact loopJ_normal (k + 1) (by repeat (first | exact agree_self | exact agree_over | refine agree_upd rfl ?_ | refine agree_updL rfl ?_ | refine agree_over2 rfl ?_)) ⟨rfl, by show _ = Value.int .i64 (countP (t.spots.take (k + 1)) wh pl : Int); rw [hs2]; rfl, trivial⟩ (fun w hw => mem_nil.2 hw.1) rfl ⟨by omega, by omega⟩ (by show s.n - (k + 1) < s.n - k; omega)
  · have hkn : k = s.n := by simp at hlt2; omega
    refine H_exit ?_
    refine thenJ_exit ?_
    refine loopJ_exit ?_
    refine blockJ_hit ?_
    refine thenJ_normal ?_
    refine H_seq ?_
    refine R0 ?_
    refine xV (e_mv (v := .int _ _) (q0 rfl)) rfl rfl ?_
    refine xV (e_as (v := .int _ _) (q0 rfl)) rfl rfl ?_
    refine XN ?_
    refine thenJ_normal ?_
    refine H_ret ?_
    exact ret1 (v := .int _ _) rfl rfl rfl fun w' hw => ⟨ret_int (by rw [hkn, ← hl, List.take_length]), hw.1⟩

theorem pairs_mem {es : List MapEntry} {ps : List (Int × Value)} (h : PairsAre es ps) : (∀ e ∈ es, ∃ p ∈ ps, pairIs e p) ∧ (∀ p ∈ ps, ∃ e ∈ es, pairIs e p) := by
  induction h with
  | nil => exact ⟨fun _ h => by simp at h, fun _ h => by simp at h⟩
  | cons h1 _ ih =>
    refine ⟨fun e he => ?_, fun p hp => ?_⟩
    · rcases List.mem_cons.1 he with rfl | he
      · exact ⟨_, List.mem_cons_self .., h1⟩
      · obtain ⟨p, hp, hq⟩ := ih.1 e he
        exact ⟨p, List.mem_cons_of_mem _ hp, hq⟩
    · rcases List.mem_cons.1 hp with rfl | hp
      · exact ⟨_, List.mem_cons_self .., h1⟩
      · obtain ⟨e, he, hq⟩ := ih.2 p hp
        exact ⟨e, List.mem_cons_of_mem _ he, hq⟩
theorem left_less (es : List MapEntry) (seen : Array Nat) (e : MapEntry) (he : e ∈ es) (hs : seen.contains e.born = false) : (es.filter fun x => !(seen.push e.born).contains x.born).length < (es.filter fun x => !seen.contains x.born).length := by
  have hsub : ∀ x : MapEntry, (!(seen.push e.born).contains x.born) = true → (!seen.contains x.born) = true := fun x hx => by
    simp at hx ⊢; exact hx.1
  have key : ∀ l : List MapEntry, e ∈ l → (l.filter fun x => !(seen.push e.born).contains x.born).length < (l.filter fun x => !seen.contains x.born).length := by
    intro l
    induction l with
    | nil => intro h; cases h
    | cons y l ih =>
      intro hm
      have hle : ∀ l : List MapEntry, (l.filter fun x => !(seen.push e.born).contains x.born).length ≤ (l.filter fun x => !seen.contains x.born).length := by
        intro l
        induction l with
        | nil => simp
        | cons z l ih2 =>
          simp only [List.filter_cons]
          split
          · rename_i h; rw [if_pos (hsub z h)]; simp only [List.length_cons]; omega
          · split
            · simp only [List.length_cons]; omega
            · exact ih2
      rcases List.mem_cons.1 hm with rfl | hm
      · simp only [List.filter_cons]
        rw [if_neg (by simp), if_pos (by simpa using hs)]
        have := hle l
        simp only [List.length_cons]; omega
      · have := ih hm
        simp only [List.filter_cons]
        split
        · rename_i h; rw [if_pos (hsub y h)]; simp only [List.length_cons]; omega
        · split
          · simp only [List.length_cons]; omega
          · exact this
  exact key es he
theorem born_inj {es : List MapEntry} {clock : Nat} (h : BornOk es clock) {x y : MapEntry} (hx : x ∈ es) (hy : y ∈ es) (he : x.born = y.born) : x = y := by
  obtain ⟨i, hi, rfl⟩ := List.getElem_of_mem hx
  obtain ⟨j, hj, rfl⟩ := List.getElem_of_mem hy
  have := List.pairwise_iff_getElem.1 h.asc
  rcases Nat.lt_trichotomy i j with h1 | h1 | h1
  · have := this i j hi hj h1; omega
  · subst h1; rfl
  · have := this j i hj hi h1; omega
theorem riding_w {f : Fl} {a : FA} {s : SA} {t : TS} (rider : Int) (w : World) (h : StAt w f a s t) : Calls Try.prog 84 #[.pointer (some ⟨s.sb, 0, none⟩), .int .i64 rider] w fun e w' => e = .returned (.bool (ridingP t.open_ rider)) ∧ Bel w w' := by
  have hlt := h.lt
  have hrow := h.row
  obtain ⟨es, clock, hmap, hpairs, hB⟩ := h.open_
  have hmlt : s.m < w.heap.size := (Array.getElem?_eq_some_iff.1 hmap).1
  have hmm : ∀ (L : List E.Item) w', Mem w L w' → w'.heap[s.m]? = some (.map es clock) := fun L w' hw => (hw.1.block s.m hmlt).trans hmap
  obtain ⟨hp1, hp2⟩ := pairs_mem hpairs
  refine H_enter Try.func84 rfl Try.ntmps84 rfl ?_
  refine H_seq ?_
  refine R0 ?_
  refine xV (e_as (v := .bool _) (q0 rfl)) rfl rfl ?_
  refine XN ?_
  refine thenJ_normal ?_
  refine H_seq ?_
  refine H_seq ?_
  refine R0 ?_
  refine xV (e_mv (v := .pointer _) (q0 rfl)) rfl rfl ?_
  refine xV (e_nilc (q0 rfl)) rfl rfl ?_
  refine xV (e_fld Try.underlying89 rfl Try.sizeOf86 rfl (q0 rfl)) rfl rfl ?_
  refine xV (eL Try.isAgg86 (q0 rfl)) rfl rfl ?_
  refine X_eff (f_range Try.underlying86 (hmm _) rfl rfl fun r => ?_)
  refine XN ?_
  refine thenJ_normal ?_
  refine H_block ?_
  refine H_loop [4, 6, 12, 13, 14, 15, 16, 17, 18, 19, 20, 21] (fun _ : Array Nat => []) (fun seen => [mit r s.m clock seen clock]) (fun seen => ∀ e ∈ es.toList, seen.contains e.born = true → ∀ b tr, (e.val = .pointer (some ⟨b, 0, none⟩)) → (∃ k, (k, b, tr) ∈ t.ps) → tr.rider ≠ rider) (fun seen => (es.toList.filter fun x => !seen.contains x.born).length) #[] trivial (fun _ h => h) rfl (fun e _ hc => by simp at hc) ?_
  rintro seen g hinv
  refine H_seq ?_
  refine R0 ?_
  refine X_eff (f_next 0 (hmm _) hB rfl rfl (Nat.le_refl _) rfl (fun hall => ?_) (fun e he hs => ?_))
  · refine xV (e_ext (q0 rfl) rfl) rfl rfl ?_
    refine XN ?_
    refine thenJ_normal ?_
    refine H_seq ?_
    refine H_cond rfl (fun hb => ?_) (fun hb => ?_)
    · cases hb
    · refine H_exit ?_
      refine thenJ_exit ?_
      refine loopJ_exit ?_
      refine blockJ_hit ?_
      refine thenJ_normal ?_
      refine H_seq ?_
      refine R0 ?_
      refine xV (e_as (v := .bool _) (q0 rfl)) rfl rfl ?_
      refine XN ?_
      refine thenJ_normal ?_
      refine H_ret ?_
      exact ret1 (v := .bool _) rfl rfl rfl fun w' hw => ⟨ret_bool (by
        unfold ridingP TS.open_
        rw [eq_comm, List.any_eq_false]
        intro p hp
        obtain ⟨q, hq, rfl⟩ := List.mem_map.1 hp
        obtain ⟨e, he, hk, hv⟩ := hp2 (q.1, .pointer (some ⟨q.2.1, 0, none⟩)) (List.mem_map.2 ⟨q, hq, rfl⟩)
        simpa using hinv e he (hall e he) q.2.1 q.2.2 hv ⟨q.1, hq⟩), hw.1⟩
  · obtain ⟨pv, hpv, hk, hv⟩ := hp1 e he
    obtain ⟨q, hq, rfl⟩ := List.mem_map.1 hpv
    obtain ⟨ek, ev', eb⟩ := e
    simp only at hv
    subst hv
    obtain ⟨hql, hqr⟩ := h.trips q hq
    refine xV (e_ext (q0 rfl) rfl) rfl rfl ?_
    refine XN ?_
    refine thenJ_normal ?_
    refine H_seq ?_
    refine H_cond rfl (fun hb => ?_) (fun hb => ?_)
    · refine H_skip ?_
      refine thenJ_normal ?_
      refine H_block ?_
      refine H_seq ?_
      refine R0 ?_
      refine xV (e_entry 0 (hmm _) hB he (q0 rfl) rfl) rfl rfl ?_
      refine xV (e_ext (q0 rfl) rfl) rfl rfl ?_
      refine xV (e_as (v := .pointer _) (q0 rfl)) rfl rfl ?_
      refine XN ?_
      refine thenJ_normal ?_
      refine H_seq ?_
      refine R0 ?_
      refine xV (e_mv (v := .pointer _) (q0 rfl)) rfl rfl ?_
      refine xV (e_nilc (q0 rfl)) rfl rfl ?_
      refine xV (e_fld Try.underlying126 rfl Try.sizeOf3 rfl (q0 rfl)) rfl rfl ?_
      refine xV (eL Try.isAgg3 (q0 rfl)) rfl rfl ?_
      refine xV (e_mv (v := .int _ _) (q0 rfl)) rfl rfl ?_
      refine xV (e_eq (q0 rfl) (q0 rfl)) rfl rfl ?_
      refine XN ?_
      refine thenJ_normal ?_
      refine H_cond rfl (fun hrd => ?_) (fun hrd => ?_)
      · refine H_seq ?_
        refine R0 ?_
        refine xV (e_as (v := .bool _) (q0 rfl)) rfl rfl ?_
        refine XN ?_
        refine thenJ_normal ?_
        refine H_ret ?_
        refine blockJ_ret ?_
        refine loopJ_ret ?_
        refine blockJ_ret ?_
        refine thenJ_ret ?_
        exact ret1 (v := .bool _) rfl rfl rfl fun w' hw => ⟨ret_bool (by
          unfold ridingP TS.open_
          rw [eq_comm, List.any_eq_true]
          exact ⟨(q.1, q.2.2), List.mem_map.2 ⟨q, hq, rfl⟩, hrd⟩), hw.1⟩
      · refine H_skip ?_
        refine blockJ_normal ?_
        exact loopJ_normal (seen.push eb) (by repeat (first | exact agree_self | exact agree_over | refine agree_upd rfl ?_ | refine agree_updL rfl ?_ | refine agree_over2 rfl ?_)) trivial (fun _ h => h) rfl (fun e' he' hc b tr hb' ⟨k, hk'⟩ => by
          by_cases hs' : seen.contains e'.born = true
          · exact hinv e' he' hs' b tr hb' ⟨k, hk'⟩
          · have hbe : e'.born = eb := by simp at hc hs'; exact hc.resolve_left hs'
            have := born_inj hB he' he hbe
            subst this
            simp only [Value.pointer.injEq, Option.some.injEq, Addr.mk.injEq, and_true] at hb'
            subst hb'
            have h1 := (h.trips _ hk').2 0 (.int .i64 tr.rider) rfl
            have h2 := hqr 0 (.int .i64 q.2.2.rider) rfl
            rw [h1] at h2
            simp only [Option.some.injEq, Value.int.injEq, true_and] at h2
            rw [h2]
            simpa using hrd) (left_less es.toList seen ⟨ek, _, eb⟩ he hs)
    · cases hb

def tripPtr (ps : List (Int × Nat × PT)) (key : Int) : Option Addr := (ps.find? fun p => p.1 == key).map fun p => ⟨p.2.1, 0, none⟩
theorem ptrs_val (ps : List (Int × Nat × PT)) (key : Int) : (mlook (ptrs ps) key).getD (.pointer none) = .pointer (tripPtr ps key) := by
  rw [ptrs_look]; unfold tripPtr
  cases ps.find? (fun p => p.1 == key) <;> rfl
theorem used_val (l : List Int) (key : Int) : (mlook (usedPairs l) key).getD (.bool false) = .bool (usedP l key) := by
  unfold mlook usedPairs usedP
  induction l with
  | nil => rfl
  | cons x l ih =>
    by_cases hx : x = key
    · simp [hx]
    · simp only [List.map_cons, List.any_cons]
      rw [List.find?_cons_of_neg (by simpa using hx), ih]
      simp [hx]
theorem look_plain (ps : List (Int × Nat × PT)) (used : List Int) (sp : List Sp) (key : Int) : lookP (TS.mk sp ps used).open_ key = (ps.find? fun p => p.1 == key).map fun p => p.2.2 := by
  unfold lookP TS.open_
  induction ps with
  | nil => rfl
  | cons p ps ih =>
    by_cases hx : p.1 == key
    · simp [hx]
    · simp only [List.map_cons] at ih ⊢
      rw [List.find?_cons_of_neg (by simpa using hx), List.find?_cons_of_neg (by simpa using hx)]
      exact ih

theorem ck1 {tr : List Int} {s : PS} {e : Ev} {x : Sp} (h : e.kind = 1) (hx : s.spots.getD e.bike.toNat default = x) : checkP tr s e = if (!parkedS x && decide (0 < (countP s.spots 1 e.place : Int))) = true then 22 else refuse (parkedS x) 23 := by
  subst hx; unfold checkP; simp only; rw [if_pos h]
theorem ck2 {tr : List Int} {s : PS} {e : Ev} {x : Sp} (h : e.kind = 2) (hx : s.spots.getD e.bike.toNat default = x) : checkP tr s e = refuse (parkedS x) 23 := by
  subst hx; unfold checkP; simp only; rw [if_neg (by omega), if_pos h]
theorem ck3 {tr : List Int} {s : PS} {e : Ev} {x : Sp} (h : e.kind = 3) (hx : s.spots.getD e.bike.toNat default = x) : checkP tr s e = if parkedS x = false then 23 else if usedP s.used e.ride = true then 6 else refuse (ridingP s.open_ e.rider) 22 := by
  subst hx; unfold checkP; simp only; rw [if_neg (by omega), if_neg (by omega), if_pos h]
theorem ck4 {tr : List Int} {s : PS} {e : Ev} {x : Sp} (h : e.kind = 4) (hx : s.spots.getD e.bike.toNat default = x) : checkP tr s e = match lookP s.open_ e.ride with | none => 7 | some t => if parkedS x = false then 23 else refuse t.paused 12 := by
  subst hx; unfold checkP; simp only; rw [if_neg (by omega), if_neg (by omega), if_neg (by omega), if_pos h]
  rfl
theorem ck5 {tr : List Int} {s : PS} {e : Ev} {x : Sp} (h : e.kind = 5 ∨ e.kind = 6) (hx : s.spots.getD e.bike.toNat default = x) : checkP tr s e = if x.where_ ≠ 3 then 23 else refuse (x.paused == decide (e.kind = 5)) 12 := by
  subst hx; unfold checkP; simp only; rw [if_neg (by omega), if_neg (by omega), if_neg (by omega), if_neg (by omega), if_pos h]
theorem ck7 {tr : List Int} {s : PS} {e : Ev} {x : Sp} (h : e.kind = 7) (hx : s.spots.getD e.bike.toNat default = x) : checkP tr s e = if (decide (x.where_ = 3) || decide (x.where_ = 4)) = true then 23 else refuse (decide (tr.getD e.place.toNat 0 ≤ (countP s.spots 4 e.place : Int))) 24 := by
  subst hx; unfold checkP; simp only; rw [if_neg (by omega), if_neg (by omega), if_neg (by omega), if_neg (by omega), if_neg (by omega), if_pos h]
theorem ck8 {tr : List Int} {s : PS} {e : Ev} {x : Sp} (h : e.kind = 8) (hx : s.spots.getD e.bike.toNat default = x) : checkP tr s e = refuse (decide (x.where_ = 3) || decide (x.where_ = 5)) 23 := by
  subst hx; unfold checkP; simp only; rw [if_neg (by omega), if_neg (by omega), if_neg (by omega), if_neg (by omega), if_neg (by omega), if_neg (by omega), if_pos h]
theorem ck9 {tr : List Int} {s : PS} {e : Ev} {x : Sp} (h : e.kind = 9) (hx : s.spots.getD e.bike.toNat default = x) : checkP tr s e = refuse (decide (x.where_ = 5) || decide (x.where_ = 6)) 23 := by
  subst hx; unfold checkP; simp only; rw [if_neg (by omega), if_neg (by omega), if_neg (by omega), if_neg (by omega), if_neg (by omega), if_neg (by omega), if_neg (by omega), if_pos h]
theorem ck0 {tr : List Int} {s : PS} {e : Ev} (h : e.kind < 1 ∨ 9 < e.kind) : checkP tr s e = 0 := by
  unfold checkP; simp only; rw [if_neg (by omega), if_neg (by omega), if_neg (by omega), if_neg (by omega), if_neg (by omega), if_neg (by omega), if_neg (by omega), if_neg (by omega)]

attribute [local irreducible] parkedS countP refuse ridingP usedP tripPtr
set_option maxRecDepth 20000 in
theorem scheck_w {f : Fl} {a : FA} {s : SA} {t : TS} (e : Ev) (w : World) (h : StAt w f a s t) (hbike : 0 ≤ e.bike ∧ e.bike < s.n) (hpl : e.kind = 7 → 0 ≤ e.place ∧ e.place < f.trucks.length) :
    Calls Try.prog 64 #[.pointer (some ⟨s.sb, 0, none⟩), .agg e.cells.toArray] w fun r w' => r = .returned (.int .i64 (checkP f.trucks t.plain e)) ∧ Bel w w' := by
  have hlt := h.lt
  have hrow := h.row
  obtain ⟨k, hk⟩ : ∃ k : Nat, e.bike = k := ⟨e.bike.toNat, by omega⟩
  have hkn : k < s.n := by omega
  obtain ⟨x, hxk, hrx⟩ := h.spots.row hkn
  have hq : s.q < w.heap.size := by
    obtain ⟨b, off, y, hA, hbl, _, _⟩ := h.spots.at_ hkn
    cases hA; exact hbl
  have hx : t.plain.spots.getD e.bike.toNat default = x := by
    rw [hk, Int.toNat_natCast, List.getD_eq_getElem?_getD]
    show (t.spots[k]?).getD default = x
    rw [hxk]; rfl
  have hopen : ∀ key, lookP t.plain.open_ key = (t.ps.find? fun p => p.1 == key).map fun p => p.2.2 := fun key => look_plain t.ps t.used t.spots key
  refine H_enter Try.func64 rfl Try.ntmps64 rfl ?_
  refine H_seq ?_
  refine R0 ?_
  refine X_box (v := .agg _) rfl rfl fun b3 => ?_
  refine xV (e_as (v := .int _ _) (q0 rfl)) rfl rfl ?_
  refine XN ?_
  refine thenJ_normal ?_
  refine H_seq ?_
  refine RA rfl (by decide +kernel) ?_
  refine aV 0 (by decide +kernel) rfl (e_mv (v := .pointer _) (q0 rfl)) rfl ?_
  refine aV 1 (by decide +kernel) rfl (e_nilc (q0 rfl)) rfl ?_
  refine aV 2 (by decide +kernel) rfl (e_fld Try.underlying89 rfl Try.sizeOf54 rfl (q0 rfl)) rfl ?_
  refine aV 3 (by decide +kernel) rfl (eL Try.isAgg54 (q0 rfl)) rfl ?_
  refine aV 4 (by decide +kernel) rfl (e_fld Try.underlying50 rfl Try.sizeOf3 rfl (q0 rfl)) rfl ?_
  refine aV 5 (by decide +kernel) rfl (eL Try.isAgg3 (q0 rfl)) rfl ?_
  refine aV 6 (by decide +kernel) rfl (e_idx k Try.underlying54 Try.sizeOf58 (q0 rfl) (q0 rfl) (fun _ => ⟨hk, hkn⟩)) rfl ?_
  refine aV 7 (by decide +kernel) rfl (eS Try.isAgg58 Try.sizeOf58 (q0 rfl)) rfl ?_
  refine rdy1 (i := 8) (by decide +kernel) (sub_drop 0) ?_
  refine aL rfl (f_alloc Try.zeroValue58 rfl fun b5 => ?_)
  refine rdy1 (i := 9) (by decide +kernel) (sub_drop 1) ?_
  refine aL rfl (f_st (v := .agg _) rfl rfl Try.sizeOf58 ?_)
  refine aZ (by decide +kernel) (sub_drop 1) ?_
  refine thenJ_normal ?_
  refine H_seq ?_
  refine R1 rfl (by decide +kernel) ?_
  refine xV (e_mv (v := .pointer _) (q0 rfl)) rfl rfl ?_
  refine xV (e_nilc (q0 rfl)) rfl rfl ?_
  refine xV (e_fld Try.underlying89 rfl Try.sizeOf86 rfl (q0 rfl)) rfl rfl ?_
  refine xV (eL Try.isAgg86 (q0 rfl)) rfl rfl ?_
  refine xV (e_fld Try.underlying50 rfl Try.sizeOf3 rfl (q0 rfl)) rfl rfl ?_
  refine xV (eL Try.isAgg3 (q0 rfl)) rfl rfl ?_
  refine xV (e_lookG Try.underlying86 Try.underlying3 Try.zeroValue122 (q0 rfl) (q0 rfl) (h.open_.mem) (fun _ => ptrs_val t.ps e.ride)) rfl rfl ?_
  refine xV (e_as (v := .pointer _) (q0 rfl)) rfl rfl ?_
  refine XN ?_
  refine thenJ_normal ?_
  refine H_seq ?_
  refine R0 ?_
  refine xV (e_as (q0 rfl)) rfl rfl ?_
  refine XN ?_
  refine thenJ_normal ?_
  refine H_seq ?_
  refine H_seq ?_
  refine R0 ?_
  refine xV (e_fld Try.underlying50 rfl Try.sizeOf3 rfl (q0 rfl)) rfl rfl ?_
  refine xV (eL Try.isAgg3 (q0 rfl)) rfl rfl ?_
  refine XN ?_
  refine thenJ_normal ?_
  refine H_block ?_
  refine H_seq ?_
  refine H_block ?_
  refine H_seq ?_
  refine H_block ?_
  refine H_seq ?_
  refine H_block ?_
  refine H_seq ?_
  refine H_block ?_
  refine H_seq ?_
  refine H_block ?_
  refine H_seq ?_
  refine H_block ?_
  refine H_seq ?_
  refine H_block ?_
  refine H_seq ?_
  refine H_block ?_
  refine H_seq ?_
  refine H_seq ?_
  refine H_seq ?_
  refine R0 ?_
  refine xV (e_eq (q0 rfl) (q0 rfl)) rfl rfl ?_
  refine xV (e_as (v := .bool _) (q0 rfl)) rfl rfl ?_
  refine XN ?_
  refine thenJ_normal ?_
  refine H_cond rfl (fun h1 => ?_) (fun h1 => ?_)
  · have hk1 : e.kind = 1 := by simpa using h1
    refine H_exit ?_
    refine thenJ_exit ?_
    refine thenJ_exit ?_
    refine blockJ_hit ?_
    refine thenJ_normal ?_
    refine H_seq ?_
    refine R0 ?_
    refine xV (eS Try.isAgg58 Try.sizeOf58 (q0 rfl)) rfl rfl ?_
    refine xC (en Try.call82 (ha1 (q0 rfl))) (fun _ w _ => parked_w x w) rfl rfl ?_
    refine xV (e_not (q0 rfl)) rfl rfl ?_
    refine xV (e_mv (v := .bool _) (q0 rfl)) rfl rfl ?_
    refine xVT (e_mv (v := .pointer _) (q0 rfl)) rfl rfl rfl rfl ?_
    refine xVT (e_fld Try.underlying50 rfl Try.sizeOf3 rfl (q0 rfl)) rfl rfl rfl rfl ?_
    refine xVT (eL Try.isAgg3 (q1 rfl)) rfl rfl rfl rfl ?_
    refine xCT (en Try.call83 (ha3 (q1 (v := .pointer _) rfl) (q0 rfl) (q1 (v := .int _ _) rfl))) (fun _ w hm => count_w 1 e.place w (h.mem hm)) rfl rfl rfl rfl ?_
    refine xVT (e_gt (q1 rfl) (q0 rfl)) rfl rfl rfl rfl ?_
    refine xV (e_and (q0 rfl) rfl (fun h => by first | rfl | (rw [h]; rfl))) rfl rfl ?_
    refine XN ?_
    refine thenJ_normal ?_
    refine H_cond rfl (fun hb => ?_) (fun hb => ?_)
    · refine H_seq ?_
      refine R0 ?_
      refine xV (e_as (v := .int _ _) (q0 rfl)) rfl rfl ?_
      refine XN ?_
      refine thenJ_normal ?_
      refine H_ret ?_
      refine blockJ_ret ?_
      refine thenJ_ret ?_
      refine blockJ_ret ?_
      refine thenJ_ret ?_
      refine blockJ_ret ?_
      refine thenJ_ret ?_
      refine blockJ_ret ?_
      refine thenJ_ret ?_
      refine blockJ_ret ?_
      refine thenJ_ret ?_
      refine blockJ_ret ?_
      refine thenJ_ret ?_
      refine blockJ_ret ?_
      refine thenJ_ret ?_
      refine blockJ_ret ?_
      refine thenJ_ret ?_
      exact ret1 (v := .int _ _) rfl rfl rfl fun w' hw => ⟨ret_int (by rw [ck1 hk1 hx]; exact (if_pos hb).symm), hw.1⟩
    · refine H_skip ?_
      refine blockJ_normal ?_
      refine thenJ_normal ?_
      refine H_seq ?_
      refine H_seq ?_
      refine R0 ?_
      refine xV (e_mv (q0 rfl)) rfl rfl ?_
      refine xV (eS Try.isAgg58 Try.sizeOf58 (q0 rfl)) rfl rfl ?_
      refine xC (en Try.call82 (ha1 (q0 rfl))) (fun _ w _ => parked_w x w) rfl rfl ?_
      refine xC (enV Try.call81 (q0 rfl) (fun _ => rfl)) (fun _ w _ => refused_w (parkedS x) 23 w) rfl rfl ?_
      refine xV (e_as (v := .int _ _) (q0 rfl)) rfl rfl ?_
      refine XN ?_
      refine thenJ_normal ?_
      refine H_ret ?_
      refine thenJ_ret ?_
      refine blockJ_ret ?_
      refine thenJ_ret ?_
      refine blockJ_ret ?_
      refine thenJ_ret ?_
      refine blockJ_ret ?_
      refine thenJ_ret ?_
      refine blockJ_ret ?_
      refine thenJ_ret ?_
      refine blockJ_ret ?_
      refine thenJ_ret ?_
      refine blockJ_ret ?_
      refine thenJ_ret ?_
      refine blockJ_ret ?_
      refine thenJ_ret ?_
      exact ret1 (v := .int _ _) rfl rfl rfl fun w' hw => ⟨ret_int (by rw [ck1 hk1 hx]; exact (if_neg (show ¬ (!parkedS x && decide (0 < (countP t.spots 1 e.place : Int))) = true by rw [hb]; decide)).symm), hw.1⟩
  · refine H_skip ?_
    refine thenJ_normal ?_
    refine H_seq ?_
    refine H_seq ?_
    refine R0 ?_
    refine xV (e_eq (q0 rfl) (q0 rfl)) rfl rfl ?_
    refine xV (e_as (v := .bool _) (q0 rfl)) rfl rfl ?_
    refine XN ?_
    refine thenJ_normal ?_
    refine H_cond rfl (fun h2 => ?_) (fun h2 => ?_)
    · have hk2 : e.kind = 2 := by simpa using h2
      refine H_exit ?_
      refine thenJ_exit ?_
      refine thenJ_exit ?_
      refine blockJ_pass rfl ?_
      refine thenJ_exit ?_
      refine blockJ_hit ?_
      refine thenJ_normal ?_
      refine H_seq ?_
      refine H_seq ?_
      refine R0 ?_
      refine xV (e_mv (q0 rfl)) rfl rfl ?_
      refine xV (eS Try.isAgg58 Try.sizeOf58 (q0 rfl)) rfl rfl ?_
      refine xC (en Try.call82 (ha1 (q0 rfl))) (fun _ w _ => parked_w x w) rfl rfl ?_
      refine xC (enV Try.call81 (q0 rfl) (fun _ => rfl)) (fun _ w _ => refused_w (parkedS x) 23 w) rfl rfl ?_
      refine xV (e_as (v := .int _ _) (q0 rfl)) rfl rfl ?_
      refine XN ?_
      refine thenJ_normal ?_
      refine H_ret ?_
      refine thenJ_ret ?_
      refine blockJ_ret ?_
      refine thenJ_ret ?_
      refine blockJ_ret ?_
      refine thenJ_ret ?_
      refine blockJ_ret ?_
      refine thenJ_ret ?_
      refine blockJ_ret ?_
      refine thenJ_ret ?_
      refine blockJ_ret ?_
      refine thenJ_ret ?_
      refine blockJ_ret ?_
      refine thenJ_ret ?_
      refine blockJ_ret ?_
      refine thenJ_ret ?_
      exact ret1 (v := .int _ _) rfl rfl rfl fun w' hw => ⟨ret_int (ck2 hk2 hx).symm, hw.1⟩
    · refine H_skip ?_
      refine thenJ_normal ?_
      refine H_seq ?_
      refine H_seq ?_
      refine R0 ?_
      refine xV (e_eq (q0 rfl) (q0 rfl)) rfl rfl ?_
      refine xV (e_as (v := .bool _) (q0 rfl)) rfl rfl ?_
      refine XN ?_
      refine thenJ_normal ?_
      refine H_cond rfl (fun h3 => ?_) (fun h3 => ?_)
      · have hk3 : e.kind = 3 := by simpa using h3
        refine H_exit ?_
        refine thenJ_exit ?_
        refine thenJ_exit ?_
        refine blockJ_pass rfl ?_
        refine thenJ_exit ?_
        refine blockJ_pass rfl ?_
        refine thenJ_exit ?_
        refine blockJ_hit ?_
        refine thenJ_normal ?_
        refine H_seq ?_
        refine H_seq ?_
        refine H_block ?_
        refine H_seq ?_
        refine R0 ?_
        refine xV (eS Try.isAgg58 Try.sizeOf58 (q0 rfl)) rfl rfl ?_
        refine xC (en Try.call82 (ha1 (q0 rfl))) (fun _ w _ => parked_w x w) rfl rfl ?_
        refine xV (e_not (q0 rfl)) rfl rfl ?_
        refine xV (e_as (v := .bool _) (q0 rfl)) rfl rfl ?_
        refine XN ?_
        refine thenJ_normal ?_
        refine H_cond rfl (fun hb => ?_) (fun hb => ?_)
        · refine H_seq ?_
          refine R0 ?_
          refine xV (e_as (v := .int _ _) (q0 rfl)) rfl rfl ?_
          refine XN ?_
          refine thenJ_normal ?_
          refine H_ret ?_
          refine blockJ_ret ?_
          refine thenJ_ret ?_
          refine thenJ_ret ?_
          refine blockJ_ret ?_
          refine thenJ_ret ?_
          refine blockJ_ret ?_
          refine thenJ_ret ?_
          refine blockJ_ret ?_
          refine thenJ_ret ?_
          refine blockJ_ret ?_
          refine thenJ_ret ?_
          refine blockJ_ret ?_
          refine thenJ_ret ?_
          refine blockJ_ret ?_
          refine thenJ_ret ?_
          exact ret1 (v := .int _ _) rfl rfl rfl fun w' hw => ⟨ret_int (by rw [ck3 hk3 hx]; exact (if_pos (by simpa using hb)).symm), hw.1⟩
        · refine H_seq ?_
          refine R1 rfl (by decide +kernel) ?_
          refine xV (e_mv (v := .pointer _) (q0 rfl)) rfl rfl ?_
          refine xV (e_nilc (q0 rfl)) rfl rfl ?_
          refine xV (e_fld Try.underlying89 rfl Try.sizeOf87 rfl (q0 rfl)) rfl rfl ?_
          refine xV (eL Try.isAgg87 (q0 rfl)) rfl rfl ?_
          refine xV (e_fld Try.underlying50 rfl Try.sizeOf3 rfl (q0 rfl)) rfl rfl ?_
          refine xV (eL Try.isAgg3 (q0 rfl)) rfl rfl ?_
          refine xV (e_lookG Try.underlying87 Try.underlying3 Try.zeroValue4 (q0 rfl) (q0 rfl) (h.used.mem) (fun _ => used_val t.used e.ride)) rfl rfl ?_
          refine xV (e_as (v := .bool _) (q0 rfl)) rfl rfl ?_
          refine XN ?_
          refine thenJ_normal ?_
          refine H_cond rfl (fun hu => ?_) (fun hu => ?_)
          · refine H_seq ?_
            refine R0 ?_
            refine xV (e_as (v := .int _ _) (q0 rfl)) rfl rfl ?_
            refine XN ?_
            refine thenJ_normal ?_
            refine H_ret ?_
            refine blockJ_ret ?_
            refine thenJ_ret ?_
            refine thenJ_ret ?_
            refine blockJ_ret ?_
            refine thenJ_ret ?_
            refine blockJ_ret ?_
            refine thenJ_ret ?_
            refine blockJ_ret ?_
            refine thenJ_ret ?_
            refine blockJ_ret ?_
            refine thenJ_ret ?_
            refine blockJ_ret ?_
            refine thenJ_ret ?_
            refine blockJ_ret ?_
            refine thenJ_ret ?_
            exact ret1 (v := .int _ _) rfl rfl rfl fun w' hw => ⟨ret_int (by rw [ck3 hk3 hx, if_neg (by simpa using hb)]; exact (if_pos hu).symm), hw.1⟩
          · refine H_skip ?_
            refine blockJ_normal ?_
            refine thenJ_normal ?_
            refine H_seq ?_
            refine R0 ?_
            refine xV (e_mv (q0 rfl)) rfl rfl ?_
            refine xV (e_mv (v := .pointer _) (q0 rfl)) rfl rfl ?_
            refine xV (e_fld Try.underlying50 rfl Try.sizeOf3 rfl (q0 rfl)) rfl rfl ?_
            refine xV (eL Try.isAgg3 (q0 rfl)) rfl rfl ?_
            refine xC (en Try.call84 (ha2 (q0 rfl) (q0 rfl))) (fun _ w hm => riding_w e.rider w (h.mem hm)) rfl rfl ?_
            refine xC (enV Try.call81 (q0 rfl) (fun _ => rfl)) (fun _ w _ => refused_w (ridingP t.open_ e.rider) 22 w) rfl rfl ?_
            refine xV (e_as (v := .int _ _) (q0 rfl)) rfl rfl ?_
            refine XN ?_
            refine thenJ_normal ?_
            refine H_ret ?_
            refine thenJ_ret ?_
            refine blockJ_ret ?_
            refine thenJ_ret ?_
            refine blockJ_ret ?_
            refine thenJ_ret ?_
            refine blockJ_ret ?_
            refine thenJ_ret ?_
            refine blockJ_ret ?_
            refine thenJ_ret ?_
            refine blockJ_ret ?_
            refine thenJ_ret ?_
            refine blockJ_ret ?_
            refine thenJ_ret ?_
            exact ret1 (v := .int _ _) rfl rfl rfl fun w' hw => ⟨ret_int (by rw [ck3 hk3 hx, if_neg (by simpa using hb)]; exact (if_neg (show ¬ usedP t.used e.ride = true by rw [hu]; decide)).symm), hw.1⟩
      · refine H_skip ?_
        refine thenJ_normal ?_
        refine H_seq ?_
        refine H_seq ?_
        refine R0 ?_
        refine xV (e_eq (q0 rfl) (q0 rfl)) rfl rfl ?_
        refine xV (e_as (v := .bool _) (q0 rfl)) rfl rfl ?_
        refine XN ?_
        refine thenJ_normal ?_
        refine H_cond rfl (fun h4 => ?_) (fun h4 => ?_)
        · have hk4 : e.kind = 4 := by simpa using h4
          have hck := ck4 (tr := f.trucks) hk4 hx
          rw [hopen] at hck
          refine H_exit ?_
          refine thenJ_exit ?_
          refine thenJ_exit ?_
          refine blockJ_pass rfl ?_
          refine thenJ_exit ?_
          refine blockJ_pass rfl ?_
          refine thenJ_exit ?_
          refine blockJ_pass rfl ?_
          refine thenJ_exit ?_
          refine blockJ_hit ?_
          refine thenJ_normal ?_
          refine H_seq ?_
          refine H_seq ?_
          refine H_block ?_
          refine H_seq ?_
          refine R0 ?_
          refine xV (e_mv (v := .pointer _) (q0 rfl)) rfl rfl ?_
          refine xV (e_eqNilP Try.underlying122 (q0 rfl)) rfl rfl ?_
          refine xV (e_as (v := .bool _) (q0 rfl)) rfl rfl ?_
          refine XN ?_
          refine thenJ_normal ?_
          refine H_cond rfl (fun hn => ?_) (fun hn => ?_)
          · have hnone : t.ps.find? (fun p => p.1 == e.ride) = none := by
              unfold tripPtr at hn
              cases hf : t.ps.find? (fun p => p.1 == e.ride) with
              | none => rfl
              | some p => rw [hf] at hn; cases hn
            rw [hnone] at hck
            refine H_seq ?_
            refine R0 ?_
            refine xV (e_as (v := .int _ _) (q0 rfl)) rfl rfl ?_
            refine XN ?_
            refine thenJ_normal ?_
            refine H_ret ?_
            refine blockJ_ret ?_
            refine thenJ_ret ?_
            refine thenJ_ret ?_
            refine blockJ_ret ?_
            refine thenJ_ret ?_
            refine blockJ_ret ?_
            refine thenJ_ret ?_
            refine blockJ_ret ?_
            refine thenJ_ret ?_
            refine blockJ_ret ?_
            refine thenJ_ret ?_
            refine blockJ_ret ?_
            refine thenJ_ret ?_
            exact ret1 (v := .int _ _) rfl rfl rfl fun w' hw => ⟨ret_int hck.symm, hw.1⟩
          · obtain ⟨p, hf⟩ : ∃ p, t.ps.find? (fun p => p.1 == e.ride) = some p := by
              unfold tripPtr at hn
              cases hf : t.ps.find? (fun p => p.1 == e.ride) with
              | none => rw [hf] at hn; cases hn
              | some p => exact ⟨p, rfl⟩
            have hptr : tripPtr t.ps e.ride = some ⟨p.2.1, 0, none⟩ := by unfold tripPtr; rw [hf]; rfl
            rw [hf] at hck
            rw [hptr]
            obtain ⟨hql, hqr⟩ := h.trips p (List.mem_of_find?_eq_some hf)
            refine H_seq ?_
            refine R0 ?_
            refine xV (eS Try.isAgg58 Try.sizeOf58 (q0 rfl)) rfl rfl ?_
            refine xC (en Try.call82 (ha1 (q0 rfl))) (fun _ w _ => parked_w x w) rfl rfl ?_
            refine xV (e_not (q0 rfl)) rfl rfl ?_
            refine xV (e_as (v := .bool _) (q0 rfl)) rfl rfl ?_
            refine XN ?_
            refine thenJ_normal ?_
            refine H_cond rfl (fun hb => ?_) (fun hb => ?_)
            · refine H_seq ?_
              refine R0 ?_
              refine xV (e_as (v := .int _ _) (q0 rfl)) rfl rfl ?_
              refine XN ?_
              refine thenJ_normal ?_
              refine H_ret ?_
              refine blockJ_ret ?_
              refine thenJ_ret ?_
              refine thenJ_ret ?_
              refine blockJ_ret ?_
              refine thenJ_ret ?_
              refine blockJ_ret ?_
              refine thenJ_ret ?_
              refine blockJ_ret ?_
              refine thenJ_ret ?_
              refine blockJ_ret ?_
              refine thenJ_ret ?_
              refine blockJ_ret ?_
              refine thenJ_ret ?_
              exact ret1 (v := .int _ _) rfl rfl rfl fun w' hw => ⟨ret_int (by rw [hck]; exact (if_pos (by simpa using hb)).symm), hw.1⟩
            · refine H_skip ?_
              refine blockJ_normal ?_
              refine thenJ_normal ?_
              refine H_seq ?_
              refine R0 ?_
              refine xV (e_mv (q0 rfl)) rfl rfl ?_
              refine xV (e_mv (v := .pointer _) (q0 rfl)) rfl rfl ?_
              refine xV (e_nilc (q0 rfl)) rfl rfl ?_
              refine xV (e_fld Try.underlying126 rfl Try.sizeOf4 rfl (q0 rfl)) rfl rfl ?_
              refine xV (eL Try.isAgg4 (q0 rfl)) rfl rfl ?_
              refine xC (enV Try.call81 (q0 rfl) (fun _ => rfl)) (fun _ w _ => refused_w (p.2.2.paused) 12 w) rfl rfl ?_
              refine xV (e_as (v := .int _ _) (q0 rfl)) rfl rfl ?_
              refine XN ?_
              refine thenJ_normal ?_
              refine H_ret ?_
              refine thenJ_ret ?_
              refine blockJ_ret ?_
              refine thenJ_ret ?_
              refine blockJ_ret ?_
              refine thenJ_ret ?_
              refine blockJ_ret ?_
              refine thenJ_ret ?_
              refine blockJ_ret ?_
              refine thenJ_ret ?_
              refine blockJ_ret ?_
              refine thenJ_ret ?_
              exact ret1 (v := .int _ _) rfl rfl rfl fun w' hw => ⟨ret_int (by rw [hck]; exact (if_neg (by simpa using hb)).symm), hw.1⟩
        · refine H_skip ?_
          refine thenJ_normal ?_
          refine H_seq ?_
          refine H_seq ?_
          refine H_seq ?_
          refine R0 ?_
          refine xV (e_eq (q0 rfl) (q0 rfl)) rfl rfl ?_
          refine xV (e_as (v := .bool _) (q0 rfl)) rfl rfl ?_
          refine XN ?_
          refine thenJ_normal ?_
          refine H_cond rfl (fun h5 => ?_) (fun h5 => ?_)
          · have hk56 : e.kind = 5 ∨ e.kind = 6 := .inl (by simpa using h5)
            refine H_skip ?_
            refine thenJ_normal ?_
            refine H_cond rfl (fun h5b => ?_) (fun h5b => ?_)
            · refine H_exit ?_
              refine thenJ_exit ?_
              refine thenJ_exit ?_
              refine blockJ_pass rfl ?_
              refine thenJ_exit ?_
              refine blockJ_pass rfl ?_
              refine thenJ_exit ?_
              refine blockJ_pass rfl ?_
              refine thenJ_exit ?_
              refine blockJ_pass rfl ?_
              refine thenJ_exit ?_
              refine blockJ_hit ?_
              refine thenJ_normal ?_
              refine H_seq ?_
              refine H_seq ?_
              refine H_seq ?_
              refine R0 ?_
              refine xV (e_fld Try.underlying58 rfl Try.sizeOf3 rfl (q0 rfl)) rfl rfl ?_
              refine xV (eL Try.isAgg3 (q0 rfl)) rfl rfl ?_
              refine xV (e_ne (q0 rfl) (q0 rfl)) rfl rfl ?_
              refine XN ?_
              refine thenJ_normal ?_
              refine H_cond rfl (fun hb => ?_) (fun hb => ?_)
              · refine H_seq ?_
                refine R0 ?_
                refine xV (e_as (v := .int _ _) (q0 rfl)) rfl rfl ?_
                refine XN ?_
                refine thenJ_normal ?_
                refine H_ret ?_
                refine thenJ_ret ?_
                refine thenJ_ret ?_
                refine blockJ_ret ?_
                refine thenJ_ret ?_
                refine blockJ_ret ?_
                refine thenJ_ret ?_
                refine blockJ_ret ?_
                refine thenJ_ret ?_
                refine blockJ_ret ?_
                refine thenJ_ret ?_
                exact ret1 (v := .int _ _) rfl rfl rfl fun w' hw => ⟨ret_int (by rw [ck5 hk56 hx]; exact (if_pos (by simpa using hb)).symm), hw.1⟩
              · refine H_skip ?_
                refine thenJ_normal ?_
                refine H_seq ?_
                refine R0 ?_
                refine xV (e_mv (q0 rfl)) rfl rfl ?_
                refine xV (e_fld Try.underlying58 rfl Try.sizeOf4 rfl (q0 rfl)) rfl rfl ?_
                refine xV (eL Try.isAgg4 (q0 rfl)) rfl rfl ?_
                refine xV (e_fld Try.underlying50 rfl Try.sizeOf3 rfl (q0 rfl)) rfl rfl ?_
                refine xV (eL Try.isAgg3 (q0 rfl)) rfl rfl ?_
                refine xV (e_eq (q0 rfl) (q0 rfl)) rfl rfl ?_
                refine xV (e_eqb Try.underlying4 (q0 rfl) (q0 rfl)) rfl rfl ?_
                refine xC (enV Try.call81 (q0 rfl) (fun _ => rfl)) (fun _ w _ => refused_w (x.paused == decide (e.kind = 5)) 12 w) rfl rfl ?_
                refine xV (e_as (v := .int _ _) (q0 rfl)) rfl rfl ?_
                refine XN ?_
                refine thenJ_normal ?_
                refine H_ret ?_
                refine thenJ_ret ?_
                refine blockJ_ret ?_
                refine thenJ_ret ?_
                refine blockJ_ret ?_
                refine thenJ_ret ?_
                refine blockJ_ret ?_
                refine thenJ_ret ?_
                refine blockJ_ret ?_
                refine thenJ_ret ?_
                exact ret1 (v := .int _ _) rfl rfl rfl fun w' hw => ⟨ret_int (by rw [ck5 hk56 hx]; exact (if_neg (by simpa using hb)).symm), hw.1⟩
            · rw [h5] at h5b; cases h5b
          · refine R0 ?_
            refine xV (e_eq (q0 rfl) (q0 rfl)) rfl rfl ?_
            refine xV (e_as (v := .bool _) (q0 rfl)) rfl rfl ?_
            refine XN ?_
            refine thenJ_normal ?_
            refine H_cond rfl (fun h6 => ?_) (fun h6 => ?_)
            · have hk56 : e.kind = 5 ∨ e.kind = 6 := .inr (by simpa using h6)
              refine H_exit ?_
              refine thenJ_exit ?_
              refine thenJ_exit ?_
              refine blockJ_pass rfl ?_
              refine thenJ_exit ?_
              refine blockJ_pass rfl ?_
              refine thenJ_exit ?_
              refine blockJ_pass rfl ?_
              refine thenJ_exit ?_
              refine blockJ_pass rfl ?_
              refine thenJ_exit ?_
              refine blockJ_hit ?_
              refine thenJ_normal ?_
              refine H_seq ?_
              refine H_seq ?_
              refine H_seq ?_
              refine R0 ?_
              refine xV (e_fld Try.underlying58 rfl Try.sizeOf3 rfl (q0 rfl)) rfl rfl ?_
              refine xV (eL Try.isAgg3 (q0 rfl)) rfl rfl ?_
              refine xV (e_ne (q0 rfl) (q0 rfl)) rfl rfl ?_
              refine XN ?_
              refine thenJ_normal ?_
              refine H_cond rfl (fun hb => ?_) (fun hb => ?_)
              · refine H_seq ?_
                refine R0 ?_
                refine xV (e_as (v := .int _ _) (q0 rfl)) rfl rfl ?_
                refine XN ?_
                refine thenJ_normal ?_
                refine H_ret ?_
                refine thenJ_ret ?_
                refine thenJ_ret ?_
                refine blockJ_ret ?_
                refine thenJ_ret ?_
                refine blockJ_ret ?_
                refine thenJ_ret ?_
                refine blockJ_ret ?_
                refine thenJ_ret ?_
                refine blockJ_ret ?_
                refine thenJ_ret ?_
                exact ret1 (v := .int _ _) rfl rfl rfl fun w' hw => ⟨ret_int (by rw [ck5 hk56 hx]; exact (if_pos (by simpa using hb)).symm), hw.1⟩
              · refine H_skip ?_
                refine thenJ_normal ?_
                refine H_seq ?_
                refine R0 ?_
                refine xV (e_mv (q0 rfl)) rfl rfl ?_
                refine xV (e_fld Try.underlying58 rfl Try.sizeOf4 rfl (q0 rfl)) rfl rfl ?_
                refine xV (eL Try.isAgg4 (q0 rfl)) rfl rfl ?_
                refine xV (e_fld Try.underlying50 rfl Try.sizeOf3 rfl (q0 rfl)) rfl rfl ?_
                refine xV (eL Try.isAgg3 (q0 rfl)) rfl rfl ?_
                refine xV (e_eq (q0 rfl) (q0 rfl)) rfl rfl ?_
                refine xV (e_eqb Try.underlying4 (q0 rfl) (q0 rfl)) rfl rfl ?_
                refine xC (enV Try.call81 (q0 rfl) (fun _ => rfl)) (fun _ w _ => refused_w (x.paused == decide (e.kind = 5)) 12 w) rfl rfl ?_
                refine xV (e_as (v := .int _ _) (q0 rfl)) rfl rfl ?_
                refine XN ?_
                refine thenJ_normal ?_
                refine H_ret ?_
                refine thenJ_ret ?_
                refine blockJ_ret ?_
                refine thenJ_ret ?_
                refine blockJ_ret ?_
                refine thenJ_ret ?_
                refine blockJ_ret ?_
                refine thenJ_ret ?_
                refine blockJ_ret ?_
                refine thenJ_ret ?_
                exact ret1 (v := .int _ _) rfl rfl rfl fun w' hw => ⟨ret_int (by rw [ck5 hk56 hx]; exact (if_neg (by simpa using hb)).symm), hw.1⟩
            · refine H_skip ?_
              refine thenJ_normal ?_
              refine H_seq ?_
              refine H_seq ?_
              refine R0 ?_
              refine xV (e_eq (q0 rfl) (q0 rfl)) rfl rfl ?_
              refine xV (e_as (v := .bool _) (q0 rfl)) rfl rfl ?_
              refine XN ?_
              refine thenJ_normal ?_
              refine H_cond rfl (fun h7 => ?_) (fun h7 => ?_)
              · have hk7 : e.kind = 7 := by simpa using h7
                obtain ⟨hp0, hpn⟩ := hpl hk7
                obtain ⟨pk, hpk⟩ : ∃ k : Nat, e.place = k := ⟨e.place.toNat, by omega⟩
                have htl := h.fl.trucks.1
                have hpt : pk < a.tn := by omega
                obtain ⟨tb, toff, tx, htA, htb, htx, htr⟩ := h.fl.trucks.at_ hpt
                have hgd : f.trucks.getD e.place.toNat 0 = tx := by
                  rw [hpk, Int.toNat_natCast, List.getD_eq_getElem?_getD, htx]; rfl
                refine H_exit ?_
                refine thenJ_exit ?_
                refine thenJ_exit ?_
                refine blockJ_pass rfl ?_
                refine thenJ_exit ?_
                refine blockJ_pass rfl ?_
                refine thenJ_exit ?_
                refine blockJ_pass rfl ?_
                refine thenJ_exit ?_
                refine blockJ_pass rfl ?_
                refine thenJ_exit ?_
                refine blockJ_pass rfl ?_
                refine thenJ_exit ?_
                refine blockJ_hit ?_
                refine thenJ_normal ?_
                refine H_seq ?_
                refine H_seq ?_
                refine H_seq ?_
                refine R0 ?_
                refine xV (e_fld Try.underlying58 rfl Try.sizeOf3 rfl (q0 rfl)) rfl rfl ?_
                refine xV (eL Try.isAgg3 (q0 rfl)) rfl rfl ?_
                refine xV (e_eq (q0 rfl) (q0 rfl)) rfl rfl ?_
                refine xV (e_mv (v := .bool _) (q0 rfl)) rfl rfl ?_
                refine xVF (e_fld Try.underlying58 rfl Try.sizeOf3 rfl (q0 rfl)) rfl rfl rfl rfl ?_
                refine xVF (eL Try.isAgg3 (q1 rfl)) rfl rfl rfl rfl ?_
                refine xVF (e_eq (q1 rfl) (q0 rfl)) rfl rfl rfl rfl ?_
                refine xV (e_or (q0 rfl) rfl (fun h => by first | rfl | (rw [h]; rfl))) rfl rfl ?_
                refine XN ?_
                refine thenJ_normal ?_
                refine H_cond rfl (fun hb => ?_) (fun hb => ?_)
                · refine H_seq ?_
                  refine R0 ?_
                  refine xV (e_as (v := .int _ _) (q0 rfl)) rfl rfl ?_
                  refine XN ?_
                  refine thenJ_normal ?_
                  refine H_ret ?_
                  refine thenJ_ret ?_
                  refine thenJ_ret ?_
                  refine blockJ_ret ?_
                  refine thenJ_ret ?_
                  refine blockJ_ret ?_
                  refine thenJ_ret ?_
                  refine blockJ_ret ?_
                  refine thenJ_ret ?_
                  exact ret1 (v := .int _ _) rfl rfl rfl fun w' hw => ⟨ret_int (by rw [ck7 hk7 hx]; exact (if_pos hb).symm), hw.1⟩
                · have _ht : True := trivial
                  refine H_skip ?_
                  refine thenJ_normal ?_
                  refine H_seq ?_
                  refine R1 rfl (by decide +kernel) ?_
                  refine xV (e_mv (q0 rfl)) rfl rfl ?_
                  refine xV (e_mv (v := .pointer _) (q0 rfl)) rfl rfl ?_
                  refine xV (e_fld Try.underlying50 rfl Try.sizeOf3 rfl (q0 rfl)) rfl rfl ?_
                  refine xV (eL Try.isAgg3 (q0 rfl)) rfl rfl ?_
                  refine xC (en Try.call83 (ha3 (q0 rfl) (q0 rfl) (q0 rfl))) (fun _ w hm => count_w 4 e.place w (h.mem hm)) rfl rfl ?_
                  refine xV (e_mv (v := .pointer _) (q0 rfl)) rfl rfl ?_
                  refine xV (e_nilc (q0 rfl)) rfl rfl ?_
                  refine xV (e_fld Try.underlying89 rfl Try.sizeOf42 rfl (q0 rfl)) rfl rfl ?_
                  refine xV (e_fld Try.underlying42 rfl Try.sizeOf40 rfl (q0 rfl)) rfl rfl ?_
                  refine xV (e_ld (v := .slice (some ⟨tb, toff, none⟩) a.tn a.tc) Try.isAgg40 (q0 rfl) (rc (j := 4) hrow hlt (by show some (Value.slice a.tA a.tn a.tc) = _; rw [htA]))) rfl rfl ?_
                  refine xV (e_fld Try.underlying50 rfl Try.sizeOf3 rfl (q0 rfl)) rfl rfl ?_
                  refine xV (eL Try.isAgg3 (q0 rfl)) rfl rfl ?_
                  refine xV (e_idx pk Try.underlying40 Try.sizeOf3 (q0 rfl) (q0 rfl) (fun _ => ⟨hpk, hpt⟩)) rfl rfl ?_
                  refine xV (eL Try.isAgg3 (q0 rfl)) rfl rfl ?_
                  refine xV (e_ge (q0 rfl) (q0 rfl)) rfl rfl ?_
                  refine xC (enV Try.call81 (q0 rfl) (fun _ => rfl)) (fun _ w _ => refused_w (decide (tx ≤ (countP t.spots 4 e.place : Int))) 24 w) rfl rfl ?_
                  refine xV (e_as (v := .int _ _) (q0 rfl)) rfl rfl ?_
                  refine XN ?_
                  refine thenJ_normal ?_
                  refine H_ret ?_
                  refine thenJ_ret ?_
                  refine blockJ_ret ?_
                  refine thenJ_ret ?_
                  refine blockJ_ret ?_
                  refine thenJ_ret ?_
                  refine blockJ_ret ?_
                  refine thenJ_ret ?_
                  exact ret1 (v := .int _ _) rfl rfl rfl fun w' hw => ⟨ret_int (by rw [ck7 hk7 hx, hgd]; exact (if_neg (by rw [hb]; decide)).symm), hw.1⟩
              · refine H_skip ?_
                refine thenJ_normal ?_
                refine H_seq ?_
                refine H_seq ?_
                refine R0 ?_
                refine xV (e_eq (q0 rfl) (q0 rfl)) rfl rfl ?_
                refine xV (e_as (v := .bool _) (q0 rfl)) rfl rfl ?_
                refine XN ?_
                refine thenJ_normal ?_
                refine H_cond rfl (fun h8 => ?_) (fun h8 => ?_)
                · have hk8 : e.kind = 8 := by simpa using h8
                  refine H_exit ?_
                  refine thenJ_exit ?_
                  refine thenJ_exit ?_
                  refine blockJ_pass rfl ?_
                  refine thenJ_exit ?_
                  refine blockJ_pass rfl ?_
                  refine thenJ_exit ?_
                  refine blockJ_pass rfl ?_
                  refine thenJ_exit ?_
                  refine blockJ_pass rfl ?_
                  refine thenJ_exit ?_
                  refine blockJ_pass rfl ?_
                  refine thenJ_exit ?_
                  refine blockJ_pass rfl ?_
                  refine thenJ_exit ?_
                  refine blockJ_hit ?_
                  refine thenJ_normal ?_
                  refine H_seq ?_
                  refine H_seq ?_
                  refine R0 ?_
                  refine xV (e_mv (q0 rfl)) rfl rfl ?_
                  refine xV (e_fld Try.underlying58 rfl Try.sizeOf3 rfl (q0 rfl)) rfl rfl ?_
                  refine xV (eL Try.isAgg3 (q0 rfl)) rfl rfl ?_
                  refine xV (e_eq (q0 rfl) (q0 rfl)) rfl rfl ?_
                  refine xV (e_mv (v := .bool _) (q0 rfl)) rfl rfl ?_
                  refine xVF (e_fld Try.underlying58 rfl Try.sizeOf3 rfl (q0 rfl)) rfl rfl rfl rfl ?_
                  refine xVF (eL Try.isAgg3 (q1 rfl)) rfl rfl rfl rfl ?_
                  refine xVF (e_eq (q1 rfl) (q0 rfl)) rfl rfl rfl rfl ?_
                  refine xV (e_or (q0 rfl) rfl (fun h => by first | rfl | (rw [h]; rfl))) rfl rfl ?_
                  refine xC (enV Try.call81 (q0 rfl) (fun _ => rfl)) (fun _ w _ => refused_w (decide (x.where_ = 3) || decide (x.where_ = 5)) 23 w) rfl rfl ?_
                  refine xV (e_as (v := .int _ _) (q0 rfl)) rfl rfl ?_
                  refine XN ?_
                  refine thenJ_normal ?_
                  refine H_ret ?_
                  refine thenJ_ret ?_
                  refine blockJ_ret ?_
                  refine thenJ_ret ?_
                  refine blockJ_ret ?_
                  refine thenJ_ret ?_
                  exact ret1 (v := .int _ _) rfl rfl rfl fun w' hw => ⟨ret_int (ck8 hk8 hx).symm, hw.1⟩
                · refine H_skip ?_
                  refine thenJ_normal ?_
                  refine H_seq ?_
                  refine R0 ?_
                  refine xV (e_eq (q0 rfl) (q0 rfl)) rfl rfl ?_
                  refine xV (e_as (v := .bool _) (q0 rfl)) rfl rfl ?_
                  refine XN ?_
                  refine thenJ_normal ?_
                  refine H_cond rfl (fun h9 => ?_) (fun h9 => ?_)
                  · have hk9 : e.kind = 9 := by simpa using h9
                    refine H_exit ?_
                    refine thenJ_exit ?_
                    refine blockJ_pass rfl ?_
                    refine thenJ_exit ?_
                    refine blockJ_pass rfl ?_
                    refine thenJ_exit ?_
                    refine blockJ_pass rfl ?_
                    refine thenJ_exit ?_
                    refine blockJ_pass rfl ?_
                    refine thenJ_exit ?_
                    refine blockJ_pass rfl ?_
                    refine thenJ_exit ?_
                    refine blockJ_pass rfl ?_
                    refine thenJ_exit ?_
                    refine blockJ_pass rfl ?_
                    refine thenJ_exit ?_
                    refine blockJ_hit ?_
                    refine thenJ_normal ?_
                    refine H_seq ?_
                    refine H_seq ?_
                    refine R0 ?_
                    refine xV (e_mv (q0 rfl)) rfl rfl ?_
                    refine xV (e_fld Try.underlying58 rfl Try.sizeOf3 rfl (q0 rfl)) rfl rfl ?_
                    refine xV (eL Try.isAgg3 (q0 rfl)) rfl rfl ?_
                    refine xV (e_eq (q0 rfl) (q0 rfl)) rfl rfl ?_
                    refine xV (e_mv (v := .bool _) (q0 rfl)) rfl rfl ?_
                    refine xVF (e_fld Try.underlying58 rfl Try.sizeOf3 rfl (q0 rfl)) rfl rfl rfl rfl ?_
                    refine xVF (eL Try.isAgg3 (q1 rfl)) rfl rfl rfl rfl ?_
                    refine xVF (e_eq (q1 rfl) (q0 rfl)) rfl rfl rfl rfl ?_
                    refine xV (e_or (q0 rfl) rfl (fun h => by first | rfl | (rw [h]; rfl))) rfl rfl ?_
                    refine xC (enV Try.call81 (q0 rfl) (fun _ => rfl)) (fun _ w _ => refused_w (decide (x.where_ = 5) || decide (x.where_ = 6)) 23 w) rfl rfl ?_
                    refine xV (e_as (v := .int _ _) (q0 rfl)) rfl rfl ?_
                    refine XN ?_
                    refine thenJ_normal ?_
                    refine H_ret ?_
                    refine thenJ_ret ?_
                    refine blockJ_ret ?_
                    refine thenJ_ret ?_
                    exact ret1 (v := .int _ _) rfl rfl rfl fun w' hw => ⟨ret_int (ck9 hk9 hx).symm, hw.1⟩
                  · refine H_skip ?_
                    refine thenJ_normal ?_
                    refine H_exit ?_
                    refine blockJ_pass rfl ?_
                    refine thenJ_exit ?_
                    refine blockJ_pass rfl ?_
                    refine thenJ_exit ?_
                    refine blockJ_pass rfl ?_
                    refine thenJ_exit ?_
                    refine blockJ_pass rfl ?_
                    refine thenJ_exit ?_
                    refine blockJ_pass rfl ?_
                    refine thenJ_exit ?_
                    refine blockJ_pass rfl ?_
                    refine thenJ_exit ?_
                    refine blockJ_pass rfl ?_
                    refine thenJ_exit ?_
                    refine blockJ_pass rfl ?_
                    refine thenJ_exit ?_
                    refine blockJ_hit ?_
                    refine thenJ_normal ?_
                    refine H_seq ?_
                    refine R0 ?_
                    refine xV (e_as (v := .int _ _) (q0 rfl)) rfl rfl ?_
                    refine XN ?_
                    refine thenJ_normal ?_
                    refine H_ret ?_
                    exact ret1 (v := .int _ _) rfl rfl rfl fun w' hw => ⟨ret_int (ck0 (by simp at h1 h2 h3 h4 h5 h6 h7 h8 h9; omega)).symm, hw.1⟩

end Go.Proofs.Cus

/-
  The walks: the state, made and turned.
-/
namespace Go.Proofs.Cus
open Go Go.RowKit Go.Proofs.E

def shopS : Sp := ⟨5, 0, 0, false⟩
def zeroS : Sp := ⟨0, 0, 0, false⟩
def beginT (n : Nat) : TS := ⟨List.replicate n shopS, [], []⟩
theorem rep_set (k n : Nat) (h : k < n) : (List.replicate k shopS ++ List.replicate (n - k) zeroS).set k shopS = List.replicate (k + 1) shopS ++ List.replicate (n - (k + 1)) zeroS := by
  rw [List.set_append_right _ _ (by simp), show n - k = (n - (k + 1)) + 1 by omega, List.replicate_succ, List.length_replicate, Nat.sub_self, List.set_cons_zero, List.replicate_succ', List.append_assoc]
  rfl
theorem rep_get (k n : Nat) (h : k < n) : (List.replicate k shopS ++ List.replicate (n - k) zeroS)[k]? = some zeroS := by
  rw [List.getElem?_append_right (by simp), List.length_replicate, Nat.sub_self, List.getElem?_replicate, if_pos (by omega)]

set_option maxRecDepth 20000 in
theorem begin_w (f : Fl) (a : FA) (n : Nat) (hn : f.bikes = n) (hn1 : n ≤ 1000) (w : World) : Calls Try.prog 62 #[.agg (f.cells a).toArray] w fun e w' => ∃ x : { x : SA // x.n = n }, e = .returned (.pointer (some ⟨x.1.sb, 0, none⟩)) ∧ Mem w (stL f a x.1 (beginT n)) w' := by
  refine H_enter Try.func62 rfl Try.ntmps62 rfl ?_
  refine H_seq ?_
  refine R0 ?_
  refine X_box (v := .agg _) rfl rfl fun b1 => ?_
  refine xV (e_as (v := .pointer _) (q0 rfl)) rfl rfl ?_
  refine XN ?_
  refine thenJ_normal ?_
  refine H_seq ?_
  refine H_cut [3, 5, 6, 7, 8, 9, 10, 11, 12] (fun x : SA => [(3, .pointer (some ⟨x.sb, 0, none⟩))]) (fun x => [box x.sb 89 (stCells f a x), spRow (some ⟨x.q, 0, none⟩) x.c (List.replicate n zeroS), pmap x.m 126 PT.cells [], imap x.u [], box b1 42 (f.cells a)]) (fun x => x.n = n) ?_ ?_
  · refine RA rfl (by decide +kernel) ?_
    refine aV 0 (by decide +kernel) rfl (eS Try.isAgg42 Try.sizeOf42 (q0 rfl)) rfl ?_
    refine aV 1 (by decide +kernel) rfl (e_fld Try.underlying42 rfl Try.sizeOf3 rfl (q0 rfl)) rfl ?_
    refine aV 2 (by decide +kernel) rfl (eL Try.isAgg3 (q0 rfl)) rfl ?_
    refine rdy3 (i := 3) (j := 4) (k := 5) (by decide +kernel) (sub_drop 0) ?_ ?_ ?_
    · refine aL rfl (f_make (i := Try.t58) (k := 4) (n := n) (m := n) Sp.cells zeroS Try.underlying54 (by kernel_rfl) rfl rfl rfl (by show Value.int .i64 f.bikes = _; rw [hn]) (by show Value.int .i64 f.bikes = _; rw [hn]) ⟨⟨Nat.le_refl _, by omega⟩, by decide⟩ rfl fun b8 => ?_)
      refine rdy2 (i := 4) (j := 5) (by decide +kernel) (sub_drop 1) ?_ ?_
      · refine aL rfl (f_makePmap 126 PT.cells rfl fun b9 => ?_)
        refine aI 1 ?_
        refine rdy1 (i := 5) (by decide +kernel) (sub_drop 2) ?_
        refine aL rfl (f_makeMap rfl fun b10 => ?_)
        refine aI 2 ?_
        refine aV 6 (by decide +kernel) rfl (e_build Try.underlying89 fl89 Try.zeroValue89 (pt (v := .agg _) rfl (pt (v := .slice _ _ _) rfl (pt (v := .map _) rfl (pt (v := .map _) rfl E.p0)))) rfl) rfl ?_
        refine rdy1 (i := 7) (by decide +kernel) (sub_drop 3) ?_
        refine aL rfl (f_box (v := .agg _) rfl rfl fun b12 => ?_)
        refine aI 3 ?_
        refine aRL (sub_drop 4) ?_
        refine aV 8 (by decide +kernel) rfl (e_as (v := .pointer _) (q0 rfl)) rfl ?_
        refine aZ (by decide +kernel) (sub_drop 0) ?_
        exact cutJ_normal (⟨b12, b8, n, n, b9, b10⟩ : SA) (by repeat (first | exact agree_self | exact agree_over | refine agree_upd rfl ?_ | refine agree_updL rfl ?_ | refine agree_over2 rfl ?_)) ⟨rfl, trivial⟩ (fun w hw => hw.pick [3, 0, 1, 2, 4] (by decide)) rfl rfl
      · refine aL rfl (f_makeMap rfl fun b10 => ?_)
        refine aI 1 ?_
        refine rdy1 (i := 4) (by decide +kernel) (sub_drop 2) ?_
        refine aL rfl (f_makePmap 126 PT.cells rfl fun b9 => ?_)
        refine aI 1 ?_
        refine aV 6 (by decide +kernel) rfl (e_build Try.underlying89 fl89 Try.zeroValue89 (pt (v := .agg _) rfl (pt (v := .slice _ _ _) rfl (pt (v := .map _) rfl (pt (v := .map _) rfl E.p0)))) rfl) rfl ?_
        refine rdy1 (i := 7) (by decide +kernel) (sub_drop 3) ?_
        refine aL rfl (f_box (v := .agg _) rfl rfl fun b12 => ?_)
        refine aI 3 ?_
        refine aRL (sub_drop 4) ?_
        refine aV 8 (by decide +kernel) rfl (e_as (v := .pointer _) (q0 rfl)) rfl ?_
        refine aZ (by decide +kernel) (sub_drop 0) ?_
        exact cutJ_normal (⟨b12, b8, n, n, b9, b10⟩ : SA) (by repeat (first | exact agree_self | exact agree_over | refine agree_upd rfl ?_ | refine agree_updL rfl ?_ | refine agree_over2 rfl ?_)) ⟨rfl, trivial⟩ (fun w hw => hw.pick [3, 0, 1, 2, 4] (by decide)) rfl rfl
    · refine aL rfl (f_makePmap 126 PT.cells rfl fun b9 => ?_)
      refine rdy2 (i := 3) (j := 5) (by decide +kernel) (sub_drop 1) ?_ ?_
      · refine aL rfl (f_make (i := Try.t58) (k := 4) (n := n) (m := n) Sp.cells zeroS Try.underlying54 (by kernel_rfl) rfl rfl rfl (by show Value.int .i64 f.bikes = _; rw [hn]) (by show Value.int .i64 f.bikes = _; rw [hn]) ⟨⟨Nat.le_refl _, by omega⟩, by decide⟩ rfl fun b8 => ?_)
        refine rdy1 (i := 5) (by decide +kernel) (sub_drop 2) ?_
        refine aL rfl (f_makeMap rfl fun b10 => ?_)
        refine aI 2 ?_
        refine aV 6 (by decide +kernel) rfl (e_build Try.underlying89 fl89 Try.zeroValue89 (pt (v := .agg _) rfl (pt (v := .slice _ _ _) rfl (pt (v := .map _) rfl (pt (v := .map _) rfl E.p0)))) rfl) rfl ?_
        refine rdy1 (i := 7) (by decide +kernel) (sub_drop 3) ?_
        refine aL rfl (f_box (v := .agg _) rfl rfl fun b12 => ?_)
        refine aI 3 ?_
        refine aRL (sub_drop 4) ?_
        refine aV 8 (by decide +kernel) rfl (e_as (v := .pointer _) (q0 rfl)) rfl ?_
        refine aZ (by decide +kernel) (sub_drop 0) ?_
        exact cutJ_normal (⟨b12, b8, n, n, b9, b10⟩ : SA) (by repeat (first | exact agree_self | exact agree_over | refine agree_upd rfl ?_ | refine agree_updL rfl ?_ | refine agree_over2 rfl ?_)) ⟨rfl, trivial⟩ (fun w hw => hw.pick [3, 0, 1, 2, 4] (by decide)) rfl rfl
      · refine aL rfl (f_makeMap rfl fun b10 => ?_)
        refine aI 1 ?_
        refine rdy1 (i := 3) (by decide +kernel) (sub_drop 2) ?_
        refine aL rfl (f_make (i := Try.t58) (k := 4) (n := n) (m := n) Sp.cells zeroS Try.underlying54 (by kernel_rfl) rfl rfl rfl (by show Value.int .i64 f.bikes = _; rw [hn]) (by show Value.int .i64 f.bikes = _; rw [hn]) ⟨⟨Nat.le_refl _, by omega⟩, by decide⟩ rfl fun b8 => ?_)
        refine aV 6 (by decide +kernel) rfl (e_build Try.underlying89 fl89 Try.zeroValue89 (pt (v := .agg _) rfl (pt (v := .slice _ _ _) rfl (pt (v := .map _) rfl (pt (v := .map _) rfl E.p0)))) rfl) rfl ?_
        refine rdy1 (i := 7) (by decide +kernel) (sub_drop 3) ?_
        refine aL rfl (f_box (v := .agg _) rfl rfl fun b12 => ?_)
        refine aI 3 ?_
        refine aRL (sub_drop 4) ?_
        refine aV 8 (by decide +kernel) rfl (e_as (v := .pointer _) (q0 rfl)) rfl ?_
        refine aZ (by decide +kernel) (sub_drop 0) ?_
        exact cutJ_normal (⟨b12, b8, n, n, b9, b10⟩ : SA) (by repeat (first | exact agree_self | exact agree_over | refine agree_upd rfl ?_ | refine agree_updL rfl ?_ | refine agree_over2 rfl ?_)) ⟨rfl, trivial⟩ (fun w hw => hw.pick [3, 0, 1, 2, 4] (by decide)) rfl rfl
    · refine aL rfl (f_makeMap rfl fun b10 => ?_)
      refine rdy2 (i := 3) (j := 4) (by decide +kernel) (sub_drop 1) ?_ ?_
      · refine aL rfl (f_make (i := Try.t58) (k := 4) (n := n) (m := n) Sp.cells zeroS Try.underlying54 (by kernel_rfl) rfl rfl rfl (by show Value.int .i64 f.bikes = _; rw [hn]) (by show Value.int .i64 f.bikes = _; rw [hn]) ⟨⟨Nat.le_refl _, by omega⟩, by decide⟩ rfl fun b8 => ?_)
        refine rdy1 (i := 4) (by decide +kernel) (sub_drop 2) ?_
        refine aL rfl (f_makePmap 126 PT.cells rfl fun b9 => ?_)
        refine aI 1 ?_
        refine aV 6 (by decide +kernel) rfl (e_build Try.underlying89 fl89 Try.zeroValue89 (pt (v := .agg _) rfl (pt (v := .slice _ _ _) rfl (pt (v := .map _) rfl (pt (v := .map _) rfl E.p0)))) rfl) rfl ?_
        refine rdy1 (i := 7) (by decide +kernel) (sub_drop 3) ?_
        refine aL rfl (f_box (v := .agg _) rfl rfl fun b12 => ?_)
        refine aI 3 ?_
        refine aRL (sub_drop 4) ?_
        refine aV 8 (by decide +kernel) rfl (e_as (v := .pointer _) (q0 rfl)) rfl ?_
        refine aZ (by decide +kernel) (sub_drop 0) ?_
        exact cutJ_normal (⟨b12, b8, n, n, b9, b10⟩ : SA) (by repeat (first | exact agree_self | exact agree_over | refine agree_upd rfl ?_ | refine agree_updL rfl ?_ | refine agree_over2 rfl ?_)) ⟨rfl, trivial⟩ (fun w hw => hw.pick [3, 0, 1, 2, 4] (by decide)) rfl rfl
      · refine aL rfl (f_makePmap 126 PT.cells rfl fun b9 => ?_)
        refine rdy1 (i := 3) (by decide +kernel) (sub_drop 2) ?_
        refine aL rfl (f_make (i := Try.t58) (k := 4) (n := n) (m := n) Sp.cells zeroS Try.underlying54 (by kernel_rfl) rfl rfl rfl (by show Value.int .i64 f.bikes = _; rw [hn]) (by show Value.int .i64 f.bikes = _; rw [hn]) ⟨⟨Nat.le_refl _, by omega⟩, by decide⟩ rfl fun b8 => ?_)
        refine aV 6 (by decide +kernel) rfl (e_build Try.underlying89 fl89 Try.zeroValue89 (pt (v := .agg _) rfl (pt (v := .slice _ _ _) rfl (pt (v := .map _) rfl (pt (v := .map _) rfl E.p0)))) rfl) rfl ?_
        refine rdy1 (i := 7) (by decide +kernel) (sub_drop 3) ?_
        refine aL rfl (f_box (v := .agg _) rfl rfl fun b12 => ?_)
        refine aI 3 ?_
        refine aRL (sub_drop 4) ?_
        refine aV 8 (by decide +kernel) rfl (e_as (v := .pointer _) (q0 rfl)) rfl ?_
        refine aZ (by decide +kernel) (sub_drop 0) ?_
        exact cutJ_normal (⟨b12, b8, n, n, b9, b10⟩ : SA) (by repeat (first | exact agree_self | exact agree_over | refine agree_upd rfl ?_ | refine agree_updL rfl ?_ | refine agree_over2 rfl ?_)) ⟨rfl, trivial⟩ (fun w hw => hw.pick [3, 0, 1, 2, 4] (by decide)) rfl rfl
  · intro x g hxn
    refine thenJ_normal ?_
    refine H_seq ?_
    refine H_seq ?_
    refine R0 ?_
    refine xV (e_mv (v := .pointer _) (q0 rfl)) rfl rfl ?_
    refine xV (e_nilc (q0 rfl)) rfl rfl ?_
    refine xV (e_fld Try.underlying89 rfl Try.sizeOf54 rfl (q0 rfl)) rfl rfl ?_
    refine xV (eL Try.isAgg54 (q0 rfl)) rfl rfl ?_
    refine xV (e_len Try.underlying54 (q0 rfl)) rfl rfl ?_
    refine xV (e_mv (v := .int _ _) (q0 rfl)) rfl rfl ?_
    refine XN ?_
    refine thenJ_normal ?_
    refine H_block ?_
    refine H_loop [4, 18, 19, 20, 21, 22, 23, 24, 25, 26, 27, 28] (fun k : Nat => [(18, .int .i64 k)]) (fun k => [box x.sb 89 (stCells f a x), spRow (some ⟨x.q, 0, none⟩) x.c (List.replicate k shopS ++ List.replicate (n - k) zeroS), pmap x.m 126 PT.cells [], imap x.u [], box b1 42 (f.cells a)]) (fun k => k ≤ n) (fun k => n - k) 0 ⟨rfl, trivial⟩ (fun _ h => by simpa using h) rfl (Nat.zero_le _) ?_
    rintro k g2 hk
    refine H_seq ?_
    refine R0 ?_
    refine xV (e_lt (q0 rfl) (q0 rfl)) rfl rfl ?_
    refine XN ?_
    refine thenJ_normal ?_
    refine H_seq ?_
    refine H_cond rfl (fun hlt => ?_) (fun hlt => ?_)
    · have hlt' : k < n := by simp at hlt; omega
      have hget := rep_get k n hlt'
      refine H_skip ?_
      refine thenJ_normal ?_
      refine H_seq ?_
      refine H_block ?_
      refine H_seq ?_
      refine R0 ?_
      refine xV (e_mv (v := .int _ _) (q0 rfl)) rfl rfl ?_
      refine xV (e_as (v := .int _ _) (q0 rfl)) rfl rfl ?_
      refine XN ?_
      refine thenJ_normal ?_
      refine R0 ?_
      refine xV (e_mv (v := .pointer _) (q0 rfl)) rfl rfl ?_
      refine xV (e_nilc (q0 rfl)) rfl rfl ?_
      refine xV (e_fld Try.underlying89 rfl Try.sizeOf54 rfl (q0 rfl)) rfl rfl ?_
      refine xV (eL Try.isAgg54 (q0 rfl)) rfl rfl ?_
      refine xV (e_mv (v := .int _ _) (q0 rfl)) rfl rfl ?_
      refine xV (e_idx _ Try.underlying54 Try.sizeOf58 (q0 rfl) (q0 rfl) (fun _ => ⟨rfl, by omega⟩)) rfl rfl ?_
      refine xV (e_fld Try.underlying58 rfl Try.sizeOf3 rfl (q0 rfl)) rfl rfl ?_
      refine X_eff (f_storeR 1 (off := 0) shopS rfl rfl Try.sizeOf3 rfl rfl rfl hget rfl rfl ?_)
      refine XN ?_
      refine blockJ_normal ?_
      refine thenJ_normal ?_
      refine R0 ?_
      refine xV (e_add (q0 rfl) (q0 rfl) (fun _ => ⟨rfl, by omega, by omega⟩)) rfl rfl ?_
      refine xV (e_mv (v := .int _ _) (q0 rfl)) rfl rfl ?_
      refine XN ?_
      exact loopJ_normal (k + 1) (by repeat (first | exact agree_self | exact agree_over | refine agree_upd rfl ?_ | refine agree_updL rfl ?_ | refine agree_over2 rfl ?_)) ⟨rfl, trivial⟩ (fun w hw => by show Mem _ [_, spRow _ _ (List.replicate (k + 1) shopS ++ List.replicate (n - (k + 1)) zeroS), _, _, _] w; rw [← rep_set k n hlt']; exact hw) rfl (by show k + 1 ≤ n; omega) (by show n - (k + 1) < n - k; omega)
    · have hkn : k = n := by simp at hlt; omega
      subst hkn
      refine H_exit ?_
      refine thenJ_exit ?_
      refine loopJ_exit ?_
      refine blockJ_hit ?_
      refine thenJ_normal ?_
      refine H_seq ?_
      refine R0 ?_
      refine xV (e_mv (v := .pointer _) (q0 rfl)) rfl rfl ?_
      refine xV (e_as (v := .pointer _) (q0 rfl)) rfl rfl ?_
      refine XN ?_
      refine thenJ_normal ?_
      refine H_ret ?_
      exact ret1 (v := .pointer _) rfl rfl rfl fun w' hw => ⟨⟨x, hxn⟩, rfl, by have := hw.pick [0, 1, 2, 3] (by decide); simp only [Nat.sub_self, List.replicate_zero, List.append_nil] at this; exact this⟩

def leaveT (t : TS) (k : Nat) (to : Sp) : TS :=
  { t with ps := if (t.spots.getD k default).where_ = 3 then t.ps.eraseP (fun p => p.1 == (t.spots.getD k default).ride) else t.ps, spots := t.spots.set k to }
theorem leave_w {f : Fl} {a : FA} {s : SA} {t : TS} {w0 w : World} {L : List E.Item} (hw : Mem w0 (stL f a s t ++ L) w) (hmk : marks L = []) (hl : t.spots.length = s.n) (k : Nat) (hk : k < s.n) (to : Sp) :
    Calls Try.prog 85 #[.pointer (some ⟨s.sb, 0, none⟩), .int .i64 k, .agg to.cells.toArray] w fun e w' => ∃ _ : Unit, e = .returned (.tuple #[]) ∧ Mem w0 (stL f a s (leaveT t k to) ++ L) w' := by
  obtain ⟨x, hx⟩ : ∃ x, t.spots[k]? = some x := ⟨_, List.getElem?_eq_getElem (by omega)⟩
  have hg : t.spots.getD k default = x := by rw [List.getD_eq_getElem?_getD, hx]; rfl
  have hlv : leaveT t k to = ⟨t.spots.set k to, if x.where_ = 3 then t.ps.eraseP (fun p => p.1 == x.ride) else t.ps, t.used⟩ := by unfold leaveT; rw [hg]
  rw [hlv]
  refine H_enterM hw hmk Try.func85 rfl Try.ntmps85 rfl ?_
  refine H_seq ?_
  refine R0 ?_
  refine X_box (v := .agg _) rfl rfl fun b5 => ?_
  refine XN ?_
  refine thenJ_normal ?_
  refine H_seq ?_
  refine H_seq ?_
  refine R0 ?_
  refine xV (e_mv (v := .pointer _) (q0 rfl)) rfl rfl ?_
  refine xV (e_nilc (q0 rfl)) rfl rfl ?_
  refine xV (e_fld Try.underlying89 rfl Try.sizeOf54 rfl (q0 rfl)) rfl rfl ?_
  refine xV (eL Try.isAgg54 (q0 rfl)) rfl rfl ?_
  refine xV (e_mv (v := .int _ _) (q0 rfl)) rfl rfl ?_
  refine xV (e_idx _ Try.underlying54 Try.sizeOf58 (q0 rfl) (q0 rfl) (fun _ => ⟨rfl, by omega⟩)) rfl rfl ?_
  refine xV (eS Try.isAgg58 Try.sizeOf58 (q0 rfl)) rfl rfl ?_
  refine X_alloc Try.zeroValue58 rfl fun b6 => ?_
  refine X_st (v := .agg _) rfl rfl Try.sizeOf58 ?_
  refine XN ?_
  refine thenJ_normal ?_
  refine H_seq ?_
  refine R0 ?_
  refine xV (e_fld Try.underlying58 rfl Try.sizeOf3 rfl (q0 rfl)) rfl rfl ?_
  refine xV (eL Try.isAgg3 (q0 rfl)) rfl rfl ?_
  refine xV (e_eq (q0 rfl) (q0 rfl)) rfl rfl ?_
  refine XN ?_
  refine thenJ_normal ?_
  refine H_cond rfl (fun h3 => ?_) (fun h3 => ?_)
  · have hx3 : x.where_ = 3 := by simpa using h3
    rw [if_pos hx3]
    refine H_mem (fun w hw => hw.fr4) rfl ?_
    refine RAd 1 rfl (by decide +kernel) ?_
    refine aV 0 (by decide +kernel) rfl (e_mv (v := .pointer _) (q0 rfl)) rfl ?_
    refine aV 1 (by decide +kernel) rfl (e_nilc (q0 rfl)) rfl ?_
    refine aV 2 (by decide +kernel) rfl (e_fld Try.underlying89 rfl Try.sizeOf86 rfl (q0 rfl)) rfl ?_
    refine aV 3 (by decide +kernel) rfl (eL Try.isAgg86 (q0 rfl)) rfl ?_
    refine aV 4 (by decide +kernel) rfl (e_fld Try.underlying58 rfl Try.sizeOf3 rfl (q0 rfl)) rfl ?_
    refine aV 5 (by decide +kernel) rfl (eL Try.isAgg3 (q0 rfl)) rfl ?_
    refine rdy1 (i := 6) (by decide +kernel) (sub_drop 1) ?_
    refine aL rfl (f_pmapDel 0 Try.underlying86 Try.underlying3 rfl rfl rfl ?_)
    refine aZ (by decide +kernel) (sub_drop 1) ?_
    refine thenJ_normal ?_
    refine H_mem (fun w hw => hw.mv4) rfl ?_
    refine E.RT rfl rfl (by decide +kernel) ?_
    refine xV (e_mv (v := .pointer _) (q0 rfl)) rfl rfl ?_
    refine xV (e_nilc (q0 rfl)) rfl rfl ?_
    refine xV (e_fld Try.underlying89 rfl Try.sizeOf54 rfl (q0 rfl)) rfl rfl ?_
    refine xV (eL Try.isAgg54 (q0 rfl)) rfl rfl ?_
    refine xV (e_mv (v := .int _ _) (q0 rfl)) rfl rfl ?_
    refine xV (eS Try.isAgg58 Try.sizeOf58 (q0 rfl)) rfl rfl ?_
    refine xV (e_idx _ Try.underlying54 Try.sizeOf58 (q0 rfl) (q0 rfl) (fun _ => ⟨rfl, by omega⟩)) rfl rfl ?_
    refine XN ?_
    refine thenJ_normal ?_
    refine X_eff (f_storeR0 3 to rfl rfl Try.sizeOf58 rfl rfl rfl hx rfl rfl ?_)
    refine XN ?_
    exact end0 rfl hmk fun w' hw => ⟨(), rfl, hw.tail.tail⟩
  · have hx3 : ¬ x.where_ = 3 := by simpa using h3
    rw [if_neg hx3]
    refine H_skip ?_
    refine thenJ_normal ?_
    refine E.RT rfl rfl (by decide +kernel) ?_
    refine xV (e_mv (v := .pointer _) (q0 rfl)) rfl rfl ?_
    refine xV (e_nilc (q0 rfl)) rfl rfl ?_
    refine xV (e_fld Try.underlying89 rfl Try.sizeOf54 rfl (q0 rfl)) rfl rfl ?_
    refine xV (eL Try.isAgg54 (q0 rfl)) rfl rfl ?_
    refine xV (e_mv (v := .int _ _) (q0 rfl)) rfl rfl ?_
    refine xV (eS Try.isAgg58 Try.sizeOf58 (q0 rfl)) rfl rfl ?_
    refine xV (e_idx _ Try.underlying54 Try.sizeOf58 (q0 rfl) (q0 rfl) (fun _ => ⟨rfl, by omega⟩)) rfl rfl ?_
    refine XN ?_
    refine thenJ_normal ?_
    refine X_eff (f_storeR0 3 to rfl rfl Try.sizeOf58 rfl rfl rfl hx rfl rfl ?_)
    refine XN ?_
    exact end0 rfl hmk fun w' hw => ⟨(), rfl, hw.tail.tail⟩

attribute [local irreducible] tripPtr
theorem pause_w {f : Fl} {a : FA} {s : SA} {t : TS} {w0 w : World} {L : List E.Item} (hw : Mem w0 (stL f a s t ++ L) w) (hmk : marks L = []) (hl : t.spots.length = s.n) (k : Nat) (hk : k < s.n) (pa : Bool) {x : Sp} (hx : t.spots[k]? = some x) {q : Nat} {p : Int × Nat × PT} (hq : t.ps[q]? = some p) (hf : t.ps.find? (fun y => y.1 == x.ride) = some p) :
    Calls Try.prog 86 #[.pointer (some ⟨s.sb, 0, none⟩), .int .i64 k, .bool pa] w fun e w' => ∃ _ : Unit, e = .returned (.tuple #[]) ∧ Mem w0 (stL f a s ⟨t.spots.set k { x with paused := pa }, t.ps.set q (p.1, p.2.1, { p.2.2 with paused := pa }), t.used⟩ ++ L) w' := by
  have hptr : (mlook (ptrs t.ps) x.ride).getD (.pointer none) = .pointer (some ⟨p.2.1, 0, none⟩) := by rw [ptrs_val]; unfold tripPtr; rw [hf]; rfl
  refine H_enterM hw hmk Try.func86 rfl Try.ntmps86 rfl ?_
  refine H_seq ?_
  refine E.RT rfl rfl (by decide +kernel) ?_
  refine xV (e_mv (v := .pointer _) (q0 rfl)) rfl rfl ?_
  refine xV (e_nilc (q0 rfl)) rfl rfl ?_
  refine xV (e_fld Try.underlying89 rfl Try.sizeOf86 rfl (q0 rfl)) rfl rfl ?_
  refine xV (eL Try.isAgg86 (q0 rfl)) rfl rfl ?_
  refine xV (e_mv (v := .pointer _) (q0 rfl)) rfl rfl ?_
  refine xV (e_nilc (q0 rfl)) rfl rfl ?_
  refine xV (e_fld Try.underlying89 rfl Try.sizeOf54 rfl (q0 rfl)) rfl rfl ?_
  refine xV (eL Try.isAgg54 (q0 rfl)) rfl rfl ?_
  refine xV (e_mv (v := .int _ _) (q0 rfl)) rfl rfl ?_
  refine xV (e_idx _ Try.underlying54 Try.sizeOf58 (q0 rfl) (q0 rfl) (fun _ => ⟨rfl, by omega⟩)) rfl rfl ?_
  refine xV (e_fld Try.underlying58 rfl Try.sizeOf3 rfl (q0 rfl)) rfl rfl ?_
  refine xV (eL Try.isAgg3 (q0 rfl)) rfl rfl ?_
  refine xV (e_lookG Try.underlying86 Try.underlying3 Try.zeroValue122 (q0 rfl) (q0 rfl) (pmap_map 2 rfl) (fun _ => hptr)) rfl rfl ?_
  refine xV (e_mv (v := .bool _) (q0 rfl)) rfl rfl ?_
  refine xV (e_nilc (q0 rfl)) rfl rfl ?_
  refine xV (e_fld Try.underlying126 rfl Try.sizeOf4 rfl (q0 rfl)) rfl rfl ?_
  refine XN ?_
  refine thenJ_normal ?_
  refine X_eff (f_pmapStore 2 (off := 2) { p.2.2 with paused := pa } rfl rfl Try.sizeOf4 rfl rfl rfl hq (Nat.le_refl 3) rfl ?_)
  refine XN ?_
  refine thenJ_normal ?_
  refine R0 ?_
  refine xV (e_mv (v := .pointer _) (q0 rfl)) rfl rfl ?_
  refine xV (e_nilc (q0 rfl)) rfl rfl ?_
  refine xV (e_fld Try.underlying89 rfl Try.sizeOf54 rfl (q0 rfl)) rfl rfl ?_
  refine xV (eL Try.isAgg54 (q0 rfl)) rfl rfl ?_
  refine xV (e_mv (v := .int _ _) (q0 rfl)) rfl rfl ?_
  refine xV (e_mv (v := .bool _) (q0 rfl)) rfl rfl ?_
  refine xV (e_idx _ Try.underlying54 Try.sizeOf58 (q0 rfl) (q0 rfl) (fun _ => ⟨rfl, by omega⟩)) rfl rfl ?_
  refine xV (e_fld Try.underlying58 rfl Try.sizeOf4 rfl (q0 rfl)) rfl rfl ?_
  refine X_eff (f_storeR 1 (off := 3) { x with paused := pa } rfl rfl Try.sizeOf4 rfl rfl rfl hx rfl rfl ?_)
  refine XN ?_
  exact end0 rfl hmk fun w' hw => ⟨(), rfl, hw⟩

end Go.Proofs.Cus

/-
  The walks: an event's effect.
-/
namespace Go.Proofs.Cus
open Go Go.RowKit Go.Proofs.E

theorem plain_erase (ps : List (Int × Nat × PT)) (r : Int) : (ps.eraseP fun p => p.1 == r).map (fun p => (p.1, p.2.2)) = (ps.map fun p => (p.1, p.2.2)).eraseP fun p => p.1 == r := by
  induction ps with
  | nil => rfl
  | cons p ps ih =>
    by_cases h : p.1 == r
    · simp [h]
    · simp only [List.map_cons]
      rw [List.eraseP_cons_of_neg (by simpa using h), List.eraseP_cons_of_neg (by simpa using h), List.map_cons, ih]
theorem leaveT_plain (t : TS) (k : Nat) (to : Sp) : (leaveT t k to).plain = leaveP t.plain k to := by
  unfold leaveT leaveP TS.plain TS.open_
  simp only
  congr 1
  split
  · exact plain_erase _ _
  · rfl
theorem set_plain {ps : List (Int × Nat × PT)} (hn : ((ps.map fun p => (p.1, p.2.2)).map (·.1)).Nodup) {q : Nat} {p : Int × Nat × PT} (hq : ps[q]? = some p) (v : PT) : (ps.set q (p.1, p.2.1, v)).map (fun p => (p.1, p.2.2)) = setTrip (ps.map fun p => (p.1, p.2.2)) p.1 v := by
  obtain ⟨hql, hqe⟩ := List.getElem?_eq_some_iff.1 hq
  apply List.ext_getElem?
  intro i
  unfold setTrip
  rw [List.map_set, List.getElem?_set]
  simp only [List.length_map, List.getElem?_map, Option.map_map]
  by_cases e : q = i
  · subst e
    simp [hql, hqe]
  · simp only [e, if_false]
    cases hi : ps[i]? with
    | none => rfl
    | some r =>
      obtain ⟨hil, hie⟩ := List.getElem?_eq_some_iff.1 hi
      simp only [Option.map_some, Function.comp, Option.some.injEq]
      rw [if_neg (fun h => e ?_)]
      have h1 : r.1 = p.1 := by simpa using h
      have := List.pairwise_iff_getElem.1 hn
      rcases Nat.lt_trichotomy q i with h2 | h2 | h2
      · exact absurd (by simp [hqe, hie, h1]) (this q i (by simpa using hql) (by simpa using hil) h2)
      · exact h2
      · exact absurd (by simp [hqe, hie, h1]) (this i q (by simpa using hil) (by simpa using hql) h2)
theorem used_put (l : List Int) (id : Int) : mput (usedPairs l) id (.bool true) = usedPairs (usePut l id) := by
  have key : ∀ l : List Int, mput (usedPairs l) id (.bool true) = usedPairs (if id ∈ l then l else l ++ [id]) := by
    intro l
    induction l with
    | nil => rfl
    | cons x l ih =>
      by_cases hx : x = id
      · subst hx
        simp [usedPairs, mput]
      · have hx' : ¬ id = x := fun e => hx e.symm
        simp only [usedPairs, List.map_cons, mput] at ih ⊢
        rw [if_neg (by simpa using hx), ih]
        by_cases hm : id ∈ l
        · simp [hm]
        · simp [hm, hx']
  rw [key]
  unfold usePut
  by_cases hm : id ∈ l
  · rw [if_pos hm, if_pos (usedP_mem.2 hm)]
  · rw [if_neg hm, if_neg (fun h => hm (usedP_mem.1 h))]
theorem look_get {t : TS} {id : Int} {v : PT} (h : lookP t.plain.open_ id = some v) : ∃ (q : Nat) (p : Int × Nat × PT), t.ps[q]? = some p ∧ t.ps.find? (fun y => y.1 == id) = some p ∧ p.1 = id ∧ p.2.2 = v := by
  have h' : lookP (TS.mk t.spots t.ps t.used).open_ id = some v := h
  rw [look_plain] at h'
  cases hf : t.ps.find? (fun p => p.1 == id) with
  | none => rw [hf] at h'; cases h'
  | some p =>
    rw [hf] at h'
    simp only [Option.map_some, Option.some.injEq] at h'
    obtain ⟨q, hq⟩ := List.mem_iff_getElem?.1 (List.mem_of_find?_eq_some hf)
    exact ⟨q, p, hq, rfl, by simpa using List.find?_some hf, h'⟩

theorem dok_leave {s : PS} {e : Ev} {k : Nat} (hk : e.bike = k) : (e.kind = 1 → doP s e = leaveP s k ⟨1, e.place, 0, false⟩) ∧ (e.kind = 2 → doP s e = leaveP s k ⟨2, e.place, 0, false⟩) ∧ (e.kind = 7 → doP s e = leaveP s k ⟨4, e.place, 0, false⟩) ∧ (e.kind = 8 → doP s e = leaveP s k ⟨5, 0, 0, false⟩) ∧ (e.kind = 9 → doP s e = leaveP s k ⟨6, 0, 0, false⟩) ∧ ((e.kind < 1 ∨ 9 < e.kind) → doP s e = s) := by
  have hkt : e.bike.toNat = k := by omega
  refine ⟨fun h => ?_, fun h => ?_, fun h => ?_, fun h => ?_, fun h => ?_, fun h => ?_⟩ <;> unfold doP <;> simp only [hkt]
  · rw [if_pos h]
  · rw [if_neg (by omega), if_pos h]
  · rw [if_neg (by omega), if_neg (by omega), if_neg (by omega), if_neg (by omega), if_neg (by omega), if_pos h]
  · rw [if_neg (by omega), if_neg (by omega), if_neg (by omega), if_neg (by omega), if_neg (by omega), if_neg (by omega), if_pos h]
  · rw [if_neg (by omega), if_neg (by omega), if_neg (by omega), if_neg (by omega), if_neg (by omega), if_neg (by omega), if_neg (by omega), if_pos h]
  · rw [if_neg (by omega), if_neg (by omega), if_neg (by omega), if_neg (by omega), if_neg (by omega), if_neg (by omega), if_neg (by omega), if_neg (by omega)]

theorem pz_ex {t : TS} {n k : Nat} {x : Sp} {tr : List Int} {e : Ev} (hI : PInv n t.plain) (hk : e.bike = k) (hx : t.spots[k]? = some x) (hg : t.plain.spots.getD e.bike.toNat default = x) (h56 : e.kind = 5 ∨ e.kind = 6) (hc : checkP tr t.plain e = 0) :
    ∃ (q : Nat) (p : Int × Nat × PT), t.ps[q]? = some p ∧ t.ps.find? (fun y => y.1 == x.ride) = some p ∧ (TS.mk (t.spots.set k { x with paused := decide (e.kind = 5) }) (t.ps.set q (p.1, p.2.1, { p.2.2 with paused := decide (e.kind = 5) })) t.used).plain = doP t.plain e := by
  rw [ck5 h56 hg] at hc
  split at hc
  · cases hc
  · rename_i hw3
    have hw3' : x.where_ = 3 := Decidable.of_not_not hw3
    obtain ⟨v, hv, _⟩ := hI.spot k x hx hw3'
    have hlk := lookP_of hI.keys hv
    obtain ⟨q, p, hq, hf, hp1, hp2⟩ := look_get hlk
    refine ⟨q, p, hq, hf, ?_⟩
    have hkt : e.bike.toNat = k := by omega
    unfold doP
    simp only
    rw [if_neg (by omega), if_neg (by omega), if_neg (by omega), if_neg (by omega), if_pos h56, hg, hlk, hkt]
    unfold TS.plain TS.open_
    simp only
    rw [set_plain hI.keys hq, hp1, hp2]

attribute [local irreducible] tripPtr
set_option maxRecDepth 20000 in
theorem do_w {f : Fl} {a : FA} {s : SA} {t : TS} {w0 w : World} {L : List E.Item} {tr : List Int} (e : Ev) (hw : Mem w0 (stL f a s t ++ L) w) (hmk : marks L = []) (hI : PInv s.n t.plain) (hb : 0 ≤ e.bike ∧ e.bike < s.n) (hc : checkP tr t.plain e = 0) :
    Calls Try.prog 65 #[.pointer (some ⟨s.sb, 0, none⟩), .agg e.cells.toArray] w fun r w' => ∃ t' : { t' : TS // t'.plain = doP t.plain e }, r = .returned (.tuple #[]) ∧ Mem w0 (stL f a s t'.1 ++ L) w' := by
  obtain ⟨k, hk⟩ : ∃ k : Nat, e.bike = k := ⟨e.bike.toNat, by omega⟩
  have hl : t.spots.length = s.n := hI.len
  have hkn : k < s.n := by omega
  obtain ⟨x, hx⟩ : ∃ x, t.spots[k]? = some x := ⟨_, List.getElem?_eq_getElem (by omega)⟩
  have hg : t.plain.spots.getD e.bike.toNat default = x := by
    rw [hk, Int.toNat_natCast, List.getD_eq_getElem?_getD]; show (t.spots[k]?).getD default = x; rw [hx]; rfl
  obtain ⟨d1, d2, d7, d8, d9, d0⟩ := dok_leave (s := t.plain) hk
  obtain ⟨ed, es, eat, el, ekind, ebike, epl, erd, erid⟩ := e
  simp only at hk hb hc hg d1 d2 d7 d8 d9 d0
  subst hk
  refine H_enterM hw hmk Try.func65 rfl Try.ntmps65 rfl ?_
  refine H_seq ?_
  refine R0 ?_
  refine X_box (v := .agg _) rfl rfl fun b3 => ?_
  refine XN ?_
  refine thenJ_normal ?_
  refine H_seq ?_
  refine R0 ?_
  refine xV (e_fld Try.underlying50 rfl Try.sizeOf3 rfl (q0 rfl)) rfl rfl ?_
  refine xV (eL Try.isAgg3 (q0 rfl)) rfl rfl ?_
  refine xV (e_build Try.underlying58 fl58 Try.zeroValue58 (pt (v := .int _ _) rfl (pt (v := .int _ _) rfl E.p0)) rfl) rfl rfl ?_
  refine X_alloc Try.zeroValue58 rfl fun b4 => ?_
  refine X_st (v := .agg _) rfl rfl Try.sizeOf58 ?_
  refine XN ?_
  refine thenJ_normal ?_
  refine H_seq ?_
  refine R0 ?_
  refine xV (e_fld Try.underlying50 rfl Try.sizeOf3 rfl (q0 rfl)) rfl rfl ?_
  refine xV (eL Try.isAgg3 (q0 rfl)) rfl rfl ?_
  refine XN ?_
  refine thenJ_normal ?_
  refine H_block ?_
  refine H_seq ?_
  refine R0 ?_
  refine xV (e_eq (q0 rfl) (q0 rfl)) rfl rfl ?_
  refine xV (e_as (v := .bool _) (q0 rfl)) rfl rfl ?_
  refine XN ?_
  refine thenJ_normal ?_
  refine H_cond rfl (fun h1 => ?_) (fun h1 => ?_)
  · have hk1 : ekind = 1 := by simpa using h1
    refine R0 ?_
    refine xV (e_mv (v := .pointer _) (q0 rfl)) rfl rfl ?_
    refine xV (e_fld Try.underlying50 rfl Try.sizeOf3 rfl (q0 rfl)) rfl rfl ?_
    refine xV (eL Try.isAgg3 (q0 rfl)) rfl rfl ?_
    refine xV (e_fld Try.underlying50 rfl Try.sizeOf3 rfl (q0 rfl)) rfl rfl ?_
    refine xV (eL Try.isAgg3 (q0 rfl)) rfl rfl ?_
    refine xV (e_build Try.underlying58 fl58 Try.zeroValue58 (pt (v := .int _ _) rfl (pt (v := .int _ _) rfl E.p0)) rfl) rfl rfl ?_
    refine X_eff (f_callM (en Try.call85 (ha3 (q0 rfl) (q0 rfl) (q0 rfl))) (fun w hw => leave_w (Mem.rot (X := [_, _]) (S := stL f a s t) hw) hmk hl k hkn ⟨1, epl, 0, false⟩) rfl (fun _ => rfl) fun u => ?_)
    refine XN ?_
    refine blockJ_normal ?_
    exact end0 rfl hmk fun w' hw => ⟨⟨_, (leaveT_plain _ _ _).trans (d1 hk1).symm⟩, rfl, Mem.cutM (X := [_, _]) hw⟩
  · refine H_seq ?_
    refine R0 ?_
    refine xV (e_eq (q0 rfl) (q0 rfl)) rfl rfl ?_
    refine xV (e_as (v := .bool _) (q0 rfl)) rfl rfl ?_
    refine XN ?_
    refine thenJ_normal ?_
    refine H_cond rfl (fun h2 => ?_) (fun h2 => ?_)
    · have hk2 : ekind = 2 := by simpa using h2
      refine R0 ?_
      refine xV (e_mv (v := .pointer _) (q0 rfl)) rfl rfl ?_
      refine xV (e_fld Try.underlying50 rfl Try.sizeOf3 rfl (q0 rfl)) rfl rfl ?_
      refine xV (eL Try.isAgg3 (q0 rfl)) rfl rfl ?_
      refine xV (e_fld Try.underlying50 rfl Try.sizeOf3 rfl (q0 rfl)) rfl rfl ?_
      refine xV (eL Try.isAgg3 (q0 rfl)) rfl rfl ?_
      refine xV (e_build Try.underlying58 fl58 Try.zeroValue58 (pt (v := .int _ _) rfl (pt (v := .int _ _) rfl E.p0)) rfl) rfl rfl ?_
      refine X_eff (f_callM (en Try.call85 (ha3 (q0 rfl) (q0 rfl) (q0 rfl))) (fun w hw => leave_w (Mem.rot (X := [_, _]) (S := stL f a s t) hw) hmk hl k hkn ⟨2, epl, 0, false⟩) rfl (fun _ => rfl) fun u => ?_)
      refine XN ?_
      refine blockJ_normal ?_
      exact end0 rfl hmk fun w' hw => ⟨⟨_, (leaveT_plain _ _ _).trans (d2 hk2).symm⟩, rfl, Mem.cutM (X := [_, _]) hw⟩
    · refine H_seq ?_
      refine R0 ?_
      refine xV (e_eq (q0 rfl) (q0 rfl)) rfl rfl ?_
      refine xV (e_as (v := .bool _) (q0 rfl)) rfl rfl ?_
      refine XN ?_
      refine thenJ_normal ?_
      refine H_cond rfl (fun h3 => ?_) (fun h3 => ?_)
      · have hk3 : ekind = 3 := by simpa using h3
        have hck := hc
        rw [ck3 hk3 hg] at hck
        obtain ⟨hpk, hu⟩ : parkedS x = true ∧ usedP t.used erid = false := by
          split at hck
          · cases hck
          · rename_i h1
            split at hck
            · cases hck
            · rename_i h2
              exact ⟨by simpa using h1, by show usedP t.plain.used erid = false; simpa using h2⟩
        have hno : t.ps.find? (fun p => p.1 == erid) = none := by
          rw [List.find?_eq_none]
          intro p hp hpe
          have h1 := hI.used (p.1, p.2.2) (List.mem_map.2 ⟨p, hp, rfl⟩)
          simp only [beq_iff_eq] at hpe
          simp only [hpe] at h1
          rw [show t.plain.used = t.used from rfl, hu] at h1
          cases h1
        refine H_seq ?_
        refine H_mem (fun w hw => hw.fr4) rfl ?_
        refine RAd 1 rfl (by decide +kernel) ?_
        refine aV 0 (by decide +kernel) rfl (e_mv (v := .pointer _) (q0 rfl)) rfl ?_
        refine aV 1 (by decide +kernel) rfl (e_nilc (q0 rfl)) rfl ?_
        refine aV 2 (by decide +kernel) rfl (e_fld Try.underlying89 rfl Try.sizeOf86 rfl (q0 rfl)) rfl ?_
        refine aV 3 (by decide +kernel) rfl (eL Try.isAgg86 (q0 rfl)) rfl ?_
        refine aV 4 (by decide +kernel) rfl (e_fld Try.underlying50 rfl Try.sizeOf3 rfl (q0 rfl)) rfl ?_
        refine aV 5 (by decide +kernel) rfl (eL Try.isAgg3 (q0 rfl)) rfl ?_
        refine aV 6 (by decide +kernel) rfl (e_fld Try.underlying50 rfl Try.sizeOf3 rfl (q0 rfl)) rfl ?_
        refine aV 7 (by decide +kernel) rfl (eL Try.isAgg3 (q0 rfl)) rfl ?_
        refine aV 8 (by decide +kernel) rfl (e_fld Try.underlying50 rfl Try.sizeOf3 rfl (q0 rfl)) rfl ?_
        refine aV 9 (by decide +kernel) rfl (eL Try.isAgg3 (q0 rfl)) rfl ?_
        refine aV 10 (by decide +kernel) rfl (e_build Try.underlying126 fl126 Try.zeroValue126 (pt (v := .int _ _) rfl (pt (v := .int _ _) rfl E.p0)) rfl) rfl ?_
        refine rdy1 (i := 11) (by decide +kernel) (sub_drop 1) ?_
        refine aL rfl (f_box (v := .agg _) rfl rfl fun b42 => ?_)
        refine rdy1 (i := 12) (by decide +kernel) (sub_drop 2) ?_
        refine aL rfl (f_pmapPut 0 ⟨erd, k, false⟩ Try.underlying86 Try.underlying3 rfl rfl rfl rfl rfl hno ?_)
        refine aZ (by decide +kernel) (sub_drop 1) ?_
        refine thenJ_normal ?_
        refine H_seq ?_
        refine H_mem (fun w hw => hw.mv4) rfl ?_
        refine E.RT rfl rfl (by decide +kernel) ?_
        refine xV (e_mv (v := .pointer _) (q0 rfl)) rfl rfl ?_
        refine xV (e_nilc (q0 rfl)) rfl rfl ?_
        refine xV (e_fld Try.underlying89 rfl Try.sizeOf87 rfl (q0 rfl)) rfl rfl ?_
        refine xV (eL Try.isAgg87 (q0 rfl)) rfl rfl ?_
        refine xV (e_fld Try.underlying50 rfl Try.sizeOf3 rfl (q0 rfl)) rfl rfl ?_
        refine xV (eL Try.isAgg3 (q0 rfl)) rfl rfl ?_
        refine XN ?_
        refine thenJ_normal ?_
        refine X_mapset (v := .bool true) 5 Try.underlying87 Try.underlying3 rfl rfl rfl rfl ?_
        refine XN ?_
        refine thenJ_normal ?_
        refine E.RT rfl rfl (by decide +kernel) ?_
        refine xV (e_mv (v := .pointer _) (q0 rfl)) rfl rfl ?_
        refine xV (e_nilc (q0 rfl)) rfl rfl ?_
        refine xV (e_fld Try.underlying89 rfl Try.sizeOf54 rfl (q0 rfl)) rfl rfl ?_
        refine xV (eL Try.isAgg54 (q0 rfl)) rfl rfl ?_
        refine xV (e_fld Try.underlying50 rfl Try.sizeOf3 rfl (q0 rfl)) rfl rfl ?_
        refine xV (eL Try.isAgg3 (q0 rfl)) rfl rfl ?_
        refine xV (eS Try.isAgg58 Try.sizeOf58 (q0 rfl)) rfl rfl ?_
        refine xV (e_idx _ Try.underlying54 Try.sizeOf58 (q0 rfl) (q0 rfl) (fun _ => ⟨rfl, by omega⟩)) rfl rfl ?_
        refine XN ?_
        refine thenJ_normal ?_
        refine X_eff (f_storeR0 3 ⟨3, 0, erid, false⟩ rfl rfl Try.sizeOf58 rfl rfl rfl hx rfl rfl ?_)
        refine XN ?_
        refine blockJ_normal ?_
        exact end0 rfl hmk fun w' hw => ⟨⟨⟨t.spots.set k ⟨3, 0, erid, false⟩, t.ps ++ [(erid, b42, ⟨erd, k, false⟩)], usePut t.used erid⟩, by
          unfold doP
          simp only
          rw [if_neg (by omega), if_neg (by omega), if_pos hk3]
          unfold TS.plain TS.open_
          simp⟩, rfl, by have h9 := hw.tail.tail; rw [used_put] at h9; exact h9⟩
      · refine H_seq ?_
        refine R0 ?_
        refine xV (e_eq (q0 rfl) (q0 rfl)) rfl rfl ?_
        refine xV (e_as (v := .bool _) (q0 rfl)) rfl rfl ?_
        refine XN ?_
        refine thenJ_normal ?_
        refine H_cond rfl (fun h4 => ?_) (fun h4 => ?_)
        · have hk4 : ekind = 4 := by simpa using h4
          have hck := hc
          rw [ck4 hk4 hg] at hck
          obtain ⟨v, hv, hpk⟩ : ∃ v, lookP t.plain.open_ erid = some v ∧ parkedS x = true := by
            cases hlk : lookP t.plain.open_ erid with
            | none => rw [hlk] at hck; cases hck
            | some v =>
              rw [hlk] at hck
              simp only at hck
              split at hck
              · cases hck
              · rename_i h1
                exact ⟨v, rfl, by simpa using h1⟩
          obtain ⟨q, p, hq, hf, hp1, hp2⟩ := look_get hv
          obtain ⟨hj0, y, hy, y3, yr, yp⟩ := hI.bike _ (lookP_some hv)
          simp only at hj0 hy
          obtain ⟨j, hj⟩ : ∃ j : Nat, v.bike = j := ⟨v.bike.toNat, by omega⟩
          rw [hj, Int.toNat_natCast] at hy
          have hjn : j < s.n := by rw [← hl]; exact (List.getElem?_eq_some_iff.1 hy).1
          have hjk : j ≠ k := fun e => by
            have h9 : t.spots[j]? = some y := hy
            rw [e, hx] at h9
            cases h9
            exact parked_no3 hpk y3
          have hptr : (mlook (ptrs t.ps) erid).getD (.pointer none) = .pointer (some ⟨p.2.1, 0, none⟩) := by rw [ptrs_val]; unfold tripPtr; rw [hf]; rfl
          have hpb : p.2.2.bike = j := by rw [hp2]; exact hj
          have hx2 : (t.spots.set j x)[k]? = some x := by rw [List.getElem?_set_ne hjk]; exact hx
          have hy2 : t.spots[j]? = some y := hy
          refine H_seq ?_
          refine R1 rfl (by decide +kernel) ?_
          refine xV (e_mv (v := .pointer _) (q0 rfl)) rfl rfl ?_
          refine xV (e_nilc (q0 rfl)) rfl rfl ?_
          refine xV (e_fld Try.underlying89 rfl Try.sizeOf86 rfl (q0 rfl)) rfl rfl ?_
          refine xV (eL Try.isAgg86 (q0 rfl)) rfl rfl ?_
          refine xV (e_fld Try.underlying50 rfl Try.sizeOf3 rfl (q0 rfl)) rfl rfl ?_
          refine xV (eL Try.isAgg3 (q0 rfl)) rfl rfl ?_
          refine xV (e_lookG Try.underlying86 Try.underlying3 Try.zeroValue122 (q0 rfl) (q0 rfl) (pmap_map 4 rfl) (fun _ => hptr)) rfl rfl ?_
          refine xV (e_as (v := .pointer _) (q0 rfl)) rfl rfl ?_
          refine XN ?_
          refine thenJ_normal ?_
          refine H_seq ?_
          refine E.RT rfl rfl (by decide +kernel) ?_
          refine xV (e_mv (v := .pointer _) (q0 rfl)) rfl rfl ?_
          refine xV (e_nilc (q0 rfl)) rfl rfl ?_
          refine xV (e_fld Try.underlying89 rfl Try.sizeOf54 rfl (q0 rfl)) rfl rfl ?_
          refine xV (eL Try.isAgg54 (q0 rfl)) rfl rfl ?_
          refine xV (e_mv (v := .pointer _) (q0 rfl)) rfl rfl ?_
          refine xV (e_nilc (q0 rfl)) rfl rfl ?_
          refine xV (e_fld Try.underlying126 rfl Try.sizeOf3 rfl (q0 rfl)) rfl rfl ?_
          refine xV (e_ld (v := .int .i64 j) Try.isAgg3 (q0 rfl) (pc 4 (r := 1) rfl hq (by show some (Value.int .i64 p.2.2.bike) = _; rw [hpb]))) rfl rfl ?_
          refine xV (e_mv (v := .pointer _) (q0 rfl)) rfl rfl ?_
          refine xV (e_nilc (q0 rfl)) rfl rfl ?_
          refine xV (e_fld Try.underlying89 rfl Try.sizeOf54 rfl (q0 rfl)) rfl rfl ?_
          refine xV (eL Try.isAgg54 (q0 rfl)) rfl rfl ?_
          refine xV (e_fld Try.underlying50 rfl Try.sizeOf3 rfl (q0 rfl)) rfl rfl ?_
          refine xV (eL Try.isAgg3 (q0 rfl)) rfl rfl ?_
          refine xV (e_idx _ Try.underlying54 Try.sizeOf58 (q0 rfl) (q0 rfl) (fun _ => ⟨rfl, by omega⟩)) rfl rfl ?_
          refine xV (eS Try.isAgg58 Try.sizeOf58 (q0 rfl)) rfl rfl ?_
          refine xV (e_idx _ Try.underlying54 Try.sizeOf58 (q0 rfl) (q0 rfl) (fun _ => ⟨rfl, by omega⟩)) rfl rfl ?_
          refine XN ?_
          refine thenJ_normal ?_
          refine X_eff (f_storeR0 3 x rfl rfl Try.sizeOf58 rfl rfl rfl hy2 rfl rfl ?_)
          refine XN ?_
          refine thenJ_normal ?_
          refine H_seq ?_
          refine E.RT rfl rfl (by decide +kernel) ?_
          refine xV (e_mv (v := .pointer _) (q0 rfl)) rfl rfl ?_
          refine xV (e_nilc (q0 rfl)) rfl rfl ?_
          refine xV (e_fld Try.underlying89 rfl Try.sizeOf54 rfl (q0 rfl)) rfl rfl ?_
          refine xV (eL Try.isAgg54 (q0 rfl)) rfl rfl ?_
          refine xV (e_fld Try.underlying50 rfl Try.sizeOf3 rfl (q0 rfl)) rfl rfl ?_
          refine xV (eL Try.isAgg3 (q0 rfl)) rfl rfl ?_
          refine xV (eS Try.isAgg58 Try.sizeOf58 (q0 rfl)) rfl rfl ?_
          refine xV (e_idx _ Try.underlying54 Try.sizeOf58 (q0 rfl) (q0 rfl) (fun _ => ⟨rfl, by omega⟩)) rfl rfl ?_
          refine XN ?_
          refine thenJ_normal ?_
          refine X_eff (f_storeR0 3 ⟨3, 0, erid, false⟩ rfl rfl Try.sizeOf58 rfl rfl rfl hx2 rfl rfl ?_)
          refine XN ?_
          refine thenJ_normal ?_
          refine R0 ?_
          refine xV (e_mv (v := .pointer _) (q0 rfl)) rfl rfl ?_
          refine xV (e_fld Try.underlying50 rfl Try.sizeOf3 rfl (q0 rfl)) rfl rfl ?_
          refine xV (eL Try.isAgg3 (q0 rfl)) rfl rfl ?_
          refine xV (e_nilc (q0 rfl)) rfl rfl ?_
          refine xV (e_fld Try.underlying126 rfl Try.sizeOf3 rfl (q0 rfl)) rfl rfl ?_
          refine X_eff (f_pmapStore 4 (off := 1) { p.2.2 with bike := (k : Int) } rfl rfl Try.sizeOf3 rfl rfl rfl hq (by show 1 + 1 ≤ 3; decide) rfl ?_)
          refine XN ?_
          refine blockJ_normal ?_
          exact end0 rfl hmk fun w' hw => ⟨⟨⟨(t.spots.set j x).set k ⟨3, 0, erid, false⟩, t.ps.set q (p.1, p.2.1, { p.2.2 with bike := (k : Int) }), t.used⟩, by
            unfold doP
            simp only at hg ⊢
            rw [if_neg (by omega), if_neg (by omega), if_neg (by omega), if_pos hk4, hv, hg]
            unfold TS.plain TS.open_
            simp only [Int.toNat_natCast, hj]
            rw [set_plain hI.keys hq, hp1, hp2]⟩, rfl, hw.tail.tail⟩
        · refine H_seq ?_
          refine H_seq ?_
          refine R0 ?_
          refine xV (e_eq (q0 rfl) (q0 rfl)) rfl rfl ?_
          refine xV (e_as (v := .bool _) (q0 rfl)) rfl rfl ?_
          refine XN ?_
          refine thenJ_normal ?_
          refine H_cond rfl (fun h5 => ?_) (fun h5 => ?_)
          · have h56 : ekind = 5 ∨ ekind = 6 := .inl (by simpa using h5)
            obtain ⟨q, p, hq, hf, hpz⟩ := pz_ex hI rfl hx hg h56 hc
            refine H_skip ?_
            refine thenJ_normal ?_
            refine H_cond rfl (fun h5b => ?_) (fun h5b => ?_)
            · have _ht : True := trivial
              refine R0 ?_
              refine xV (e_mv (v := .pointer _) (q0 rfl)) rfl rfl ?_
              refine xV (e_fld Try.underlying50 rfl Try.sizeOf3 rfl (q0 rfl)) rfl rfl ?_
              refine xV (eL Try.isAgg3 (q0 rfl)) rfl rfl ?_
              refine xV (e_fld Try.underlying50 rfl Try.sizeOf3 rfl (q0 rfl)) rfl rfl ?_
              refine xV (eL Try.isAgg3 (q0 rfl)) rfl rfl ?_
              refine xV (e_eq (q0 rfl) (q0 rfl)) rfl rfl ?_
              refine X_eff (f_callM (en Try.call86 (ha3 (q0 rfl) (q0 rfl) (q0 rfl))) (fun w hw => pause_w (Mem.rot (X := [_, _]) (S := stL f a s t) hw) hmk hl k hkn (decide (ekind = 5)) hx hq hf) rfl (fun _ => rfl) fun u => ?_)
              refine XN ?_
              refine blockJ_normal ?_
              exact end0 rfl hmk fun w' hw => ⟨⟨_, hpz⟩, rfl, Mem.cutM (X := [_, _]) hw⟩
            · rw [h5] at h5b; cases h5b
          · refine R0 ?_
            refine xV (e_eq (q0 rfl) (q0 rfl)) rfl rfl ?_
            refine xV (e_as (v := .bool _) (q0 rfl)) rfl rfl ?_
            refine XN ?_
            refine thenJ_normal ?_
            refine H_cond rfl (fun h6 => ?_) (fun h6 => ?_)
            · have h56 : ekind = 5 ∨ ekind = 6 := .inr (by simpa using h6)
              obtain ⟨q, p, hq, hf, hpz⟩ := pz_ex hI rfl hx hg h56 hc
              refine R0 ?_
              refine xV (e_mv (v := .pointer _) (q0 rfl)) rfl rfl ?_
              refine xV (e_fld Try.underlying50 rfl Try.sizeOf3 rfl (q0 rfl)) rfl rfl ?_
              refine xV (eL Try.isAgg3 (q0 rfl)) rfl rfl ?_
              refine xV (e_fld Try.underlying50 rfl Try.sizeOf3 rfl (q0 rfl)) rfl rfl ?_
              refine xV (eL Try.isAgg3 (q0 rfl)) rfl rfl ?_
              refine xV (e_eq (q0 rfl) (q0 rfl)) rfl rfl ?_
              refine X_eff (f_callM (en Try.call86 (ha3 (q0 rfl) (q0 rfl) (q0 rfl))) (fun w hw => pause_w (Mem.rot (X := [_, _]) (S := stL f a s t) hw) hmk hl k hkn (decide (ekind = 5)) hx hq hf) rfl (fun _ => rfl) fun u => ?_)
              refine XN ?_
              refine blockJ_normal ?_
              exact end0 rfl hmk fun w' hw => ⟨⟨_, hpz⟩, rfl, Mem.cutM (X := [_, _]) hw⟩
            · refine H_seq ?_
              refine R0 ?_
              refine xV (e_eq (q0 rfl) (q0 rfl)) rfl rfl ?_
              refine xV (e_as (v := .bool _) (q0 rfl)) rfl rfl ?_
              refine XN ?_
              refine thenJ_normal ?_
              refine H_cond rfl (fun h7 => ?_) (fun h7 => ?_)
              · have hk7 : ekind = 7 := by simpa using h7
                refine R0 ?_
                refine xV (e_mv (v := .pointer _) (q0 rfl)) rfl rfl ?_
                refine xV (e_fld Try.underlying50 rfl Try.sizeOf3 rfl (q0 rfl)) rfl rfl ?_
                refine xV (eL Try.isAgg3 (q0 rfl)) rfl rfl ?_
                refine xV (e_fld Try.underlying50 rfl Try.sizeOf3 rfl (q0 rfl)) rfl rfl ?_
                refine xV (eL Try.isAgg3 (q0 rfl)) rfl rfl ?_
                refine xV (e_build Try.underlying58 fl58 Try.zeroValue58 (pt (v := .int _ _) rfl (pt (v := .int _ _) rfl E.p0)) rfl) rfl rfl ?_
                refine X_eff (f_callM (en Try.call85 (ha3 (q0 rfl) (q0 rfl) (q0 rfl))) (fun w hw => leave_w (Mem.rot (X := [_, _]) (S := stL f a s t) hw) hmk hl k hkn ⟨4, epl, 0, false⟩) rfl (fun _ => rfl) fun u => ?_)
                refine XN ?_
                refine blockJ_normal ?_
                exact end0 rfl hmk fun w' hw => ⟨⟨_, (leaveT_plain _ _ _).trans (d7 hk7).symm⟩, rfl, Mem.cutM (X := [_, _]) hw⟩
              · refine H_seq ?_
                refine R0 ?_
                refine xV (e_eq (q0 rfl) (q0 rfl)) rfl rfl ?_
                refine xV (e_as (v := .bool _) (q0 rfl)) rfl rfl ?_
                refine XN ?_
                refine thenJ_normal ?_
                refine H_cond rfl (fun h8 => ?_) (fun h8 => ?_)
                · have hk8 : ekind = 8 := by simpa using h8
                  refine R0 ?_
                  refine xV (e_mv (v := .pointer _) (q0 rfl)) rfl rfl ?_
                  refine xV (e_fld Try.underlying50 rfl Try.sizeOf3 rfl (q0 rfl)) rfl rfl ?_
                  refine xV (eL Try.isAgg3 (q0 rfl)) rfl rfl ?_
                  refine xV (e_build Try.underlying58 fl58 Try.zeroValue58 (pt (v := .int _ _) rfl E.p0) rfl) rfl rfl ?_
                  refine X_eff (f_callM (en Try.call85 (ha3 (q0 rfl) (q0 rfl) (q0 rfl))) (fun w hw => leave_w (Mem.rot (X := [_, _]) (S := stL f a s t) hw) hmk hl k hkn ⟨5, 0, 0, false⟩) rfl (fun _ => rfl) fun u => ?_)
                  refine XN ?_
                  refine blockJ_normal ?_
                  exact end0 rfl hmk fun w' hw => ⟨⟨_, (leaveT_plain _ _ _).trans (d8 hk8).symm⟩, rfl, Mem.cutM (X := [_, _]) hw⟩
                · refine H_seq ?_
                  refine R0 ?_
                  refine xV (e_eq (q0 rfl) (q0 rfl)) rfl rfl ?_
                  refine xV (e_as (v := .bool _) (q0 rfl)) rfl rfl ?_
                  refine XN ?_
                  refine thenJ_normal ?_
                  refine H_cond rfl (fun h9 => ?_) (fun h9 => ?_)
                  · have hk9 : ekind = 9 := by simpa using h9
                    refine R0 ?_
                    refine xV (e_mv (v := .pointer _) (q0 rfl)) rfl rfl ?_
                    refine xV (e_fld Try.underlying50 rfl Try.sizeOf3 rfl (q0 rfl)) rfl rfl ?_
                    refine xV (eL Try.isAgg3 (q0 rfl)) rfl rfl ?_
                    refine xV (e_build Try.underlying58 fl58 Try.zeroValue58 (pt (v := .int _ _) rfl E.p0) rfl) rfl rfl ?_
                    refine X_eff (f_callM (en Try.call85 (ha3 (q0 rfl) (q0 rfl) (q0 rfl))) (fun w hw => leave_w (Mem.rot (X := [_, _]) (S := stL f a s t) hw) hmk hl k hkn ⟨6, 0, 0, false⟩) rfl (fun _ => rfl) fun u => ?_)
                    refine XN ?_
                    refine blockJ_normal ?_
                    exact end0 rfl hmk fun w' hw => ⟨⟨_, (leaveT_plain _ _ _).trans (d9 hk9).symm⟩, rfl, Mem.cutM (X := [_, _]) hw⟩
                  · refine H_skip ?_
                    refine blockJ_normal ?_
                    exact end0 rfl hmk fun w' hw => ⟨⟨t, (d0 (by simp at h1 h2 h3 h4 h5 h6 h7 h8 h9; omega)).symm⟩, rfl, hw.tail.tail⟩

end Go.Proofs.Cus

/-
  The walks: the run over the events, whatever is told of them to whom.
-/
namespace Go.Proofs.Cus
open Go Go.RowKit Go.Proofs.E

/-- one who is told of each event: what it holds (z, at places x), what it makes of it -/
structure CbOK {σ τ : Type} (f : Fl) (a : FA) (n : Nat) (g : FuncId) (lb : List Value) (cb : σ → PS → Ev → Int → σ) (CI : σ → τ → List E.Item) (J : Nat → σ → Prop) : Prop where
  enter : ∀ args w, (callFunc g args).run Try.prog w = .ok (.enter g args) w
  run : ∀ {w0 : World} {L : List E.Item} {s : SA} {t : TS} {z : σ} {x : τ} {k : Nat} (e : Ev) (er : Int), marks L = [] → s.n = n → t.spots.length = n → n ≤ 1000 → FlAt w0 f a → k ≤ 10000 → J k z → ∀ w, Mem w0 (CI z x ++ (stL f a s t ++ L)) w →
    Calls Try.prog g (([.pointer (some ⟨s.sb, 0, none⟩), .agg e.cells.toArray, .int .i64 er] : List Value) ++ lb).toArray w fun r w' => ∃ x' : τ, r = .returned (.tuple #[]) ∧ Mem w0 (CI (cb z t.plain e er) x' ++ (stL f a s t ++ L)) w'
  keep : ∀ k z s e er, J k z → J (k + 1) (cb z s e er)
def CbIs {σ τ : Type} (f : Fl) (a : FA) (n : Nat) (o : Option (FuncId × List Value)) (cb : σ → PS → Ev → Int → σ) (CI : σ → τ → List E.Item) (J : Nat → σ → Prop) : Prop :=
  match o with
  | none => ∀ z s e er, cb z s e er = z
  | some gl => CbOK f a n gl.1 gl.2 cb CI J
def cbv : Option (FuncId × List Value) → Value
  | none => .nilFunc
  | some gl => .func (.func gl.1) #[] gl.2.toArray

theorem runErr_w (f : Fl) (a : FA) (A : Option Addr) (n c : Nat) (v : Value) (w : World) (hf : FlAt w f a) (he : flErr f ≠ 0) :
    Calls Try.prog 45 #[.agg (f.cells a).toArray, .slice A n c, v] w fun e w' => e = .returned (.tuple #[.pointer none, .int .i64 (flErr f)]) ∧ Bel w w' := by
  refine H_enter Try.func45 rfl Try.ntmps45 rfl ?_
  refine H_seq ?_
  refine R0 ?_
  refine X_box (v := .agg _) rfl rfl fun b3 => ?_
  refine xV (e_as (v := .pointer _) (q0 rfl)) rfl rfl ?_
  refine xV (e_as (v := .int _ _) (q0 rfl)) rfl rfl ?_
  refine XN ?_
  refine thenJ_normal ?_
  refine H_seq ?_
  refine H_seq ?_
  refine R0 ?_
  refine xV (eS Try.isAgg42 Try.sizeOf42 (q0 rfl)) rfl rfl ?_
  refine xC (en Try.call47 (ha1 (q0 rfl))) (fun _ w hm => fleet_w f a w (hf.mem hm)) rfl rfl ?_
  refine xV (e_as (v := .int _ _) (q0 rfl)) rfl rfl ?_
  refine XN ?_
  refine thenJ_normal ?_
  refine H_seq ?_
  refine R0 ?_
  refine xV (e_mv (v := .int _ _) (q0 rfl)) rfl rfl ?_
  refine xV (e_ne (q0 rfl) (q0 rfl)) rfl rfl ?_
  refine XN ?_
  refine thenJ_normal ?_
  refine H_cond rfl (fun h => ?_) (fun h => ?_)
  · refine H_seq ?_
    refine R0 ?_
    refine xV (e_mv (v := .int _ _) (q0 rfl)) rfl rfl ?_
    refine xV (e_as (v := .pointer _) (q0 rfl)) rfl rfl ?_
    refine xV (e_as (v := .int _ _) (q0 rfl)) rfl rfl ?_
    refine XN ?_
    refine thenJ_normal ?_
    refine H_ret ?_
    refine thenJ_ret ?_
    exact ret2 (v := .pointer _) (x := .int _ _) rfl rfl rfl rfl fun w' hw => ⟨rfl, hw.1⟩
  · exact absurd (by simpa using h) he

set_option maxRecDepth 20000 in
theorem run_w {σ τ : Type} (f : Fl) (a : FA) (A : Option Addr) (n c nb : Nat) (xs : List Ev) (o : Option (FuncId × List Value)) (cb : σ → PS → Ev → Int → σ) (CI : σ → τ → List E.Item) (J : Nat → σ → Prop) (hcbs : CbIs f a nb o cb CI J) (hJn : ∀ k z, J k z → J (k + 1) z)
    {w0 w : World} {L : List E.Item} {z0 : σ} {x0 : τ} (hw : Mem w0 (CI z0 x0 ++ L) w) (hmL : marks L = []) (hmC : ∀ z x, marks (CI z x) = []) (hJ0 : J 0 z0) (hf : FlAt w0 f a) (hx : EvsAt w0 A n xs) (hn : n ≤ 10000) (hok : flErr f = 0) (hnb : f.bikes = nb)
    (hpl : ∀ e ∈ xs, -9223372036854775808 ≤ e.place ∧ e.place ≤ 9223372036854775807) :
    Calls Try.prog 45 #[.agg (f.cells a).toArray, .slice A n c, cbv o] w fun e w' => ∃ y : { y : SA × TS × τ // y.1.n = nb ∧ y.2.1.plain = (runR f cb (setOf xs) (beginP nb, z0)).1 }, e = .returned (.tuple #[.pointer (some ⟨y.1.1.sb, 0, none⟩), .int .i64 0]) ∧ Mem w0 (stL f a y.1.1 y.1.2.1 ++ (CI (runR f cb (setOf xs) (beginP nb, z0)).2 y.1.2.2 ++ L)) w' := by
  have hmk2 : ∀ z x, marks (CI z x ++ L) = [] := fun z x => by rw [marks_append, hmC, hmL]; rfl
  have hmk := hmL
  obtain ⟨hbk, -⟩ := flErr_ok hok
  have hys : ∀ e ∈ setOf xs, -9223372036854775808 ≤ e.place ∧ e.place ≤ 9223372036854775807 := fun e he => hpl e ((set_isSet xs).mem e |>.1 he).1
  have hylen := setOf_len xs
  have hxl := hx.1
  refine H_enterM hw (hmk2 _ _) Try.func45 rfl Try.ntmps45 rfl ?_
  refine H_seq ?_
  refine R0 ?_
  refine X_box (v := .agg _) rfl rfl fun b3 => ?_
  refine xV (e_as (v := .pointer _) (q0 rfl)) rfl rfl ?_
  refine xV (e_as (v := .int _ _) (q0 rfl)) rfl rfl ?_
  refine XN ?_
  refine thenJ_normal ?_
  refine H_seq ?_
  refine H_seq ?_
  refine R0 ?_
  refine xV (eS Try.isAgg42 Try.sizeOf42 (q0 rfl)) rfl rfl ?_
  refine xC (en Try.call47 (ha1 (q0 rfl))) (fun _ w hm => fleet_w f a w (hf.mem hm)) rfl rfl ?_
  refine xV (e_as (v := .int _ _) (q0 rfl)) rfl rfl ?_
  refine XN ?_
  refine thenJ_normal ?_
  refine H_seq ?_
  refine R0 ?_
  refine xV (e_mv (v := .int _ _) (q0 rfl)) rfl rfl ?_
  refine xV (e_ne (q0 rfl) (q0 rfl)) rfl rfl ?_
  refine XN ?_
  refine thenJ_normal ?_
  refine H_cond rfl (fun h => ?_) (fun h => ?_)
  · exact absurd hok (by simpa using h)
  · refine H_skip ?_
    refine thenJ_normal ?_
    refine H_seq ?_
    refine R0 ?_
    refine xV (eS Try.isAgg42 Try.sizeOf42 (q0 rfl)) rfl rfl ?_
    refine xCX (en Try.call62 (ha1 (q0 rfl))) (fun w hw => begin_w f a nb hnb (by omega) w) rfl (fun _ => rfl) fun s => ?_
    refine xV (e_as (v := .pointer _) (q0 rfl)) rfl rfl ?_
    refine XN ?_
    refine thenJ_normal ?_
    refine H_seq ?_
    refine H_seq ?_
    refine R0 ?_
    refine xV (e_mv (v := .slice _ _ _) (q0 rfl)) rfl rfl ?_
    refine xCX (en Try.call49 (ha1 (q0 rfl))) (fun w hw => set_w A n c xs w (hx.mem hw) hn) rfl (fun _ => rfl) fun Y => ?_
    refine xV (e_len Try.underlying43 (q0 rfl)) rfl rfl ?_
    refine xV (e_mv (v := .int _ _) (q0 rfl)) rfl rfl ?_
    refine XN ?_
    refine thenJ_normal ?_
    refine H_block ?_
    obtain ⟨s, hsn⟩ := s
    generalize hys0 : setOf xs = ys at *
    obtain ⟨R, hR⟩ : ∃ R : Nat → PS × σ, R = fun k => runR f cb (ys.take k) (beginP nb, z0) := ⟨_, rfl⟩
    have hR0 : R 0 = (beginP nb, z0) := by rw [hR]; rfl
    have hRn : R ys.length = runR f cb ys (beginP nb, z0) := by rw [hR]; simp only [List.take_length]
    have hRs : ∀ k e, ys[k]? = some e → R (k + 1) = tellR cb (R k).2 e (stepR f (R k).1 e) := fun k e he => by rw [hR]; exact runR_snoc ys _ k e he
    have hRI : ∀ k, PInv nb (R k).1 := fun k => by rw [hR]; exact runR_inv hnb _ _ (PInv.begin nb)
    clear hR
    refine H_loop [11, 12, 23, 24, 25, 26, 27, 28, 29, 30, 31, 32, 33, 34, 35, 36, 37, 38, 39, 40, 41, 42, 43, 44, 45, 46, 47, 48, 49, 50, 51, 52, 53, 54] (fun q : Nat × TS × τ => [(23, .int .i64 q.1)]) (fun q => evRow Y.1 Y.2 ys :: (stL f a s q.2.1 ++ (box b3 42 (f.cells a) :: (CI (R q.1).2 q.2.2 ++ L)))) (fun q => q.1 ≤ ys.length ∧ q.2.1.plain = (R q.1).1 ∧ J q.1 (R q.1).2) (fun q => ys.length - q.1) (0, beginT nb, x0) ⟨rfl, trivial⟩ (fun w hw => by show Mem w0 (evRow _ _ _ :: (stL f a s _ ++ (_ :: (CI (R 0).2 _ ++ L)))) w; rw [hR0]; exact hw) ((hmk2 _ _).trans (hmk2 _ _).symm) ⟨Nat.zero_le _, by rw [hR0]; rfl, by show J 0 (R 0).2; rw [hR0]; exact hJ0⟩ ?_
    rintro ⟨k, t, x⟩ g ⟨hk, htp, hJ⟩
    simp only at hk htp hJ
    refine H_seq ?_
    refine R0 ?_
    refine xV (e_lt (q0 rfl) (q0 rfl)) rfl rfl ?_
    refine XN ?_
    refine thenJ_normal ?_
    refine H_seq ?_
    refine H_cond rfl (fun hlt => ?_) (fun hlt => ?_)
    · have hlt' : k < ys.length := by simpa using hlt
      obtain ⟨e, he⟩ : ∃ e, ys[k]? = some e := ⟨_, List.getElem?_eq_getElem hlt'⟩
      have hRk := hRs k e he
      have hplc := hys e (List.mem_of_getElem? he)
      have hIk := hRI k
      rw [← htp] at hIk hRk
      have hlT : t.spots.length = s.n := by rw [hsn]; exact hIk.len
      refine H_know (fun w hw => rowT_at (j := 0) hw rfl (by omega)) fun ⟨b, hb4⟩ => ?_
      obtain ⟨Y1, Y2⟩ := Y
      simp only at hb4
      subst hb4
      obtain ⟨Y, hY⟩ : ∃ Y : Nat × Nat, Y.2 = Y2 := ⟨(0, Y2), rfl⟩
      rw [← hY]
      refine H_skip ?_
      refine thenJ_normal ?_
      refine H_seq ?_
      refine H_block ?_
      refine H_seq ?_
      refine R0 ?_
      refine xV (e_idx _ Try.underlying43 Try.sizeOf50 (q0 rfl) (q0 rfl) (fun _ => ⟨rfl, by omega⟩)) rfl rfl ?_
      refine xV (eS Try.isAgg50 Try.sizeOf50 (q0 rfl)) rfl rfl ?_
      refine X_alloc Try.zeroValue50 rfl fun b11 => ?_
      refine X_st (v := .agg _) rfl rfl Try.sizeOf50 ?_
      refine XN ?_
      refine thenJ_normal ?_
      refine H_seq ?_
      refine R0 ?_
      refine xV (eS Try.isAgg42 Try.sizeOf42 (q0 rfl)) rfl rfl ?_
      refine xV (eS Try.isAgg50 Try.sizeOf50 (q0 rfl)) rfl rfl ?_
      refine xC (en Try.call63 (ha2 (q0 rfl) (q0 rfl))) (fun _ w hm => check_w f a e w (hf.mem hm) hplc) rfl rfl ?_
      refine xV (e_as (v := .int _ _) (q0 rfl)) rfl rfl ?_
      refine XN ?_
      refine thenJ_normal ?_
      refine H_seq ?_
      refine H_seq ?_
      refine R0 ?_
      refine xV (e_mv (v := .int _ _) (q0 rfl)) rfl rfl ?_
      refine xV (e_eq (q0 rfl) (q0 rfl)) rfl rfl ?_
      refine xV (e_mv (v := .bool _) (q0 rfl)) rfl rfl ?_
      refine xVT (e_fld Try.underlying50 rfl Try.sizeOf3 rfl (q0 rfl)) rfl rfl rfl rfl ?_
      refine xVT (eL Try.isAgg3 (q1 rfl)) rfl rfl rfl rfl ?_
      refine xVT (e_eq (q1 rfl) (q0 rfl)) rfl rfl rfl rfl ?_
      refine xV (e_and (q0 rfl) rfl (fun h => by first | rfl | (rw [h]; rfl))) rfl rfl ?_
      refine XN ?_
      refine thenJ_normal ?_
      refine H_cond rfl (fun hbeat => ?_) (fun hbeat => ?_)
      · have hb10 : evErr f e = 0 ∧ e.kind = 10 := by simpa using hbeat
        have hst : R (k + 1) = (t.plain, (R k).2) := by rw [hRk]; unfold stepR tellR; rw [if_pos hb10]
        refine H_exit ?_
        refine thenJ_exit ?_
        refine blockJ_hit ?_
        refine thenJ_normal ?_
        refine R0 ?_
        refine xV (e_add (q0 rfl) (q0 rfl) (fun _ => ⟨rfl, by omega, by omega⟩)) rfl rfl ?_
        refine xV (e_mv (v := .int _ _) (q0 rfl)) rfl rfl ?_
        refine XN ?_
        exact loopJ_normal (k + 1, t, x) (by repeat (first | exact agree_self | exact agree_over | refine agree_upd rfl ?_ | refine agree_updL rfl ?_ | refine agree_over2 rfl ?_)) ⟨rfl, trivial⟩ (fun w hw => by show Mem w0 (evRow _ _ _ :: (stL f a s _ ++ (_ :: (CI (R (k + 1)).2 _ ++ L)))) w; rw [hst]; exact hw.tail) ((hmk2 _ _).trans (hmk2 _ _).symm) ⟨by show k + 1 ≤ _; omega, by show t.plain = (R (k + 1)).1; rw [hst], by show J (k + 1) (R (k + 1)).2; rw [hst]; exact hJn k _ hJ⟩ (by show ys.length - (k + 1) < ys.length - k; omega)
      · have hb10 : ¬ (evErr f e = 0 ∧ e.kind = 10) := by simpa using hbeat
        refine H_skip ?_
        refine thenJ_normal ?_
        refine H_seq ?_
        refine H_seq ?_
        refine R0 ?_
        refine xV (e_mv (v := .int _ _) (q0 rfl)) rfl rfl ?_
        refine xV (e_eq (q0 rfl) (q0 rfl)) rfl rfl ?_
        refine XN ?_
        refine thenJ_normal ?_
        refine H_cond rfl (fun h0 => ?_) (fun h0 => ?_)
        · have h0' : evErr f e = 0 := by simpa using h0
          obtain ⟨_, hbike, hp7, _, _⟩ := evErr_ok h0'
          refine R0 ?_
          refine xV (e_mv (v := .pointer _) (q0 rfl)) rfl rfl ?_
          refine xV (eS Try.isAgg50 Try.sizeOf50 (q0 rfl)) rfl rfl ?_
          refine xC (en Try.call64 (ha2 (q0 rfl) (q0 rfl))) (fun _ w hm => scheck_w (s := s) e w (stAt_of (s := s) (hf.mem hm) hlT (by omega) (Mem.rot (X := [_, _]) (S := stL f a s t) hm)) (by omega) hp7) rfl rfl ?_
          refine xV (e_as (v := .int _ _) (q0 rfl)) rfl rfl ?_
          refine XN ?_
          refine thenJ_normal ?_
          refine H_seq ?_
          refine H_seq ?_
          refine R0 ?_
          refine xV (e_mv (v := .int _ _) (q0 rfl)) rfl rfl ?_
          refine xV (e_eq (q0 rfl) (q0 rfl)) rfl rfl ?_
          refine XN ?_
          refine thenJ_normal ?_
          refine H_cond rfl (fun hc => ?_) (fun hc => ?_)
          · have hc' : checkP f.trucks t.plain e = 0 := by simpa using hc
            refine R0 ?_
            refine xV (e_mv (v := .pointer _) (q0 rfl)) rfl rfl ?_
            refine xV (eS Try.isAgg50 Try.sizeOf50 (q0 rfl)) rfl rfl ?_
            refine X_eff (f_callM (en Try.call65 (ha2 (q0 rfl) (q0 rfl))) (fun w hw => do_w (s := s) e (Mem.rot (X := [_, _]) (S := stL f a s t) hw) (hmk2 _ _) (by rw [hsn]; exact hIk) (by omega) hc') rfl (fun _ => rfl) fun t2 => ?_)
            obtain ⟨t2, ht2⟩ := t2
            have hst : (R (k + 1)).1 = t2.plain ∧ (R (k + 1)).2 = cb (R k).2 t2.plain e 0 := by
              rw [hRk]; unfold stepR tellR; rw [if_neg hb10]; simp only; rw [if_pos h0', hc', if_pos rfl, ht2]; exact ⟨rfl, rfl⟩
            have hlT2 : t2.spots.length = s.n := by
              have := (hRI (k + 1)).len
              rw [hst.1] at this
              rw [hsn]; exact this
            refine XN ?_
            refine thenJ_normal ?_
            refine H_seq ?_
            refine H_mem (fun w hw => Mem.rot (X := stL f a s t2) (S := [_, _]) hw) rfl ?_
            rw [hc']
            cases o with
            | none =>
              refine R0 ?_
              refine xV (e_mv (q0 rfl)) rfl rfl ?_
              refine xV (e_neNilF0 Try.underlying85 (q0 rfl)) rfl rfl ?_
              refine XN ?_
              refine thenJ_normal ?_
              refine H_cond rfl (fun hcb => ?_) (fun hcb => ?_)
              · cases hcb
              · refine H_skip ?_
                refine blockJ_normal ?_
                refine thenJ_normal ?_
                refine R0 ?_
                refine xV (e_add (q0 rfl) (q0 rfl) (fun _ => ⟨rfl, by omega, by omega⟩)) rfl rfl ?_
                refine xV (e_mv (v := .int _ _) (q0 rfl)) rfl rfl ?_
                refine XN ?_
                have hz := hcbs (R k).2 t2.plain e 0
                exact loopJ_normal (k + 1, t2, x) (by repeat (first | exact agree_self | exact agree_over | refine agree_upd rfl ?_ | refine agree_updL rfl ?_ | refine agree_over2 rfl ?_)) ⟨rfl, trivial⟩ (fun w hw => by show Mem w0 (evRow _ _ _ :: (stL f a s t2 ++ (_ :: (CI (R (k + 1)).2 x ++ L)))) w; rw [hst.2, hz]; exact hw.tail) ((hmk2 _ _).trans (hmk2 _ _).symm) ⟨by show k + 1 ≤ _; omega, by show t2.plain = (R (k + 1)).1; rw [hst.1], by show J (k + 1) (R (k + 1)).2; rw [hst.2, hz]; exact hJn k _ hJ⟩ (by show ys.length - (k + 1) < ys.length - k; omega)
            | some gl =>
              have hcbr := hcbs.run (w0 := w0) (L := [box b11 50 e.cells, evRow (some ⟨b, 0, none⟩) Y.2 ys, box b3 42 (f.cells a)] ++ L) (s := s) (t := t2) (z := (R k).2) (x := x) (k := k) e 0 hmk hsn (by rw [← hsn]; exact hlT2) (by omega) hf (by omega) hJ
              refine R0 ?_
              refine xV (e_mv (q0 rfl)) rfl rfl ?_
              refine xV (e_neNilF Try.underlying85 (q0 rfl)) rfl rfl ?_
              refine XN ?_
              refine thenJ_normal ?_
              refine H_cond rfl (fun hcb => ?_) (fun hcb => ?_)
              · refine R0 ?_
                refine xV (e_mv (q0 rfl)) rfl rfl ?_
                refine xV (e_mv (v := .pointer _) (q0 rfl)) rfl rfl ?_
                refine xV (eS Try.isAgg50 Try.sizeOf50 (q0 rfl)) rfl rfl ?_
                refine xV (e_mv (v := .int _ _) (q0 rfl)) rfl rfl ?_
                refine X_eff (f_callM (enV hcbs.enter (q0 rfl) (fun _ => rfl)) (fun w hw => (hcbr w (Mem.rot (X := [_, _, _, _, _, _, _]) (S := CI (R k).2 x) (Mem.rot (X := [_, _]) (S := stL f a s t2) hw))).mono fun _ _ ⟨x', h1, h2⟩ => ⟨x', h1, Mem.rot (X := stL f a s t2) (S := [_, _]) (Mem.rot (X := CI _ x') (S := [_, _, _, _, _, _, _]) h2)⟩) rfl (fun _ => (hmk2 _ _).trans (hmk2 _ _).symm) fun x' => ?_)
                refine XN ?_
                refine blockJ_normal ?_
                refine thenJ_normal ?_
                refine R0 ?_
                refine xV (e_add (q0 rfl) (q0 rfl) (fun _ => ⟨rfl, by omega, by omega⟩)) rfl rfl ?_
                refine xV (e_mv (v := .int _ _) (q0 rfl)) rfl rfl ?_
                refine XN ?_
                exact loopJ_normal (k + 1, t2, x') (by repeat (first | exact agree_self | exact agree_over | refine agree_upd rfl ?_ | refine agree_updL rfl ?_ | refine agree_over2 rfl ?_)) ⟨rfl, trivial⟩ (fun w hw => by show Mem w0 (evRow _ _ _ :: (stL f a s t2 ++ (_ :: (CI (R (k + 1)).2 x' ++ L)))) w; rw [hst.2]; exact hw.tail) ((hmk2 _ _).trans (hmk2 _ _).symm) ⟨by show k + 1 ≤ _; omega, by show t2.plain = (R (k + 1)).1; rw [hst.1], by show J (k + 1) (R (k + 1)).2; rw [hst.2]; exact hcbs.keep k _ _ _ _ hJ⟩ (by show ys.length - (k + 1) < ys.length - k; omega)
              · cases hcb
          · have hc' : ¬ checkP f.trucks t.plain e = 0 := by simpa using hc
            have hst : (R (k + 1)).1 = t.plain ∧ (R (k + 1)).2 = cb (R k).2 t.plain e (checkP f.trucks t.plain e) := by
              rw [hRk]; unfold stepR tellR; rw [if_neg hb10]; simp only; rw [if_pos h0', if_neg hc']; exact ⟨rfl, rfl⟩
            refine H_skip ?_
            refine thenJ_normal ?_
            refine H_seq ?_
            cases o with
            | none =>
              refine R0 ?_
              refine xV (e_mv (q0 rfl)) rfl rfl ?_
              refine xV (e_neNilF0 Try.underlying85 (q0 rfl)) rfl rfl ?_
              refine XN ?_
              refine thenJ_normal ?_
              refine H_cond rfl (fun hcb => ?_) (fun hcb => ?_)
              · cases hcb
              · refine H_skip ?_
                refine blockJ_normal ?_
                refine thenJ_normal ?_
                refine R0 ?_
                refine xV (e_add (q0 rfl) (q0 rfl) (fun _ => ⟨rfl, by omega, by omega⟩)) rfl rfl ?_
                refine xV (e_mv (v := .int _ _) (q0 rfl)) rfl rfl ?_
                refine XN ?_
                have hz := hcbs (R k).2 t.plain e (checkP f.trucks t.plain e)
                exact loopJ_normal (k + 1, t, x) (by repeat (first | exact agree_self | exact agree_over | refine agree_upd rfl ?_ | refine agree_updL rfl ?_ | refine agree_over2 rfl ?_)) ⟨rfl, trivial⟩ (fun w hw => by show Mem w0 (evRow _ _ _ :: (stL f a s t ++ (_ :: (CI (R (k + 1)).2 x ++ L)))) w; rw [hst.2, hz]; exact hw.tail) ((hmk2 _ _).trans (hmk2 _ _).symm) ⟨by show k + 1 ≤ _; omega, by show t.plain = (R (k + 1)).1; rw [hst.1], by show J (k + 1) (R (k + 1)).2; rw [hst.2, hz]; exact hJn k _ hJ⟩ (by show ys.length - (k + 1) < ys.length - k; omega)
            | some gl =>
              have hcbr := hcbs.run (w0 := w0) (L := [box b11 50 e.cells, evRow (some ⟨b, 0, none⟩) Y.2 ys, box b3 42 (f.cells a)] ++ L) (s := s) (t := t) (z := (R k).2) (x := x) (k := k) e (checkP f.trucks t.plain e) hmk hsn (by rw [← hsn]; exact hlT) (by omega) hf (by omega) hJ
              refine R0 ?_
              refine xV (e_mv (q0 rfl)) rfl rfl ?_
              refine xV (e_neNilF Try.underlying85 (q0 rfl)) rfl rfl ?_
              refine XN ?_
              refine thenJ_normal ?_
              refine H_cond rfl (fun hcb => ?_) (fun hcb => ?_)
              · refine R0 ?_
                refine xV (e_mv (q0 rfl)) rfl rfl ?_
                refine xV (e_mv (v := .pointer _) (q0 rfl)) rfl rfl ?_
                refine xV (eS Try.isAgg50 Try.sizeOf50 (q0 rfl)) rfl rfl ?_
                refine xV (e_mv (v := .int _ _) (q0 rfl)) rfl rfl ?_
                refine X_eff (f_callM (enV hcbs.enter (q0 rfl) (fun _ => rfl)) (fun w hw => (hcbr w (Mem.rot (X := [_, _, _, _, _, _, _]) (S := CI (R k).2 x) (Mem.rot (X := [_, _]) (S := stL f a s t) hw))).mono fun _ _ ⟨x', h1, h2⟩ => ⟨x', h1, Mem.rot (X := stL f a s t) (S := [_, _]) (Mem.rot (X := CI _ x') (S := [_, _, _, _, _, _, _]) h2)⟩) rfl (fun _ => (hmk2 _ _).trans (hmk2 _ _).symm) fun x' => ?_)
                refine XN ?_
                refine blockJ_normal ?_
                refine thenJ_normal ?_
                refine R0 ?_
                refine xV (e_add (q0 rfl) (q0 rfl) (fun _ => ⟨rfl, by omega, by omega⟩)) rfl rfl ?_
                refine xV (e_mv (v := .int _ _) (q0 rfl)) rfl rfl ?_
                refine XN ?_
                exact loopJ_normal (k + 1, t, x') (by repeat (first | exact agree_self | exact agree_over | refine agree_upd rfl ?_ | refine agree_updL rfl ?_ | refine agree_over2 rfl ?_)) ⟨rfl, trivial⟩ (fun w hw => by show Mem w0 (evRow _ _ _ :: (stL f a s t ++ (_ :: (CI (R (k + 1)).2 x' ++ L)))) w; rw [hst.2]; exact hw.tail) ((hmk2 _ _).trans (hmk2 _ _).symm) ⟨by show k + 1 ≤ _; omega, by show t.plain = (R (k + 1)).1; rw [hst.1], by show J (k + 1) (R (k + 1)).2; rw [hst.2]; exact hcbs.keep k _ _ _ _ hJ⟩ (by show ys.length - (k + 1) < ys.length - k; omega)
              · cases hcb
        · have h0' : ¬ evErr f e = 0 := by simpa using h0
          have hst : (R (k + 1)).1 = t.plain ∧ (R (k + 1)).2 = cb (R k).2 t.plain e (evErr f e) := by
            rw [hRk]; unfold stepR tellR; rw [if_neg hb10]; simp only; rw [if_neg h0', if_neg h0']; exact ⟨rfl, rfl⟩
          refine H_skip ?_
          refine thenJ_normal ?_
          refine H_seq ?_
          refine H_seq ?_
          refine R0 ?_
          refine xV (e_mv (v := .int _ _) (q0 rfl)) rfl rfl ?_
          refine xV (e_eq (q0 rfl) (q0 rfl)) rfl rfl ?_
          refine XN ?_
          refine thenJ_normal ?_
          refine H_cond rfl (fun hc => ?_) (fun hc => ?_)
          · exact absurd (by simpa using hc) h0'
          · have _ht : True := trivial
            refine H_skip ?_
            refine thenJ_normal ?_
            refine H_seq ?_
            cases o with
            | none =>
              refine R0 ?_
              refine xV (e_mv (q0 rfl)) rfl rfl ?_
              refine xV (e_neNilF0 Try.underlying85 (q0 rfl)) rfl rfl ?_
              refine XN ?_
              refine thenJ_normal ?_
              refine H_cond rfl (fun hcb => ?_) (fun hcb => ?_)
              · cases hcb
              · refine H_skip ?_
                refine blockJ_normal ?_
                refine thenJ_normal ?_
                refine R0 ?_
                refine xV (e_add (q0 rfl) (q0 rfl) (fun _ => ⟨rfl, by omega, by omega⟩)) rfl rfl ?_
                refine xV (e_mv (v := .int _ _) (q0 rfl)) rfl rfl ?_
                refine XN ?_
                have hz := hcbs (R k).2 t.plain e (evErr f e)
                exact loopJ_normal (k + 1, t, x) (by repeat (first | exact agree_self | exact agree_over | refine agree_upd rfl ?_ | refine agree_updL rfl ?_ | refine agree_over2 rfl ?_)) ⟨rfl, trivial⟩ (fun w hw => by show Mem w0 (evRow _ _ _ :: (stL f a s t ++ (_ :: (CI (R (k + 1)).2 x ++ L)))) w; rw [hst.2, hz]; exact hw.tail) ((hmk2 _ _).trans (hmk2 _ _).symm) ⟨by show k + 1 ≤ _; omega, by show t.plain = (R (k + 1)).1; rw [hst.1], by show J (k + 1) (R (k + 1)).2; rw [hst.2, hz]; exact hJn k _ hJ⟩ (by show ys.length - (k + 1) < ys.length - k; omega)
            | some gl =>
              have hcbr := hcbs.run (w0 := w0) (L := [box b11 50 e.cells, evRow (some ⟨b, 0, none⟩) Y.2 ys, box b3 42 (f.cells a)] ++ L) (s := s) (t := t) (z := (R k).2) (x := x) (k := k) e (evErr f e) hmk hsn (by rw [← hsn]; exact hlT) (by omega) hf (by omega) hJ
              refine R0 ?_
              refine xV (e_mv (q0 rfl)) rfl rfl ?_
              refine xV (e_neNilF Try.underlying85 (q0 rfl)) rfl rfl ?_
              refine XN ?_
              refine thenJ_normal ?_
              refine H_cond rfl (fun hcb => ?_) (fun hcb => ?_)
              · refine R0 ?_
                refine xV (e_mv (q0 rfl)) rfl rfl ?_
                refine xV (e_mv (v := .pointer _) (q0 rfl)) rfl rfl ?_
                refine xV (eS Try.isAgg50 Try.sizeOf50 (q0 rfl)) rfl rfl ?_
                refine xV (e_mv (v := .int _ _) (q0 rfl)) rfl rfl ?_
                refine X_eff (f_callM (enV hcbs.enter (q0 rfl) (fun _ => rfl)) (fun w hw => (hcbr w (Mem.rot (X := [_, _, _, _, _, _, _]) (S := CI (R k).2 x) (Mem.rot (X := [_, _]) (S := stL f a s t) hw))).mono fun _ _ ⟨x', h1, h2⟩ => ⟨x', h1, Mem.rot (X := stL f a s t) (S := [_, _]) (Mem.rot (X := CI _ x') (S := [_, _, _, _, _, _, _]) h2)⟩) rfl (fun _ => (hmk2 _ _).trans (hmk2 _ _).symm) fun x' => ?_)
                refine XN ?_
                refine blockJ_normal ?_
                refine thenJ_normal ?_
                refine R0 ?_
                refine xV (e_add (q0 rfl) (q0 rfl) (fun _ => ⟨rfl, by omega, by omega⟩)) rfl rfl ?_
                refine xV (e_mv (v := .int _ _) (q0 rfl)) rfl rfl ?_
                refine XN ?_
                exact loopJ_normal (k + 1, t, x') (by repeat (first | exact agree_self | exact agree_over | refine agree_upd rfl ?_ | refine agree_updL rfl ?_ | refine agree_over2 rfl ?_)) ⟨rfl, trivial⟩ (fun w hw => by show Mem w0 (evRow _ _ _ :: (stL f a s t ++ (_ :: (CI (R (k + 1)).2 x' ++ L)))) w; rw [hst.2]; exact hw.tail) ((hmk2 _ _).trans (hmk2 _ _).symm) ⟨by show k + 1 ≤ _; omega, by show t.plain = (R (k + 1)).1; rw [hst.1], by show J (k + 1) (R (k + 1)).2; rw [hst.2]; exact hcbs.keep k _ _ _ _ hJ⟩ (by show ys.length - (k + 1) < ys.length - k; omega)
              · cases hcb
    · have hend : k = ys.length := by simp at hlt; omega
      subst hend
      have hfin : ∀ w', Mem w0 (stL f a s t ++ (box b3 42 (f.cells a) :: (CI (R ys.length).2 x ++ L))) w' → Mem w0 (stL f a s t ++ (CI (runR f cb ys (beginP nb, z0)).2 x ++ L)) w' := fun w' h => by rw [← hRn]; exact Mem.cutM (X := [_]) h
      refine H_exit ?_
      refine thenJ_exit ?_
      refine loopJ_exit ?_
      refine blockJ_hit ?_
      refine thenJ_normal ?_
      refine H_seq ?_
      refine R0 ?_
      refine xV (e_mv (v := .pointer _) (q0 rfl)) rfl rfl ?_
      refine xV (e_as (v := .pointer _) (q0 rfl)) rfl rfl ?_
      refine xV (e_as (v := .int _ _) (q0 rfl)) rfl rfl ?_
      refine XN ?_
      refine thenJ_normal ?_
      refine H_ret ?_
      exact ret2 (v := .pointer _) (x := .int _ _) rfl rfl rfl (hmk2 _ _) fun w' hw => ⟨⟨(s, t, x), hsn, by rw [htp, hRn]⟩, rfl, hfin _ hw.tail⟩

end Go.Proofs.Cus

/-
  The walks: what is accepted, what is rejected, the spots.
-/
namespace Go.Proofs.Cus
open Go Go.RowKit Go.Proofs.E

structure Rj where
  device : Int
  seq : Int
  err : Int
deriving DecidableEq, Inhabited
def Rj.cells (x : Rj) : List Value := [.int .i64 x.device, .int .i64 x.seq, .int .i64 x.err]

def accCb (z : List Ev) (_ : PS) (e : Ev) (er : Int) : List Ev := if er = 0 then z ++ [e] else z
def rejCb (z : List Rj) (_ : PS) (e : Ev) (er : Int) : List Rj := if er ≠ 0 then z ++ [⟨e.device, e.seq, er⟩] else z
def nobCb (z : Unit) (_ : PS) (_ : Ev) (_ : Int) : Unit := z
def nbOf (f : Fl) : Nat := f.bikes.toNat
def accOf (f : Fl) (xs : List Ev) : List Ev := if flErr f = 0 then (runR f accCb (setOf xs) (beginP (nbOf f), [])).2 else []
def rejOf (f : Fl) (xs : List Ev) : List Rj := if flErr f = 0 then (runR f rejCb (setOf xs) (beginP (nbOf f), [])).2 else []
def spotsOf (f : Fl) (xs : List Ev) : List Sp := if flErr f = 0 then (runR f nobCb (setOf xs) (beginP (nbOf f), ())).1.spots else []
theorem nb_eq {f : Fl} (h : flErr f = 0) : f.bikes = nbOf f := by
  have := (flErr_ok h).1
  unfold nbOf; omega
abbrev PlOk (xs : List Ev) : Prop := ∀ e ∈ xs, -9223372036854775808 ≤ e.place ∧ e.place ≤ 9223372036854775807

def accCI (b : Nat) (z : List Ev) (x : Option Addr × Nat) : List E.Item := [box b 43 [.slice x.1 z.length x.2], evRow x.1 x.2 z]
theorem acc_cb (f : Fl) (a : FA) (n b : Nat) : CbOK f a n 46 [.pointer (some ⟨b, 0, none⟩)] accCb (accCI b) (fun k z => z.length ≤ k) where
  enter := Try.call46
  keep := fun k z s e er h => by
    unfold accCb
    split
    · simp; omega
    · omega
  run := fun {w0 L s t z x k} e er hmk _ _ _ _ hk hJ w hw => by
    unfold accCI at hw ⊢
    refine H_enterM hw hmk Try.func46 rfl Try.ntmps46 rfl ?_
    refine H_seq ?_
    refine R0 ?_
    refine X_box (v := .agg _) rfl rfl fun b5 => ?_
    refine XN ?_
    refine thenJ_normal ?_
    refine H_seq ?_
    refine R0 ?_
    refine xV (e_mv (v := .int _ _) (q0 rfl)) rfl rfl ?_
    refine xV (e_eq (q0 rfl) (q0 rfl)) rfl rfl ?_
    refine XN ?_
    refine thenJ_normal ?_
    refine H_cond rfl (fun h => ?_) (fun h => ?_)
    · have h0 : er = 0 := by simpa using h
      refine R0 ?_
      refine xV (eL Try.isAgg43 (q0 rfl)) rfl rfl ?_
      refine xV (eS Try.isAgg50 Try.sizeOf50 (q0 rfl)) rfl rfl ?_
      refine X_push (k := 9) (i := Try.t50) 2 (e) Try.underlying43 (by kernel_rfl) rfl rfl rfl rfl Try.sizeOf50 Try.zeroValue50 rfl rfl rfl rfl rfl rfl ⟨by omega, by decide⟩ rfl rfl fun B A1 c1 => ?_
      refine X_st (v := .slice _ _ _) rfl rfl Try.sizeOf43 ?_
      refine XN ?_
      exact end0 rfl hmk fun w' hw => ⟨(A1, c1), rfl, by unfold accCb; rw [if_pos h0]; exact hw.tail⟩
    · have h0 : ¬ er = 0 := by simpa using h
      refine H_skip ?_
      exact end0 rfl hmk fun w' hw => ⟨x, rfl, by unfold accCb; rw [if_neg h0]; exact hw.tail⟩
theorem accepted_w (f : Fl) (a : FA) (A : Option Addr) (n c : Nat) (xs : List Ev) (w : World) (hf : FlAt w f a) (hx : EvsAt w A n xs) (hn : n ≤ 10000) (hpl : PlOk xs) :
    Calls Try.prog 24 #[.agg (f.cells a).toArray, .slice A n c] w fun r w' => ∃ x : Option Addr × Nat, r = .returned (.tuple #[.slice x.1 (accOf f xs).length x.2, .int .i64 (flErr f)]) ∧ Mem w [evRow x.1 x.2 (accOf f xs)] w' := by
  by_cases hok : flErr f = 0
  case neg =>
    have hacc : accOf f xs = [] := by unfold accOf; rw [if_neg hok]
    rw [hacc]
    refine H_enter Try.func24 rfl Try.ntmps24 rfl ?_
    refine H_seq ?_
    refine R0 ?_
    refine X_box (v := .agg _) rfl rfl fun b2 => ?_
    refine xV (e_as (v := .slice _ _ _) (q0 rfl)) rfl rfl ?_
    refine xV (e_as (v := .int _ _) (q0 rfl)) rfl rfl ?_
    refine XN ?_
    refine thenJ_normal ?_
    refine H_seq ?_
    refine R0 ?_
    refine X_alloc Try.zeroValue43 rfl fun b6 => ?_
    refine XN ?_
    refine thenJ_normal ?_
    refine H_seq ?_
    refine R0 ?_
    refine xV (eS Try.isAgg42 Try.sizeOf42 (q0 rfl)) rfl rfl ?_
    refine xV (e_mv (v := .slice _ _ _) (q0 rfl)) rfl rfl ?_
    refine xV e_fn rfl rfl ?_
    refine xC (en Try.call45 (ha3 (q0 rfl) (q0 rfl) (q0 rfl))) (fun _ w hm => runErr_w f a A n c _ w (hf.mem hm) hok) rfl rfl ?_
    refine xV (e_mv (q0 rfl)) rfl rfl ?_
    refine xV (e_ext (q0 rfl) rfl) rfl rfl ?_
    refine xV (e_ext (q0 rfl) rfl) rfl rfl ?_
    refine xV (e_as (v := .pointer _) (q0 rfl)) rfl rfl ?_
    refine xV (e_as (v := .int _ _) (q0 rfl)) rfl rfl ?_
    refine XN ?_
    refine thenJ_normal ?_
    refine H_seq ?_
    refine R0 ?_
    refine xV (eL Try.isAgg43 (q0 rfl)) rfl rfl ?_
    refine xV (e_mv (v := .int _ _) (q0 rfl)) rfl rfl ?_
    refine xV (e_as (v := .slice _ _ _) (q0 rfl)) rfl rfl ?_
    refine xV (e_as (v := .int _ _) (q0 rfl)) rfl rfl ?_
    refine XN ?_
    refine thenJ_normal ?_
    refine H_ret ?_
    exact ret2 (v := .slice _ _ _) (x := .int _ _) rfl rfl rfl rfl fun w' hw => ⟨(none, 0), rfl, (mem_nil.2 hw.1).nilRow _ _ _ rfl⟩
  case pos =>
    have hacc : accOf f xs = (runR f accCb (setOf xs) (beginP (nbOf f), [])).2 := by unfold accOf; rw [if_pos hok]
    rw [hacc, hok]
    refine H_enter Try.func24 rfl Try.ntmps24 rfl ?_
    refine H_seq ?_
    refine R0 ?_
    refine X_box (v := .agg _) rfl rfl fun b2 => ?_
    refine xV (e_as (v := .slice _ _ _) (q0 rfl)) rfl rfl ?_
    refine xV (e_as (v := .int _ _) (q0 rfl)) rfl rfl ?_
    refine XN ?_
    refine thenJ_normal ?_
    refine H_seq ?_
    refine R0 ?_
    refine X_alloc Try.zeroValue43 rfl fun b6 => ?_
    refine XN ?_
    refine thenJ_normal ?_
    refine H_seq ?_
    refine R0 ?_
    refine xV (eS Try.isAgg42 Try.sizeOf42 (q0 rfl)) rfl rfl ?_
    refine xV (e_mv (v := .slice _ _ _) (q0 rfl)) rfl rfl ?_
    refine xV e_fn rfl rfl ?_
    refine X_eff (f_callM (en Try.call45 (ha3 (q0 rfl) (q0 rfl) (q0 rfl))) (fun w hw => run_w f a A n c (nbOf f) xs (some (46, [.pointer (some ⟨b6, 0, none⟩)])) accCb (accCI b6) (fun k z => z.length ≤ k) (acc_cb f a (nbOf f) b6) (fun _ _ h => Nat.le_succ_of_le h) (z0 := []) (x0 := (none, 0)) (hw.nilRow _ _ _ rfl).mv1 rfl (fun _ _ => rfl) (Nat.le_refl _) hf hx hn hok (nb_eq hok) hpl) rfl (fun _ => rfl) fun y => ?_)
    refine xV (e_mv (q0 rfl)) rfl rfl ?_
    refine xV (e_ext (q0 rfl) rfl) rfl rfl ?_
    refine xV (e_ext (q0 rfl) rfl) rfl rfl ?_
    refine xV (e_as (v := .pointer _) (q0 rfl)) rfl rfl ?_
    refine xV (e_as (v := .int _ _) (q0 rfl)) rfl rfl ?_
    refine XN ?_
    refine thenJ_normal ?_
    refine H_seq ?_
    refine R0 ?_
    refine xV (eL Try.isAgg43 (q0 rfl)) rfl rfl ?_
    refine xV (e_mv (v := .int _ _) (q0 rfl)) rfl rfl ?_
    refine xV (e_as (v := .slice _ _ _) (q0 rfl)) rfl rfl ?_
    refine xV (e_as (v := .int _ _) (q0 rfl)) rfl rfl ?_
    refine XN ?_
    refine thenJ_normal ?_
    refine H_ret ?_
    exact ret2 (v := .slice _ _ _) (x := .int _ _) rfl rfl rfl rfl fun w' hw => ⟨y.1.2.2, rfl, hw.pick [5] (by decide)⟩

end Go.Proofs.Cus

/-
  The walks: what is rejected; the spots; where a bicycle is at a moment.
-/
namespace Go.Proofs.Cus
open Go Go.RowKit Go.Proofs.E

theorem ret_sl {A : Option Addr} {n m c : Nat} {v : Value} (h : n = m) : Ending.returned (.tuple #[.slice A n c, v]) = .returned (.tuple #[.slice A m c, v]) := by rw [h]
theorem spotsOf_len {f : Fl} {xs : List Ev} (hok : flErr f = 0) : (runR f nobCb (setOf xs) (beginP (nbOf f), ())).1.spots.length = nbOf f := (runR_inv (nb_eq hok) _ _ (PInv.begin _)).len
theorem spots_w (f : Fl) (a : FA) (A : Option Addr) (n c : Nat) (xs : List Ev) (w : World) (hf : FlAt w f a) (hx : EvsAt w A n xs) (hn : n ≤ 10000) (hpl : PlOk xs) :
    Calls Try.prog 25 #[.agg (f.cells a).toArray, .slice A n c] w fun r w' => ∃ x : Option Addr × Nat, r = .returned (.tuple #[.slice x.1 (spotsOf f xs).length x.2, .int .i64 (flErr f)]) ∧ Mem w [spRow x.1 x.2 (spotsOf f xs)] w' := by
  by_cases hok : flErr f = 0
  case neg =>
    have hacc : spotsOf f xs = [] := by unfold spotsOf; rw [if_neg hok]
    rw [hacc]
    refine H_enter Try.func25 rfl Try.ntmps25 rfl ?_
    refine H_seq ?_
    refine R0 ?_
    refine X_box (v := .agg _) rfl rfl fun b2 => ?_
    refine xV (e_as (v := .slice _ _ _) (q0 rfl)) rfl rfl ?_
    refine xV (e_as (v := .int _ _) (q0 rfl)) rfl rfl ?_
    refine XN ?_
    refine thenJ_normal ?_
    refine H_seq ?_
    refine R0 ?_
    refine xV (eS Try.isAgg42 Try.sizeOf42 (q0 rfl)) rfl rfl ?_
    refine xV (e_mv (v := .slice _ _ _) (q0 rfl)) rfl rfl ?_
    refine xC (en Try.call45 (ha3 (q0 rfl) (q0 rfl) (q0 rfl))) (fun _ w hm => runErr_w f a A n c _ w (hf.mem hm) hok) rfl rfl ?_
    refine xV (e_mv (q0 rfl)) rfl rfl ?_
    refine xV (e_ext (q0 rfl) rfl) rfl rfl ?_
    refine xV (e_ext (q0 rfl) rfl) rfl rfl ?_
    refine xV (e_as (v := .pointer _) (q0 rfl)) rfl rfl ?_
    refine xV (e_as (v := .int _ _) (q0 rfl)) rfl rfl ?_
    refine XN ?_
    refine thenJ_normal ?_
    refine H_seq ?_
    refine H_seq ?_
    refine R0 ?_
    refine xV (e_mv (v := .int _ _) (q0 rfl)) rfl rfl ?_
    refine xV (e_ne (q0 rfl) (q0 rfl)) rfl rfl ?_
    refine XN ?_
    refine thenJ_normal ?_
    refine H_cond rfl (fun h => ?_) (fun h => ?_)
    · refine H_seq ?_
      refine R0 ?_
      refine xV (e_mv (v := .int _ _) (q0 rfl)) rfl rfl ?_
      refine xV (e_as (v := .slice _ _ _) (q0 rfl)) rfl rfl ?_
      refine xV (e_as (v := .int _ _) (q0 rfl)) rfl rfl ?_
      refine XN ?_
      refine thenJ_normal ?_
      refine H_ret ?_
      refine thenJ_ret ?_
      exact ret2 (v := .slice _ _ _) (x := .int _ _) rfl rfl rfl rfl fun w' hw => ⟨(none, 0), rfl, (mem_nil.2 hw.1).nilRow _ _ _ rfl⟩
    · exact absurd (by simpa using h) hok
  case pos =>
    have hacc : spotsOf f xs = (runR f nobCb (setOf xs) (beginP (nbOf f), ())).1.spots := by unfold spotsOf; rw [if_pos hok]
    have hlen := spotsOf_len (xs := xs) hok
    rw [hacc, hok]
    refine H_enter Try.func25 rfl Try.ntmps25 rfl ?_
    refine H_seq ?_
    refine R0 ?_
    refine X_box (v := .agg _) rfl rfl fun b2 => ?_
    refine xV (e_as (v := .slice _ _ _) (q0 rfl)) rfl rfl ?_
    refine xV (e_as (v := .int _ _) (q0 rfl)) rfl rfl ?_
    refine XN ?_
    refine thenJ_normal ?_
    refine H_seq ?_
    refine R0 ?_
    refine xV (eS Try.isAgg42 Try.sizeOf42 (q0 rfl)) rfl rfl ?_
    refine xV (e_mv (v := .slice _ _ _) (q0 rfl)) rfl rfl ?_
    refine X_eff (f_callM (en Try.call45 (ha3 (q0 rfl) (q0 rfl) (q0 rfl))) (fun w hw => run_w f a A n c (nbOf f) xs none nobCb (fun _ (_ : Unit) => []) (fun _ _ => True) (fun _ _ _ _ => rfl) (fun _ _ h => h) (z0 := ()) (x0 := ()) hw rfl (fun _ _ => rfl) trivial hf hx hn hok (nb_eq hok) hpl) rfl (fun _ => rfl) fun y => ?_)
    refine xV (e_mv (q0 rfl)) rfl rfl ?_
    refine xV (e_ext (q0 rfl) rfl) rfl rfl ?_
    refine xV (e_ext (q0 rfl) rfl) rfl rfl ?_
    refine xV (e_as (v := .pointer _) (q0 rfl)) rfl rfl ?_
    refine xV (e_as (v := .int _ _) (q0 rfl)) rfl rfl ?_
    refine XN ?_
    refine thenJ_normal ?_
    refine H_seq ?_
    refine H_seq ?_
    refine R0 ?_
    refine xV (e_mv (v := .int _ _) (q0 rfl)) rfl rfl ?_
    refine xV (e_ne (q0 rfl) (q0 rfl)) rfl rfl ?_
    refine XN ?_
    refine thenJ_normal ?_
    refine H_cond rfl (fun h => ?_) (fun h => ?_)
    · cases h
    · obtain ⟨⟨s, t, u⟩, hsn, htp⟩ := y
      simp only at hsn htp
      have hsp : t.spots = (runR f nobCb (setOf xs) (beginP (nbOf f), ())).1.spots := by rw [← htp]; rfl
      refine H_skip ?_
      refine thenJ_normal ?_
      refine H_seq ?_
      refine R0 ?_
      refine xV (e_mv (v := .pointer _) (q0 rfl)) rfl rfl ?_
      refine xV (e_nilc (q0 rfl)) rfl rfl ?_
      refine xV (e_fld Try.underlying89 rfl Try.sizeOf54 rfl (q0 rfl)) rfl rfl ?_
      refine xV (eL Try.isAgg54 (q0 rfl)) rfl rfl ?_
      refine xV (e_as (v := .slice _ _ _) (q0 rfl)) rfl rfl ?_
      refine xV (e_as (v := .int _ _) (q0 rfl)) rfl rfl ?_
      refine XN ?_
      refine thenJ_normal ?_
      refine H_ret ?_
      exact ret2 (v := .slice _ _ _) (x := .int _ _) rfl rfl rfl rfl fun w' hw => ⟨(some ⟨s.q, 0, none⟩, s.c), ret_sl (by show s.n = _; omega), by rw [← hsp]; exact hw.pick [1] (by decide)⟩

theorem index_deleteEv_w (p : Ev → Bool) (g : Nat) (cap : List Value) (eg : ∀ args w, (callFunc g args).run Try.prog w = .ok (.enter g args) w) (A : Option Addr) (n c : Nat) (xs : List Ev) (w : World) (hx : SlAt w 9 Ev.cells A n xs)
    (hcl : ∀ (x : Ev) (u : World), Bel w u → Calls Try.prog g (([.agg (Ev.cells x).toArray] : List Value) ++ cap).toArray u fun e w' => e = .returned (.bool (p x)) ∧ Bel u w') :
    Calls Try.prog 68 #[.slice A n c, .func (.func g) #[] cap.toArray] w fun e w' => e = .returned (.int .i64 (match xs.findIdx? p with | some i => (i : Int) | none => -1)) ∧ Bel w w' := by
  have hl := hx.1
  have hn := hx.2.1
  refine H_enter Try.func68 rfl Try.ntmps68 rfl ?_
  refine H_seq ?_
  refine R0 ?_
  refine xV (e_as (v := .int _ _) (q0 rfl)) rfl rfl ?_
  refine XN ?_
  refine thenJ_normal ?_
  refine H_seq ?_
  refine H_seq ?_
  refine R0 ?_
  refine xV (e_mv (v := .slice _ _ _) (q0 rfl)) rfl rfl ?_
  refine xV (e_len Try.underlying43 (q0 rfl)) rfl rfl ?_
  refine xV (e_mv (v := .int _ _) (q0 rfl)) rfl rfl ?_
  refine XN ?_
  refine thenJ_normal ?_
  refine H_block ?_
  refine H_loop [4, 5, 8, 9, 10, 11, 12, 13, 14, 15, 16, 17, 18] (fun k : Nat => [(8, .int .i64 k)]) (fun _ => []) (fun k => k ≤ n ∧ (xs.take k).all (fun x => !p x) = true) (fun k => n - k) 0 ⟨rfl, trivial⟩ (fun _ h => h) rfl ⟨Nat.zero_le _, rfl⟩ ?_
  rintro k g2 ⟨hk, hall⟩
  refine H_seq ?_
  refine R0 ?_
  refine xV (e_lt (q0 rfl) (q0 rfl)) rfl rfl ?_
  refine XN ?_
  refine thenJ_normal ?_
  refine H_seq ?_
  refine H_cond rfl (fun hlt => ?_) (fun hlt => ?_)
  · simp at hlt
    obtain ⟨b, off, x, rfl, hbl, hxk, hrx⟩ := hx.at_ hlt
    refine H_skip ?_
    refine thenJ_normal ?_
    refine H_seq ?_
    refine H_block ?_
    refine H_seq ?_
    refine R0 ?_
    refine xV (e_mv (v := .int _ _) (q0 rfl)) rfl rfl ?_
    refine xV (e_as (v := .int _ _) (q0 rfl)) rfl rfl ?_
    refine XN ?_
    refine thenJ_normal ?_
    refine H_seq ?_
    refine R0 ?_
    refine xV (e_mv (q0 rfl)) rfl rfl ?_
    refine xV (e_mv (v := .slice _ _ _) (q0 rfl)) rfl rfl ?_
    refine xV (e_mv (v := .int _ _) (q0 rfl)) rfl rfl ?_
    refine xV (e_idx _ Try.underlying43 Try.sizeOf50 (q0 rfl) (q0 rfl) (fun _ => ⟨rfl, by omega⟩)) rfl rfl ?_
    refine xV (eS Try.isAgg50 Try.sizeOf50 (q0 rfl)) rfl rfl ?_
    refine xC (enV eg (q0 rfl) (fun _ => rfl)) (fun _ w hw => hcl x w hw.1) rfl rfl ?_
    refine XN ?_
    refine thenJ_normal ?_
    refine H_cond rfl (fun hb => ?_) (fun hb => ?_)
    · have hfi : xs.findIdx? p = some k := by
        rw [List.findIdx?_eq_some_iff_getElem]
        obtain ⟨q1, q2⟩ := List.getElem?_eq_some_iff.1 hxk
        refine ⟨q1, by rw [q2]; exact hb, fun j hj => ?_⟩
        have h1 := List.all_eq_true.1 hall (xs[j]'(by omega)) (by
          rw [List.mem_iff_getElem?]; exact ⟨j, by rw [List.getElem?_take, if_pos hj]; exact List.getElem?_eq_getElem (by omega)⟩)
        simpa using h1
      refine H_seq ?_
      refine R0 ?_
      refine xV (e_mv (v := .int _ _) (q0 rfl)) rfl rfl ?_
      refine xV (e_as (v := .int _ _) (q0 rfl)) rfl rfl ?_
      refine XN ?_
      refine thenJ_normal ?_
      refine H_ret ?_
      refine blockJ_ret ?_
      refine thenJ_ret ?_
      refine loopJ_ret ?_
      refine blockJ_ret ?_
      refine thenJ_ret ?_
      exact ret1 (v := .int _ _) rfl rfl rfl fun w' hw => ⟨ret_int (by rw [hfi]), hw.1⟩
    · refine H_skip ?_
      refine blockJ_normal ?_
      refine thenJ_normal ?_
      refine R0 ?_
      refine xV (e_add (q0 rfl) (q0 rfl) (fun _ => ⟨rfl, by omega, by omega⟩)) rfl rfl ?_
      refine xV (e_mv (v := .int _ _) (q0 rfl)) rfl rfl ?_
      refine XN ?_
      exact loopJ_normal (k + 1) (by repeat (first | exact agree_self | exact agree_over | refine agree_upd rfl ?_ | refine agree_updL rfl ?_ | refine agree_over2 rfl ?_)) ⟨rfl, trivial⟩ (fun w hw => mem_nil.2 hw.1) rfl ⟨by omega, by rw [take_snoc _ _ _ hxk, List.all_append, hall]; simpa using hb⟩ (by show n - (k + 1) < n - k; omega)
  · obtain rfl : k = n := by simp at hlt; omega
    have hfi : xs.findIdx? p = none := by
      rw [List.findIdx?_eq_none_iff]
      intro x hxm
      rw [List.take_of_length_le (by omega)] at hall
      simpa using List.all_eq_true.1 hall x hxm
    refine H_exit ?_
    refine thenJ_exit ?_
    refine loopJ_exit ?_
    refine blockJ_hit ?_
    refine thenJ_normal ?_
    refine H_seq ?_
    refine R0 ?_
    refine xV (e_as (v := .int _ _) (q0 rfl)) rfl rfl ?_
    refine XN ?_
    refine thenJ_normal ?_
    refine H_ret ?_
    exact ret1 (v := .int _ _) rfl rfl rfl fun w' hw => ⟨ret_int (by rw [hfi]), hw.1⟩
set_option maxHeartbeats 1000000 in
theorem deleteEv_w (p : Ev → Bool) (g : Nat) (cap : List Value) (eg : ∀ args w, (callFunc g args).run Try.prog w = .ok (.enter g args) w)
    {w0 w : World} {L : List E.Item} {c : Nat} {A : Option Addr} {xs : List Ev} (hw : Mem w0 (rowT 50 9 Ev.cells A c xs :: L) w) (hmk : marks L = []) (hn : xs.length ≤ 1000000)
    (hcl : ∀ (x : Ev) (L' : List E.Item) (u : World), Mem w0 (L' ++ L) u → Calls Try.prog g (([.agg (Ev.cells x).toArray] : List Value) ++ cap).toArray u fun e w' => e = .returned (.bool (p x)) ∧ Bel u w') :
    Calls Try.prog 48 #[.slice A xs.length c, .func (.func g) #[] cap.toArray] w fun e w' => ∃ _ : Unit, e = .returned (.slice A (xs.filter fun x => !p x).length c) ∧ Mem w0 (rowT 50 9 Ev.cells A c (xs.filter fun x => !p x) :: L) w' := by
  have hcap := rowT_cap (j := 0) hw rfl
  have hidx : ∀ w, Mem w0 (rowT 50 9 Ev.cells A c xs :: L) w → Calls Try.prog 68 #[.slice A xs.length c, .func (.func g) #[] cap.toArray] w fun e w' => e = .returned (.int .i64 (match xs.findIdx? p with | some i => (i : Int) | none => -1)) ∧ Bel w w' := fun w hw =>
    index_deleteEv_w p g cap eg A xs.length c xs w (slAt_row hw (j := 0) rfl (fun _ => rfl) (by omega)) (fun x u hb => hcl x [_] u (hw.call hb))
  obtain ⟨ix, hix⟩ : ∃ ix : Int, ix = (match xs.findIdx? p with | some i => (i : Int) | none => -1) := ⟨_, rfl⟩
  rw [← hix] at hidx
  refine H_enterM hw hmk Try.func48 rfl Try.ntmps48 rfl ?_
  refine H_seq ?_
  refine R0 ?_
  refine xV (e_as (v := .slice _ _ _) (q0 rfl)) rfl rfl ?_
  refine XN ?_
  refine thenJ_normal ?_
  refine H_seq ?_
  refine R0 ?_
  refine xV (e_mv (v := .slice _ _ _) (q0 rfl)) rfl rfl ?_
  refine xV (e_mv (q0 rfl)) rfl rfl ?_
  refine xC (en Try.call68 (ha2 (q0 rfl) (q0 rfl))) (fun _ w hm => hidx w hm) rfl rfl ?_
  cases hfi : xs.findIdx? p with
  | none =>
    rw [hfi] at hix
    simp only at hix
    subst hix
    have hno : xs.filter (fun x => !p x) = xs := by
      rw [List.filter_eq_self]
      intro x hxm
      rw [List.findIdx?_eq_none_iff] at hfi
      simpa using hfi x hxm
    rw [hno]
    refine xV (e_as (v := .int _ _) (q0 rfl)) rfl rfl ?_
    refine XN ?_
    refine thenJ_normal ?_
    refine H_seq ?_
    refine H_seq ?_
    refine R0 ?_
    refine xV (e_mv (v := .int _ _) (q0 rfl)) rfl rfl ?_
    refine xV (e_eq (q0 rfl) (q0 rfl)) rfl rfl ?_
    refine XN ?_
    refine thenJ_normal ?_
    refine H_cond rfl (fun h1 => ?_) (fun h1 => ?_)
    · refine H_seq ?_
      refine R0 ?_
      refine xV (e_mv (v := .slice _ _ _) (q0 rfl)) rfl rfl ?_
      refine xV (e_as (v := .slice _ _ _) (q0 rfl)) rfl rfl ?_
      refine XN ?_
      refine thenJ_normal ?_
      refine H_ret ?_
      refine thenJ_ret ?_
      exact ret1 (v := .slice _ _ _) rfl rfl hmk fun w' hw => ⟨(), rfl, hw⟩
    · cases h1
  | some i0 =>
    rw [hfi] at hix
    simp only at hix
    subst hix
    obtain ⟨hi0, hpi, hbef⟩ := List.findIdx?_eq_some_iff_getElem.1 hfi
    refine xV (e_as (v := .int _ _) (q0 rfl)) rfl rfl ?_
    refine XN ?_
    refine thenJ_normal ?_
    refine H_seq ?_
    refine H_seq ?_
    refine R0 ?_
    refine xV (e_mv (v := .int _ _) (q0 rfl)) rfl rfl ?_
    refine xV (e_eq (q0 rfl) (q0 rfl)) rfl rfl ?_
    refine XN ?_
    refine thenJ_normal ?_
    refine H_cond rfl (fun h1 => ?_) (fun h1 => ?_)
    · exact absurd h1 (by simp)
    · obtain ⟨b, rfl⟩ := rowT_at (j := 0) hw rfl (by omega)
      refine H_skip ?_
      refine thenJ_normal ?_
      refine H_seq ?_
      refine H_seq ?_
      refine R0 ?_
      refine xV (e_mv (v := .int _ _) (q0 rfl)) rfl rfl ?_
      refine xV (e_add (q0 rfl) (q0 rfl) (fun _ => ⟨rfl, by omega, by omega⟩)) rfl rfl ?_
      refine xV (e_as (v := .int _ _) (q0 rfl)) rfl rfl ?_
      refine XN ?_
      refine thenJ_normal ?_
      refine H_block ?_
      refine H_loop [5, 6, 7, 16, 17, 18, 19, 20, 21, 22, 23, 24, 25, 26, 27, 28, 29, 30, 31, 32, 33, 34, 35] (fun s : Nat × Nat × List Ev => [(5, .int .i64 s.1), (6, .int .i64 s.2.1)]) (fun s => rowT 50 9 Ev.cells (some ⟨b, 0, none⟩) c s.2.2 :: L) (fun s => s.1 < s.2.1 ∧ s.2.1 ≤ xs.length ∧ s.2.2.length = xs.length ∧ s.2.2.drop s.2.1 = xs.drop s.2.1 ∧ s.2.2.take s.1 = (xs.take s.2.1).filter (fun x => !p x)) (fun s => xs.length - s.2.1) (i0, i0 + 1, xs) ⟨rfl, rfl, trivial⟩ (fun _ h => h) rfl ⟨Nat.lt_succ_self _, hi0, rfl, rfl, by
        show xs.take i0 = (xs.take (i0 + 1)).filter _
        have h2 : (xs.take i0).filter (fun x => !p x) = xs.take i0 := by
          rw [List.filter_eq_self]
          intro x hxm
          obtain ⟨j, hj⟩ := List.mem_iff_getElem?.1 hxm
          rw [List.getElem?_take] at hj
          split at hj
          · rename_i hlt
            obtain ⟨_, h4⟩ := List.getElem?_eq_some_iff.1 hj
            have h5 := hbef j hlt
            rw [h4] at h5
            simpa using h5
          · cases hj
        rw [take_snoc _ _ _ (List.getElem?_eq_getElem hi0), List.filter_append, h2]
        simp [hpi]⟩ ?_
      rintro s g2 ⟨hij, hjn, hyl, hyd, hyt⟩
      refine H_seq ?_
      refine H_seq ?_
      refine R0 ?_
      refine xV (e_mv (v := .int _ _) (q0 rfl)) rfl rfl ?_
      refine xV (e_mv (v := .slice _ _ _) (q0 rfl)) rfl rfl ?_
      refine xV (e_len Try.underlying43 (q0 rfl)) rfl rfl ?_
      refine xV (e_lt (q0 rfl) (q0 rfl)) rfl rfl ?_
      refine XN ?_
      refine thenJ_normal ?_
      refine H_cond rfl (fun hlt => ?_) (fun hlt => ?_)
      · have hlt' : s.2.1 < xs.length := by simp at hlt; omega
        obtain ⟨y, hy⟩ : ∃ y, xs[s.2.1]? = some y := ⟨_, List.getElem?_eq_getElem hlt'⟩
        have hyy : s.2.2[s.2.1]? = some y := by
          have : (s.2.2.drop s.2.1)[0]? = (xs.drop s.2.1)[0]? := by rw [hyd]
          rw [List.getElem?_drop, List.getElem?_drop, Nat.add_zero] at this
          rw [this]; exact hy
        have hdd : s.2.2.drop (s.2.1 + 1) = xs.drop (s.2.1 + 1) := by
          have := congrArg (List.drop 1) hyd
          rw [List.drop_drop, List.drop_drop] at this
          exact this
        obtain ⟨q, hq⟩ : ∃ q, s.2.2[s.1]? = some q := ⟨_, List.getElem?_eq_getElem (by omega)⟩
        refine H_skip ?_
        refine thenJ_normal ?_
        refine H_seq ?_
        refine H_block ?_
        refine H_seq ?_
        refine R0 ?_
        refine xV (e_mv (v := .slice _ _ _) (q0 rfl)) rfl rfl ?_
        refine xV (e_mv (v := .int _ _) (q0 rfl)) rfl rfl ?_
        refine xV (e_idx _ Try.underlying43 Try.sizeOf50 (q0 rfl) (q0 rfl) (fun _ => ⟨rfl, by omega⟩)) rfl rfl ?_
        refine xV (e_lds Try.isAgg50 Try.sizeOf50 (q0 rfl) (rrs 0 rfl hyy) rfl) rfl rfl ?_
        refine X_alloc Try.zeroValue50 rfl fun b7 => ?_
        refine X_st (v := .agg _) rfl rfl Try.sizeOf50 ?_
        refine XN ?_
        refine thenJ_normal ?_
        refine H_seq ?_
        refine R0 ?_
        refine xV (e_mv (q0 rfl)) rfl rfl ?_
        refine xV (eS Try.isAgg50 Try.sizeOf50 (q0 rfl)) rfl rfl ?_
        refine xC (enV eg (q0 rfl) (fun _ => rfl)) (fun _ w hw => hcl y [_, _] w hw) rfl rfl ?_
        refine xV (e_not (q0 rfl)) rfl rfl ?_
        refine XN ?_
        refine thenJ_normal ?_
        refine H_cond rfl (fun hb => ?_) (fun hb => ?_)
        · have hb' : p y = false := by simpa using hb
          refine H_seq ?_
          refine R0 ?_
          refine xV (e_mv (v := .slice _ _ _) (q0 rfl)) rfl rfl ?_
          refine xV (e_mv (v := .int _ _) (q0 rfl)) rfl rfl ?_
          refine xV (eS Try.isAgg50 Try.sizeOf50 (q0 rfl)) rfl rfl ?_
          refine xV (e_idx _ Try.underlying43 Try.sizeOf50 (q0 rfl) (q0 rfl) (fun _ => ⟨rfl, by omega⟩)) rfl rfl ?_
          refine X_eff (f_storeR0 1 y rfl rfl Try.sizeOf50 rfl rfl rfl hq rfl rfl ?_)
          refine XN ?_
          refine thenJ_normal ?_
          refine R0 ?_
          refine xV (e_mv (v := .int _ _) (q0 rfl)) rfl rfl ?_
          refine xV (e_add (q0 rfl) (q0 rfl) (fun _ => ⟨rfl, by omega, by omega⟩)) rfl rfl ?_
          refine xV (e_as (v := .int _ _) (q0 rfl)) rfl rfl ?_
          refine XN ?_
          refine blockJ_normal ?_
          refine thenJ_normal ?_
          refine R0 ?_
          refine xV (e_mv (v := .int _ _) (q0 rfl)) rfl rfl ?_
          refine xV (e_add (q0 rfl) (q0 rfl) (fun _ => ⟨rfl, by omega, by omega⟩)) rfl rfl ?_
          refine xV (e_as (v := .int _ _) (q0 rfl)) rfl rfl ?_
          refine XN ?_
          exact loopJ_normal (s.1 + 1, s.2.1 + 1, s.2.2.set s.1 y) (by repeat (first | exact agree_self | exact agree_over | refine agree_upd rfl ?_ | refine agree_updL rfl ?_ | refine agree_over2 rfl ?_)) ⟨rfl, rfl, trivial⟩ (fun _ h => h.tail) rfl ⟨by show s.1 + 1 < s.2.1 + 1; omega, by show s.2.1 + 1 ≤ _; omega, by simpa using hyl, by
            show (s.2.2.set s.1 y).drop (s.2.1 + 1) = _
            rw [List.drop_set_of_lt (by omega)]; exact hdd, by
            show (s.2.2.set s.1 y).take (s.1 + 1) = _
            rw [take_snoc _ _ _ hy, List.filter_append, ← hyt, List.take_add_one, List.take_set_of_le (by omega), List.getElem?_set_self (by omega)]
            simp [hb']⟩ (by show xs.length - (s.2.1 + 1) < xs.length - s.2.1; omega)
        · have hb' : p y = true := by simpa using hb
          refine H_skip ?_
          refine blockJ_normal ?_
          refine thenJ_normal ?_
          refine R0 ?_
          refine xV (e_mv (v := .int _ _) (q0 rfl)) rfl rfl ?_
          refine xV (e_add (q0 rfl) (q0 rfl) (fun _ => ⟨rfl, by omega, by omega⟩)) rfl rfl ?_
          refine xV (e_as (v := .int _ _) (q0 rfl)) rfl rfl ?_
          refine XN ?_
          exact loopJ_normal (s.1, s.2.1 + 1, s.2.2) (by repeat (first | exact agree_self | exact agree_over | refine agree_upd rfl ?_ | refine agree_updL rfl ?_ | refine agree_over2 rfl ?_)) ⟨rfl, rfl, trivial⟩ (fun _ h => h.tail) rfl ⟨by show s.1 < s.2.1 + 1; omega, by show s.2.1 + 1 ≤ _; omega, hyl, hdd, by
            show s.2.2.take s.1 = _
            rw [take_snoc _ _ _ hy, List.filter_append, ← hyt]
            simp [hb']⟩ (by show xs.length - (s.2.1 + 1) < xs.length - s.2.1; omega)
      · have hend : s.2.1 = xs.length := by simp at hlt; omega
        have hfl : xs.filter (fun x => !p x) = s.2.2.take s.1 := by rw [hyt, hend, List.take_length]
        refine H_exit ?_
        refine thenJ_exit ?_
        refine loopJ_exit ?_
        refine blockJ_hit ?_
        refine thenJ_normal ?_
        refine H_seq ?_
        refine R0 ?_
        refine xV (e_mv (v := .slice _ _ _) (q0 rfl)) rfl rfl ?_
        refine xV (e_mv (v := .int _ _) (q0 rfl)) rfl rfl ?_
        refine xV (e_slLo _ Try.underlying43 Try.sizeOf50 (q0 rfl) (q0 rfl) (fun _ => ⟨rfl, by omega, by omega⟩)) rfl rfl ?_
        refine X_eff (f_clearR (i := s.1) (k := 9) 0 Try.underlying43 Try.zeroValue50 rfl rfl rfl rfl ⟨by omega, by omega⟩ ?_)
        refine XN ?_
        refine thenJ_normal ?_
        refine H_seq ?_
        refine R0 ?_
        refine xV (e_mv (v := .slice _ _ _) (q0 rfl)) rfl rfl ?_
        refine xV (e_mv (v := .int _ _) (q0 rfl)) rfl rfl ?_
        refine xV (e_slHi _ Try.underlying43 Try.sizeOf50 (q0 rfl) (q0 rfl) (fun _ => ⟨rfl, by omega⟩)) rfl rfl ?_
        refine xV (e_as (v := .slice _ _ _) (q0 rfl)) rfl rfl ?_
        refine XN ?_
        refine thenJ_normal ?_
        refine H_ret ?_
        exact ret1 (v := .slice _ _ _) rfl rfl hmk fun w' hw => ⟨(), by rw [hfl, List.length_take, Nat.min_eq_left (by omega)], by rw [hfl]; exact hw⟩


end Go.Proofs.Cus

/-
  The walks: where a bicycle is at a moment.
-/
namespace Go.Proofs.Cus
open Go Go.RowKit Go.Proofs.E

def untilP (t : Int) (xs : List Ev) : List Ev := (setOf xs).filter fun x => !decide (t < x.at_)
def atErr (f : Fl) (bike t : Int) : Int := if flErr f ≠ 0 then flErr f else if (decide (bike < 0) || decide (f.bikes ≤ bike)) = true then 7 else if (decide (t < 0) || decide (4294943999 < t)) = true then 1 else 0
def atOf (f : Fl) (xs : List Ev) (bike t : Int) : Sp := if atErr f bike t = 0 then (spotsOf f (untilP t xs)).getD bike.toNat default else zeroS

theorem at1_w (e : Ev) (t : Int) (b : Nat) (u : World) (hlt : b < u.heap.size) (hr : RowAt u b 0 [.int .i64 t]) : Calls Try.prog 50 #[.agg e.cells.toArray, .pointer (some ⟨b, 0, none⟩)] u fun r w' => r = .returned (.bool (decide (t < e.at_))) ∧ Bel u w' := by
  refine H_enter Try.func50 rfl Try.ntmps50 rfl ?_
  refine H_seq ?_
  refine R0 ?_
  refine X_box (v := .agg _) rfl rfl fun b2 => ?_
  refine xV (e_as (v := .bool _) (q0 rfl)) rfl rfl ?_
  refine XN ?_
  refine thenJ_normal ?_
  refine H_seq ?_
  refine R0 ?_
  refine xV (e_fld Try.underlying50 rfl Try.sizeOf3 rfl (q0 rfl)) rfl rfl ?_
  refine xV (eL Try.isAgg3 (q0 rfl)) rfl rfl ?_
  refine xV (eL Try.isAgg3 (q0 rfl)) rfl rfl ?_
  refine xV (e_gt (q0 rfl) (q0 rfl)) rfl rfl ?_
  refine xV (e_as (v := .bool _) (q0 rfl)) rfl rfl ?_
  refine XN ?_
  refine thenJ_normal ?_
  refine H_ret ?_
  exact ret1 (v := .bool _) rfl rfl rfl fun w' hw => ⟨rfl, hw.1⟩
attribute [local irreducible] spotsOf setOf
set_option maxRecDepth 20000 in
theorem at_w (f : Fl) (a : FA) (A : Option Addr) (n c : Nat) (xs : List Ev) (bike t : Int) (w : World) (hf : FlAt w f a) (hx : EvsAt w A n xs) (hn : n ≤ 10000) (hpl : PlOk xs) :
    Calls Try.prog 27 #[.agg (f.cells a).toArray, .slice A n c, .int .i64 bike, .int .i64 t] w fun r w' => r = .returned (.tuple #[.agg (atOf f xs bike t).cells.toArray, .int .i64 (atErr f bike t)]) ∧ Bel w w' := by
  have hxl := hx.1
  have hsl := setOf_len xs
  refine H_enter Try.func27 rfl Try.ntmps27 rfl ?_
  refine H_seq ?_
  refine R0 ?_
  refine X_box (v := .agg _) rfl rfl fun b4 => ?_
  refine X_box (v := .int _ _) rfl rfl fun b7 => ?_
  refine X_alloc Try.zeroValue58 rfl fun b8 => ?_
  refine xV (e_as (v := .int _ _) (q0 rfl)) rfl rfl ?_
  refine XN ?_
  refine thenJ_normal ?_
  refine H_seq ?_
  refine H_seq ?_
  refine R0 ?_
  refine xV (eS Try.isAgg42 Try.sizeOf42 (q0 rfl)) rfl rfl ?_
  refine xC (en Try.call47 (ha1 (q0 rfl))) (fun _ w hm => fleet_w f a w (hf.mem hm)) rfl rfl ?_
  refine xV (e_as (v := .int _ _) (q0 rfl)) rfl rfl ?_
  refine XN ?_
  refine thenJ_normal ?_
  refine H_seq ?_
  refine R0 ?_
  refine xV (e_mv (v := .int _ _) (q0 rfl)) rfl rfl ?_
  refine xV (e_ne (q0 rfl) (q0 rfl)) rfl rfl ?_
  refine XN ?_
  refine thenJ_normal ?_
  refine H_cond rfl (fun h1 => ?_) (fun h1 => ?_)
  · have h1' : flErr f ≠ 0 := by simpa using h1
    have he : atErr f bike t = flErr f := by unfold atErr; rw [if_pos h1']
    have ho : atOf f xs bike t = zeroS := by unfold atOf; rw [he, if_neg h1']
    rw [he, ho]
    refine H_seq ?_
    refine R0 ?_
    refine xV (e_build Try.underlying58 fl58 Try.zeroValue58 E.p0 rfl) rfl rfl ?_
    refine xV (e_mv (v := .int _ _) (q0 rfl)) rfl rfl ?_
    refine X_st (v := .agg _) rfl rfl Try.sizeOf58 ?_
    refine xV (e_as (v := .int _ _) (q0 rfl)) rfl rfl ?_
    refine XN ?_
    refine thenJ_normal ?_
    refine H_ret ?_
    refine thenJ_ret ?_
    exact ret_of rfl (resc2 0 rfl rfl rfl Try.isAgg58 Try.sizeOf58 rfl rfl) fun w' hw => ⟨rfl, hw.1⟩
  · have h1' : flErr f = 0 := by simpa using h1
    obtain ⟨hbk, -⟩ := flErr_ok h1'
    have hnb := nb_eq h1'
    refine H_skip ?_
    refine thenJ_normal ?_
    refine H_seq ?_
    refine H_block ?_
    refine H_seq ?_
    refine R0 ?_
    refine xV (e_mv (v := .int _ _) (q0 rfl)) rfl rfl ?_
    refine xV (e_lt (q0 rfl) (q0 rfl)) rfl rfl ?_
    refine xV (e_mv (v := .bool _) (q0 rfl)) rfl rfl ?_
    refine xVF (e_mv (v := .int _ _) (q0 rfl)) rfl rfl rfl rfl ?_
    refine xVF (e_fld Try.underlying42 rfl Try.sizeOf3 rfl (q0 rfl)) rfl rfl rfl rfl ?_
    refine xVF (eL Try.isAgg3 (q1 rfl)) rfl rfl rfl rfl ?_
    refine xVF (e_ge (q1 rfl) (q1 rfl)) rfl rfl rfl rfl ?_
    refine xV (e_or (q0 rfl) rfl (fun h => by first | rfl | (rw [h]; rfl))) rfl rfl ?_
    refine xV (e_as (v := .bool _) (q0 rfl)) rfl rfl ?_
    refine XN ?_
    refine thenJ_normal ?_
    refine H_cond rfl (fun h2 => ?_) (fun h2 => ?_)
    · have he : atErr f bike t = 7 := by unfold atErr; rw [if_neg (by simp [h1']), if_pos h2]
      have ho : atOf f xs bike t = zeroS := by unfold atOf; rw [he, if_neg (by decide)]
      rw [he, ho]
      refine H_seq ?_
      refine R0 ?_
      refine xV (e_build Try.underlying58 fl58 Try.zeroValue58 E.p0 rfl) rfl rfl ?_
      refine X_st (v := .agg _) rfl rfl Try.sizeOf58 ?_
      refine xV (e_as (v := .int _ _) (q0 rfl)) rfl rfl ?_
      refine XN ?_
      refine thenJ_normal ?_
      refine H_ret ?_
      refine blockJ_ret ?_
      refine thenJ_ret ?_
      exact ret_of rfl (resc2 0 rfl rfl rfl Try.isAgg58 Try.sizeOf58 rfl rfl) fun w' hw => ⟨rfl, hw.1⟩
    · refine H_seq ?_
      refine R0 ?_
      refine xV (eL Try.isAgg3 (q0 rfl)) rfl rfl ?_
      refine xV (e_lt (q0 rfl) (q0 rfl)) rfl rfl ?_
      refine xV (e_mv (v := .bool _) (q0 rfl)) rfl rfl ?_
      refine xVF (eL Try.isAgg3 (q0 rfl)) rfl rfl rfl rfl ?_
      refine xVF (e_gt (q1 rfl) (q0 rfl)) rfl rfl rfl rfl ?_
      refine xV (e_or (q0 rfl) rfl (fun h => by first | rfl | (rw [h]; rfl))) rfl rfl ?_
      refine xV (e_as (v := .bool _) (q0 rfl)) rfl rfl ?_
      refine XN ?_
      refine thenJ_normal ?_
      refine H_cond rfl (fun h3 => ?_) (fun h3 => ?_)
      · have he : atErr f bike t = 1 := by unfold atErr; rw [if_neg (by simp [h1']), if_neg (by rw [h2]; decide), if_pos h3]
        have ho : atOf f xs bike t = zeroS := by unfold atOf; rw [he, if_neg (by decide)]
        rw [he, ho]
        refine H_seq ?_
        refine R0 ?_
        refine xV (e_build Try.underlying58 fl58 Try.zeroValue58 E.p0 rfl) rfl rfl ?_
        refine X_st (v := .agg _) rfl rfl Try.sizeOf58 ?_
        refine xV (e_as (v := .int _ _) (q0 rfl)) rfl rfl ?_
        refine XN ?_
        refine thenJ_normal ?_
        refine H_ret ?_
        refine blockJ_ret ?_
        refine thenJ_ret ?_
        exact ret_of rfl (resc2 0 rfl rfl rfl Try.isAgg58 Try.sizeOf58 rfl rfl) fun w' hw => ⟨rfl, hw.1⟩
      · have he : atErr f bike t = 0 := by unfold atErr; rw [if_neg (by simp [h1']), if_neg (by rw [h2]; decide), if_neg (by rw [h3]; decide)]
        have ho : atOf f xs bike t = (spotsOf f (untilP t xs)).getD bike.toNat default := by unfold atOf; rw [if_pos he]
        rw [he, ho]
        have hb0 : 0 ≤ bike ∧ bike < f.bikes := by simp at h2; omega
        have hlen : (spotsOf f (untilP t xs)).length = nbOf f := by unfold spotsOf; rw [if_pos h1']; exact spotsOf_len h1'
        obtain ⟨k, hk⟩ : ∃ k : Nat, bike = k := ⟨bike.toNat, by omega⟩
        subst hk
        obtain ⟨y, hy⟩ : ∃ y, (spotsOf f (untilP t xs))[k]? = some y := ⟨_, List.getElem?_eq_getElem (by omega)⟩
        have hyd : (spotsOf f (untilP t xs)).getD ((k : Int)).toNat default = y := by rw [Int.toNat_natCast, List.getD_eq_getElem?_getD, hy]; rfl
        rw [hyd]
        have hfl : (untilP t xs).length ≤ (setOf xs).length := List.length_filter_le _ _
        refine H_skip ?_
        refine blockJ_normal ?_
        refine thenJ_normal ?_
        refine H_seq ?_
        refine R0 ?_
        refine xV (e_mv (v := .slice _ _ _) (q0 rfl)) rfl rfl ?_
        refine xCX (en Try.call49 (ha1 (q0 rfl))) (fun w hw => set_w A n c xs w (hx.mem hw) hn) rfl (fun _ => rfl) fun S => ?_
        refine xV e_fn rfl rfl ?_
        refine X_eff (f_callM (en Try.call48 (ha2 (q0 rfl) (q0 rfl))) (fun w hw => deleteEv_w (xs := setOf xs) (fun x => decide (t < x.at_)) 50 [.pointer (some ⟨b7, 0, none⟩)] Try.call50 hw rfl (by omega) (fun x L' u hu => at1_w x t b7 u (heap_row ((Mem.cutX (X := L') hu).item (k := 1) rfl)).1 (heap_row ((Mem.cutX (X := L') hu).item (k := 1) rfl)).2)) rfl (fun _ => rfl) fun u => ?_)
        refine xV (e_as (v := .slice _ _ _) (q0 rfl)) rfl rfl ?_
        refine XN ?_
        refine thenJ_normal ?_
        refine H_seq ?_
        refine R0 ?_
        refine xV (eS Try.isAgg42 Try.sizeOf42 (q0 rfl)) rfl rfl ?_
        refine xV (e_mv (v := .slice _ _ _) (q0 rfl)) rfl rfl ?_
        refine xCX (en Try.call25 (ha2 (q0 rfl) (q0 rfl))) (fun w hw => spots_w f a S.1 (untilP t xs).length S.2 (untilP t xs) w (hf.mem hw) (slAt_row hw (j := 0) rfl (fun _ => rfl) (by omega)) (by omega) (fun e he => hpl e ((set_isSet xs).mem e |>.1 (List.mem_filter.1 he).1).1)) rfl (fun _ => rfl) fun P => ?_
        refine xV (e_mv (q0 rfl)) rfl rfl ?_
        refine xV (e_ext (q0 rfl) rfl) rfl rfl ?_
        refine xV (e_ext (q0 rfl) rfl) rfl rfl ?_
        refine xV (e_as (v := .slice _ _ _) (q0 rfl)) rfl rfl ?_
        refine xV (e_as (v := .int _ _) (q0 rfl)) rfl rfl ?_
        refine XN ?_
        refine thenJ_normal ?_
        refine H_seq ?_
        refine H_seq ?_
        refine R0 ?_
        refine xV (e_mv (v := .int _ _) (q0 rfl)) rfl rfl ?_
        refine xV (e_ne (q0 rfl) (q0 rfl)) rfl rfl ?_
        refine XN ?_
        refine thenJ_normal ?_
        refine H_cond rfl (fun h4 => ?_) (fun h4 => ?_)
        · exact absurd h1' (by simpa using h4)
        · refine H_know (fun w hw => rowT_at (j := 0) hw rfl (by omega)) fun ⟨b, hb4⟩ => ?_
          obtain ⟨P1, P2⟩ := P
          simp only at hb4
          subst hb4
          refine H_skip ?_
          refine thenJ_normal ?_
          refine H_seq ?_
          refine R0 ?_
          refine xV (e_mv (v := .slice _ _ _) (q0 rfl)) rfl rfl ?_
          refine xV (e_mv (v := .int _ _) (q0 rfl)) rfl rfl ?_
          refine xV (e_idx _ Try.underlying54 Try.sizeOf58 (q0 rfl) (q0 rfl) (fun _ => ⟨rfl, by omega⟩)) rfl rfl ?_
          refine xV (eS Try.isAgg58 Try.sizeOf58 (q0 rfl)) rfl rfl ?_
          refine X_st (v := .agg _) rfl rfl Try.sizeOf58 ?_
          refine xV (e_as (v := .int _ _) (q0 rfl)) rfl rfl ?_
          refine XN ?_
          refine thenJ_normal ?_
          refine H_ret ?_
          exact ret_of rfl (resc2 2 rfl rfl rfl Try.isAgg58 Try.sizeOf58 rfl rfl) fun w' hw => ⟨rfl, hw.1⟩

end Go.Proofs.Cus
