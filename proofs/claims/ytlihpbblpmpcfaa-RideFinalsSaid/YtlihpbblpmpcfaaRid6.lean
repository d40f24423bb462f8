import Derived.Test.YtlihpbblpmpcfaaRid2
import Derived.Test.YtlihpbblpmpcfaaRid3
set_option linter.unusedVariables false
set_option linter.unusedSimpArgs false
/-
  Plain facts: the spots behind the accepted events; the open rides and the bicycles in rides.
-/
namespace Go.Proofs.Rid
open Go.Proofs.Cus

theorem run_fold {f : Fl} : ∀ (l : List Ev) (s : PS) (za : List Ev), ∃ t, (runR f accCb l (s, za)).2 = za ++ t ∧ (runR f accCb l (s, za)).1 = t.foldl doP s
  | [], s, za => ⟨[], by simp [runR], rfl⟩
  | e :: l, s, za => by
    show ∃ t, (runR f accCb l (tellR accCb za e (stepR f s e))).2 = za ++ t ∧ (runR f accCb l (tellR accCb za e (stepR f s e))).1 = _
    by_cases h0 : errR f s e = 0
    · by_cases hk : e.kind = 10
      · rw [step_beat h0 hk]
        exact run_fold l s za
      · obtain ⟨h1, h2, h3⟩ := step_do h0 hk
        rw [h1]
        obtain ⟨t, a1, a2⟩ := run_fold l (doP s e) (za ++ [e])
        refine ⟨e :: t, ?_, ?_⟩
        · show (runR f accCb l (doP s e, accCb za (doP s e) e 0)).2 = _
          rw [show accCb za (doP s e) e 0 = za ++ [e] from rfl, a1]; simp
        · show (runR f accCb l (doP s e, accCb za (doP s e) e 0)).1 = _
          rw [show accCb za (doP s e) e 0 = za ++ [e] from rfl, a2]; rfl
    · rw [step_err h0]
      show ∃ t, (runR f accCb l (s, accCb za s e (errR f s e))).2 = za ++ t ∧ (runR f accCb l (s, accCb za s e (errR f s e))).1 = _
      rw [show accCb za s e (errR f s e) = za by unfold accCb; rw [if_neg h0]]
      exact run_fold l s za
def finS (f : Fl) (xs : List Ev) : PS := (accOf f xs).foldl doP (beginP (nbOf f))
theorem spots_fin {f : Fl} (hok : flErr f = 0) (xs : List Ev) : spotsOf f xs = (finS f xs).spots := by
  unfold spotsOf finS accOf
  rw [if_pos hok, if_pos hok, ← runR_fst (cb := accCb) (cb2 := nobCb) (y := ()) (setOf xs) (beginP (nbOf f)) ([] : List Ev)]
  obtain ⟨t, h1, h2⟩ := run_fold (f := f) (setOf xs) (beginP (nbOf f)) []
  rw [h1, h2]; rfl

/-! the last event of a bicycle -/
def goesE (b : Int) (o : Bool) (e : Ev) : Bool := if (decide (e.bike = b) && !decide (e.kind = 10)) = true then decide (e.kind = 5) else o
def goesP (b : Int) (l : List Ev) : Bool := l.foldl (goesE b) false
def GI (l : List Ev) (s : PS) : Prop := ∀ (b : Nat) x, s.spots[b]? = some x → x.where_ = 3 → x.paused = goesP b l
theorem goes_snoc (b : Int) (l : List Ev) (e : Ev) : goesP b (l ++ [e]) = goesE b (goesP b l) e := by unfold goesP; rw [List.foldl_append]; rfl
theorem goes_other {b : Int} {l : List Ev} {e : Ev} (h : e.bike ≠ b) : goesP b (l ++ [e]) = goesP b l := by
  rw [goes_snoc]; unfold goesE; simp [h]
theorem goes_own {l : List Ev} {e : Ev} (h : e.kind ≠ 10) : goesP e.bike (l ++ [e]) = decide (e.kind = 5) := by
  rw [goes_snoc]; unfold goesE; simp [h]
theorem GI.put {l : List Ev} {e : Ev} {k : Nat} {ss : List Sp} {z : Sp} (hbk : e.bike = k) (hk10 : e.kind ≠ 10) (hz : z.where_ = 3 → z.paused = decide (e.kind = 5))
    (hss : ∀ (b : Nat) x, b ≠ k → ss[b]? = some x → x.where_ = 3 → x.paused = goesP b l) : ∀ (b : Nat) x, (ss.set k z)[b]? = some x → x.where_ = 3 → x.paused = goesP b (l ++ [e]) := by
  intro b x hx h3
  by_cases hb : b = k
  · subst hb
    rw [List.getElem?_set, if_pos rfl] at hx
    split at hx
    · cases hx
      rw [hz h3, ← hbk, goes_own hk10]
    · cases hx
  · rw [List.getElem?_set_ne (fun e => hb e.symm)] at hx
    rw [goes_other (by rw [hbk]; omega)]
    exact hss b x hb hx h3
theorem GI.step {f : Fl} {n : Nat} {tr : List Int} {s : PS} {l : List Ev} {e : Ev} (he : evErr f e = 0) (hk10 : e.kind ≠ 10) (hc : checkP tr s e = 0) (h : GI l s) : GI (l ++ [e]) (doP s e) := by
  obtain ⟨_, hb, _, hkd, _⟩ := evErr_ok he
  obtain ⟨k, hbk⟩ : ∃ k : Nat, e.bike = k := ⟨e.bike.toNat, by omega⟩
  have hkn : e.bike.toNat = k := by omega
  have hss : ∀ (b : Nat) x, b ≠ k → s.spots[b]? = some x → x.where_ = 3 → x.paused = goesP b l := fun b x _ => h b x
  have hlv : ∀ to : Sp, to.where_ ≠ 3 → GI (l ++ [e]) (leaveP s k to) := fun to ht => GI.put (z := to) (ss := s.spots) hbk hk10 (fun h3 => absurd h3 ht) hss
  unfold checkP at hc
  unfold doP
  simp only [hkn] at hc ⊢
  by_cases h1 : e.kind = 1
  · rw [if_pos h1]; exact hlv _ (by simp)
  rw [if_neg h1] at hc ⊢
  by_cases h2 : e.kind = 2
  · rw [if_pos h2]; exact hlv _ (by simp)
  rw [if_neg h2] at hc ⊢
  by_cases h3 : e.kind = 3
  · rw [if_pos h3]
    exact GI.put (ss := s.spots) hbk hk10 (fun _ => by rw [h3]; rfl) hss
  rw [if_neg h3] at hc ⊢
  by_cases h4 : e.kind = 4
  · rw [if_pos h4] at hc ⊢
    cases hl : lookP s.open_ e.ride with
    | none => rw [hl] at hc; simp at hc
    | some t =>
      rw [hl] at hc
      simp only at hc ⊢
      split at hc
      · cases hc
      · rename_i hp
        have hn3 := parked_no3 (show parkedS (s.spots.getD k default) = true by simpa using hp)
        refine GI.put hbk hk10 (fun _ => by rw [h4]; rfl) fun b x hbk' hx hx3 => ?_
        rw [List.getElem?_set] at hx
        split at hx
        · split at hx
          · cases hx; exact absurd hx3 hn3
          · cases hx
        · exact h b x hx hx3
  rw [if_neg h4] at hc ⊢
  by_cases h5 : e.kind = 5 ∨ e.kind = 6
  · rw [if_pos h5]
    exact GI.put (ss := s.spots) hbk hk10 (fun _ => rfl) hss
  rw [if_neg h5] at hc ⊢
  by_cases h7 : e.kind = 7
  · rw [if_pos h7]; exact hlv _ (by simp)
  rw [if_neg h7] at hc ⊢
  by_cases h8 : e.kind = 8
  · rw [if_pos h8]; exact hlv _ (by simp)
  rw [if_neg h8] at hc ⊢
  by_cases h9 : e.kind = 9
  · rw [if_pos h9]; exact hlv _ (by simp)
  omega
theorem GI.run {f : Fl} : ∀ (l : List Ev) {s : PS} {pre : List Ev}, Replay f s l → GI pre s → GI (pre ++ l) (l.foldl doP s)
  | [], s, pre, _, h => by rw [List.append_nil]; exact h
  | e :: l, s, pre, ⟨h1, h2, h3, h4⟩, h => by
    have := GI.run l h4 (GI.step (n := 0) h1 h2 h3 h)
    rw [List.append_assoc] at this
    exact this
theorem GI.begin (n : Nat) : GI [] (beginP n) := fun b x hx h3 => by
  simp only [beginP, List.getElem?_replicate] at hx
  split at hx
  · cases hx; simp at h3
  · cases hx
theorem gi_fin {f : Fl} (hok : flErr f = 0) (xs : List Ev) : GI (accOf f xs) (finS f xs) := by
  obtain ⟨hr, _⟩ := replay_of hok xs (fun _ => ())
  exact GI.run (accOf f xs) hr (GI.begin _)

/-! how many -/
theorem open_count {n : Nat} {s : PS} {y : SY} (h : JI n s y) (hI : PInv n s) : y.rides.countP (·.open_) = s.open_.length := by
  have hp : ((y.rides.filter (·.open_)).map (·.id)).Perm (s.open_.map (·.1)) := by
    refine (List.perm_ext_iff_of_nodup ?_ hI.keys).2 fun id => ?_
    · exact (h.ids).sublist (List.filter_sublist.map _)
    · constructor
      · intro hm
        obtain ⟨r, hr, rfl⟩ := List.mem_map.1 hm
        obtain ⟨hr1, hr2⟩ := List.mem_filter.1 hr
        obtain ⟨k, hk⟩ := List.mem_iff_getElem?.1 hr1
        obtain ⟨t, ht⟩ := h.rid k r hk hr2
        exact List.mem_map.2 ⟨_, ht, rfl⟩
      · intro hm
        obtain ⟨⟨i, t⟩, ht, rfl⟩ := List.mem_map.1 hm
        obtain ⟨k, r, a1, a2, a3, _⟩ := h.open_ i t ht
        exact List.mem_map.2 ⟨r, List.mem_filter.2 ⟨List.mem_of_getElem? a1, a3⟩, a2⟩
  rw [List.countP_eq_length_filter]
  simpa using hp.length_eq
theorem count_idx {α : Type} (p : α → Bool) (d : α) (l : List α) : l.countP p = ((List.range l.length).filter fun k => p (l.getD k d)).length := by
  have h : (List.range l.length).map (fun k => l.getD k d) = l := by
    apply List.ext_getElem?
    intro i
    rw [List.getElem?_map]
    by_cases hi : i < l.length
    · simp [hi]
    · rw [List.getElem?_eq_none (by simp; omega), List.getElem?_eq_none (by omega)]; rfl
  rw [← List.countP_eq_length_filter]
  conv => lhs; rw [← h]
  rw [List.countP_map]; rfl
def inRide (x : Sp) : Bool := decide (x.where_ = 3)
theorem spot_count {n : Nat} {s : PS} (hI : PInv n s) : s.spots.countP inRide = s.open_.length := by
  rw [count_idx inRide default]
  have hp : ((List.range s.spots.length).filter fun k => inRide (s.spots.getD k default)).Perm (s.open_.map fun p => p.2.bike.toNat) := by
    refine (List.perm_ext_iff_of_nodup (List.nodup_range.sublist List.filter_sublist) ?_).2 fun k => ?_
    · have hk := hI.keys
      unfold List.Nodup at hk ⊢
      rw [List.pairwise_map] at hk ⊢
      refine List.Pairwise.imp_of_mem (fun {p q} hp hq hne e => hne ?_) hk
      obtain ⟨_, x, hx, _, hxr, _⟩ := hI.bike p hp
      obtain ⟨_, z, hz, _, hzr, _⟩ := hI.bike q hq
      rw [e, hz] at hx
      cases hx
      rw [← hxr, ← hzr]
    · rw [List.mem_filter, List.mem_range, List.mem_map]
      constructor
      · rintro ⟨hk, h3⟩
        have hx : s.spots[k]? = some (s.spots.getD k default) := by rw [List.getD_eq_getElem?_getD, List.getElem?_eq_getElem hk]; rfl
        obtain ⟨t, ht, htb⟩ := hI.spot k _ hx (by simpa [inRide] using h3)
        exact ⟨_, ht, by rw [htb]; rfl⟩
      · rintro ⟨p, hp, rfl⟩
        obtain ⟨_, x, hx, h3, _⟩ := hI.bike p hp
        refine ⟨(List.getElem?_eq_some_iff.1 hx).1, ?_⟩
        rw [List.getD_eq_getElem?_getD, hx]
        simpa [inRide] using h3
  simpa using hp.length_eq
/-- what an open ride of the events says -/
theorem open_ride_at {f : Fl} (hok : flErr f = 0) (xs : List Ev) {r : Rd} (hr : r ∈ allOf f xs) (ho : r.open_ = true) :
    ∃ (b : Nat) (x : Sp), lastBike r.legs = b ∧ (spotsOf f xs)[b]? = some x ∧ x.where_ = 3 ∧ x.ride = r.id ∧ x.paused = goesP b (accOf f xs) := by
  unfold allOf at hr
  rw [if_pos hok] at hr
  have hm := (byId_perm _).mem_iff.1 hr
  have hJ := joint_of hok xs
  obtain ⟨k, hk⟩ := List.mem_iff_getElem?.1 hm
  obtain ⟨t, ht⟩ := hJ.ji.rid k r hk ho
  obtain ⟨j, q, a1, a2, a3, a4, _⟩ := hJ.ji.open_ _ t ht
  have hjk := id_uniq hJ.ji.ids hk a1 a2.symm
  subst hjk
  rw [hk] at a1; cases a1
  obtain ⟨h0, x, hx, h3, hxr, _⟩ := hJ.inv.bike _ ht
  simp only at h0 hx hxr
  have hgi := gi_fin hok xs t.bike.toNat x hx h3
  exact ⟨t.bike.toNat, x, by rw [a4]; omega, by rw [spots_fin hok]; exact hx, h3, hxr, hgi⟩
theorem counts_eq {f : Fl} (hok : flErr f = 0) (xs : List Ev) : (allOf f xs).countP (·.open_) = (spotsOf f xs).countP inRide := by
  have hJ := joint_of hok xs
  have h1 : (allOf f xs).countP (·.open_) = (storyOf f xs).rides.countP (·.open_) := by
    unfold allOf
    rw [if_pos hok]
    exact (byId_perm _).countP_eq _
  rw [h1, spots_fin hok, open_count hJ.ji hJ.inv, ← spot_count hJ.inv]; rfl

end Go.Proofs.Rid

/-
  The walks of the laws: the bicycles in rides at the end.
-/
namespace Go.Proofs.Rid
open Go Go.RowKit Go.Proofs.E Go.Proofs.Cus

/-- the world as it is now is taken as the start -/
theorem H_rebase {c : Cx} {k : Code} {PQ : PJ} {w0 : World} {L : List E.Item} {f : Fr} (hm : marks L = []) (h : ∀ w1, Mem w0 L w1 → H c k PQ w1 [] f) : H c k PQ w0 L f := fun a w ha hw => h w hw a w (by rw [hm] at ha; exact ha) (Mem.start w)
theorem ok_of {f : Fl} {xs : List Ev} {r : Rd} (hr : r ∈ allOf f xs) : flErr f = 0 := by
  unfold allOf at hr
  split at hr
  · assumption
  · cases hr
theorem legs_pos {f : Fl} {xs : List Ev} {r : Rd} (hr : r ∈ allOf f xs) : 0 < r.legs.length := by
  have hok := ok_of hr
  unfold allOf at hr
  rw [if_pos hok] at hr
  exact ((joint_of hok xs).wf.legs r ((byId_perm _).mem_iff.1 hr)).1
theorem counts_all (f : Fl) (xs : List Ev) : (allOf f xs).countP (·.open_) = (spotsOf f xs).countP inRide := by
  by_cases hok : flErr f = 0
  · exact counts_eq hok xs
  · unfold allOf spotsOf
    rw [if_neg hok, if_neg hok]; rfl
theorem count_snoc {α : Type} (p : α → Bool) {l : List α} {k : Nat} {x : α} (h : l[k]? = some x) : (l.take (k + 1)).countP p = (l.take k).countP p + if p x = true then 1 else 0 := by
  rw [take_snoc _ _ _ h, List.countP_append, List.countP_cons, List.countP_nil]; omega
theorem spotsOf_le (f : Fl) (xs : List Ev) : (spotsOf f xs).length ≤ 1000 := by
  by_cases hok : flErr f = 0
  · obtain ⟨hbk, -⟩ := flErr_ok hok
    have hnb := nb_eq hok
    have := spotsOf_len (xs := xs) hok
    unfold spotsOf
    rw [if_pos hok, this]
    omega
  · unfold spotsOf
    rw [if_neg hok]; exact Nat.zero_le _
set_option maxRecDepth 20000 in
theorem goes_w (A : Option Addr) (n c : Nat) (xs : List Ev) (bike : Int) (w : World) (hx : EvsAt w A n xs) : Calls Try.prog 26 #[.slice A n c, .int .i64 bike] w fun e w' => e = .returned (.bool (goesP bike xs)) ∧ Bel w w' := by
  have hl := hx.1
  have hn := hx.2.1
  refine H_enter Try.func26 rfl Try.ntmps26 rfl ?_
  refine H_seq ?_
  refine R0 ?_
  refine xV (e_as (v := .bool _) (q0 rfl)) rfl rfl ?_
  refine XN ?_
  refine thenJ_normal ?_
  refine H_seq ?_
  refine R0 ?_
  refine xV (e_as (v := .bool _) (q0 rfl)) rfl rfl ?_
  refine XN ?_
  refine thenJ_normal ?_
  refine H_seq ?_
  refine H_seq ?_
  refine R0 ?_
  refine xV (e_as (v := .int _ _) (q0 rfl)) rfl rfl ?_
  refine XN ?_
  refine thenJ_normal ?_
  refine H_block ?_
  refine H_loop [5, 6, 7, 8, 9, 10, 11, 12, 13, 14, 15, 16, 17, 18, 19, 20, 21, 22, 23, 24, 25, 26, 27, 28, 29, 30, 31, 32, 33] (fun k : Nat => [(6, .int .i64 k), (5, .bool (goesP bike (xs.take k)))]) (fun _ => []) (fun k => k ≤ n) (fun k => n - k) 0 ⟨rfl, rfl, trivial⟩ (fun w hw => hw) rfl (Nat.zero_le _) ?_
  rintro k g hk
  refine H_seq ?_
  refine H_seq ?_
  refine R0 ?_
  refine xV (e_mv (v := .int _ _) (q0 rfl)) rfl rfl ?_
  refine xV (e_mv (v := .slice _ _ _) (q0 rfl)) rfl rfl ?_
  refine xV (e_len Try.underlying43 (q0 rfl)) rfl rfl ?_
  refine xV (e_lt (q0 rfl) (q0 rfl)) rfl rfl ?_
  refine XN ?_
  refine thenJ_normal ?_
  refine H_cond rfl (fun hlt => ?_) (fun hlt => ?_)
  · have hlt' : k < n := by simpa using hlt
    obtain ⟨b, off, e, rfl, hbl, he, hre⟩ := hx.at_ hlt'
    have hst : goesP bike (xs.take (k + 1)) = goesE bike (goesP bike (xs.take k)) e := by rw [take_snoc _ _ _ he, goes_snoc]
    refine H_skip ?_
    refine thenJ_normal ?_
    refine H_seq ?_
    refine H_block ?_
    refine H_seq ?_
    refine R0 ?_
    refine xV (e_mv (v := .slice _ _ _) (q0 rfl)) rfl rfl ?_
    refine xV (e_mv (v := .int _ _) (q0 rfl)) rfl rfl ?_
    refine xV (e_idx _ Try.underlying43 Try.sizeOf50 (q0 rfl) (q0 rfl) (fun _ => ⟨rfl, by omega⟩)) rfl rfl ?_
    refine xV (e_fld Try.underlying50 rfl Try.sizeOf3 rfl (q0 rfl)) rfl rfl ?_
    refine xV (eL Try.isAgg3 (q0 rfl)) rfl rfl ?_
    refine xV (e_mv (v := .int _ _) (q0 rfl)) rfl rfl ?_
    refine xV (e_eq (q0 rfl) (q0 rfl)) rfl rfl ?_
    refine xV (e_mv (v := .bool _) (q0 rfl)) rfl rfl ?_
    refine xVT (e_mv (v := .slice _ _ _) (q0 rfl)) rfl rfl rfl rfl ?_
    refine xVT (e_mv (v := .int _ _) (q0 rfl)) rfl rfl rfl rfl ?_
    refine xVT (e_idx _ Try.underlying43 Try.sizeOf50 (q1 rfl) (q1 rfl) (fun _ => ⟨rfl, by omega⟩)) rfl rfl rfl rfl ?_
    refine xVT (e_fld Try.underlying50 rfl Try.sizeOf3 rfl (q1 rfl)) rfl rfl rfl rfl ?_
    refine xVT (eL Try.isAgg3 (q1 rfl)) rfl rfl rfl rfl ?_
    refine xVT (e_ne (q1 rfl) (q0 rfl)) rfl rfl rfl rfl ?_
    refine xV (e_and (q0 rfl) rfl (fun h => by first | rfl | (rw [h]; rfl))) rfl rfl ?_
    refine XN ?_
    refine thenJ_normal ?_
    refine H_cond rfl (fun hb => ?_) (fun hb => ?_)
    · have hst' : goesP bike (xs.take (k + 1)) = decide (e.kind = 5) := by rw [hst]; unfold goesE; exact if_pos hb
      refine R0 ?_
      refine xV (e_mv (v := .slice _ _ _) (q0 rfl)) rfl rfl ?_
      refine xV (e_mv (v := .int _ _) (q0 rfl)) rfl rfl ?_
      refine xV (e_idx _ Try.underlying43 Try.sizeOf50 (q0 rfl) (q0 rfl) (fun _ => ⟨rfl, by omega⟩)) rfl rfl ?_
      refine xV (e_fld Try.underlying50 rfl Try.sizeOf3 rfl (q0 rfl)) rfl rfl ?_
      refine xV (eL Try.isAgg3 (q0 rfl)) rfl rfl ?_
      refine xV (e_eq (q0 rfl) (q0 rfl)) rfl rfl ?_
      refine xV (e_as (v := .bool _) (q0 rfl)) rfl rfl ?_
      refine XN ?_
      refine blockJ_normal ?_
      refine thenJ_normal ?_
      refine R0 ?_
      refine xV (e_mv (v := .int _ _) (q0 rfl)) rfl rfl ?_
      refine xV (e_add (q0 rfl) (q0 rfl) (fun _ => ⟨rfl, by omega, by omega⟩)) rfl rfl ?_
      refine xV (e_as (v := .int _ _) (q0 rfl)) rfl rfl ?_
      refine XN ?_
      exact loopJ_normal (k + 1) (by repeat (first | exact agree_self | exact agree_over | refine agree_upd rfl ?_ | refine agree_updL rfl ?_ | refine agree_over2 rfl ?_)) ⟨rfl, by rw [hst']; rfl, trivial⟩ (fun w hw => hw) rfl (by show k + 1 ≤ _; omega) (by show n - (k + 1) < n - k; omega)
    · have hst' : goesP bike (xs.take (k + 1)) = goesP bike (xs.take k) := by rw [hst]; unfold goesE; exact if_neg (by rw [show (decide (e.bike = bike) && !decide (e.kind = 10)) = false from hb]; decide)
      refine H_skip ?_
      refine blockJ_normal ?_
      refine thenJ_normal ?_
      refine R0 ?_
      refine xV (e_mv (v := .int _ _) (q0 rfl)) rfl rfl ?_
      refine xV (e_add (q0 rfl) (q0 rfl) (fun _ => ⟨rfl, by omega, by omega⟩)) rfl rfl ?_
      refine xV (e_as (v := .int _ _) (q0 rfl)) rfl rfl ?_
      refine XN ?_
      exact loopJ_normal (k + 1) (by repeat (first | exact agree_self | exact agree_over | refine agree_upd rfl ?_ | refine agree_updL rfl ?_ | refine agree_over2 rfl ?_)) ⟨rfl, by rw [hst']; rfl, trivial⟩ (fun w hw => hw) rfl (by show k + 1 ≤ _; omega) (by show n - (k + 1) < n - k; omega)
  · have hend : k = n := by simp at hlt; omega
    have hfin : goesP bike xs = goesP bike (xs.take k) := by rw [hend, ← hl, List.take_length]
    rw [hfin]
    refine H_exit ?_
    refine thenJ_exit ?_
    refine loopJ_exit ?_
    refine blockJ_hit ?_
    refine thenJ_normal ?_
    refine H_seq ?_
    refine R0 ?_
    refine xV (e_mv (v := .bool _) (q0 rfl)) rfl rfl ?_
    refine xV (e_as (v := .bool _) (q0 rfl)) rfl rfl ?_
    refine XN ?_
    refine thenJ_normal ?_
    refine H_ret ?_
    exact ret1 (v := .bool _) rfl rfl rfl fun w' hw => ⟨rfl, hw.1⟩
attribute [local irreducible] allOf flErr storyOf spotsOf accOf goesP
set_option maxHeartbeats 1000000 in
set_option maxRecDepth 20000 in
theorem spotsLaw_w (f : Fl) (a : FA) (A : Option Addr) (n c : Nat) (xs : List Ev) (w : World) (hf : FlAt w f a) (hx : EvsAt w A n xs) (hpl : PlOk xs) :
    Calls Try.prog 8 #[.agg (f.cells a).toArray, .slice A n c] w fun r w' => r = .returned (.bool true) ∧ Bel w w' := by
  have hl := hx.1
  refine H_enter Try.func8 rfl Try.ntmps8 rfl ?_
  refine H_seq ?_
  refine R0 ?_
  refine X_box (v := .agg _) rfl rfl fun b2 => ?_
  refine xV (e_as (v := .bool _) (q0 rfl)) rfl rfl ?_
  refine XN ?_
  refine thenJ_normal ?_
  refine H_seq ?_
  refine H_seq ?_
  refine R0 ?_
  refine xV (eS Try.isAgg42 Try.sizeOf42 (q0 rfl)) rfl rfl ?_
  refine xV (e_mv (v := .slice _ _ _) (q0 rfl)) rfl rfl ?_
  refine xC (en Try.call22 (ha2 (q0 rfl) (q0 rfl))) (fun _ w _ => few_w f a A n c w) rfl rfl ?_
  refine xV (e_not (q0 rfl)) rfl rfl ?_
  refine XN ?_
  refine thenJ_normal ?_
  refine H_cond rfl (fun h0 => ?_) (fun h0 => ?_)
  · refine H_seq ?_
    refine R0 ?_
    refine xC (en Try.call10 (ha0)) (fun _ w _ => awake_w w) rfl rfl ?_
    refine xV (e_as (v := .bool _) (q0 rfl)) rfl rfl ?_
    refine XN ?_
    refine thenJ_normal ?_
    refine H_ret ?_
    refine thenJ_ret ?_
    exact ret1 (v := .bool _) rfl rfl rfl fun w' hw => ⟨rfl, hw.1⟩
  · have hn := few_n h0
    subst hl
    have hr := story20 f hn
    have hl40 := all_len (f := f) xs
    have hal := accOf_len f xs
    have hspl := spotsOf_le f xs
    have hsh : ∀ r ∈ allOf f xs, r.legs.length ≤ 100000 ∧ r.pauses.length ≤ 100000 := fun r hr => by have := short_of f hn r hr; omega
    refine H_skip ?_
    refine thenJ_normal ?_
    refine H_seq ?_
    refine R0 ?_
    refine xV (eS Try.isAgg42 Try.sizeOf42 (q0 rfl)) rfl rfl ?_
    refine xV (e_mv (v := .slice _ _ _) (q0 rfl)) rfl rfl ?_
    refine xCX (en Try.call23 (ha2 (q0 rfl) (q0 rfl))) (fun w hw => all_w f a A _ c xs w (hf.mem hw) (hx.mem hw) (by omega) hpl hr) rfl (fun _ => rfl) fun x => ?_
    refine xV (e_mv (q0 rfl)) rfl rfl ?_
    refine xV (e_ext (q0 rfl) rfl) rfl rfl ?_
    refine xV (e_ext (q0 rfl) rfl) rfl rfl ?_
    refine xV (e_as (v := .slice _ _ _) (q0 rfl)) rfl rfl ?_
    refine xV (e_as (v := .int _ _) (q0 rfl)) rfl rfl ?_
    refine XN ?_
    refine thenJ_normal ?_
    refine H_seq ?_
    refine R0 ?_
    refine xV (eS Try.isAgg42 Try.sizeOf42 (q0 rfl)) rfl rfl ?_
    refine xV (e_mv (v := .slice _ _ _) (q0 rfl)) rfl rfl ?_
    refine xCX (en Try.call25 (ha2 (q0 rfl) (q0 rfl))) (fun w hw => spots_w f a A _ c xs w (hf.mem hw) (hx.mem hw) (by omega) hpl) rfl (fun _ => rfl) fun sp => ?_
    refine xV (e_mv (q0 rfl)) rfl rfl ?_
    refine xV (e_ext (q0 rfl) rfl) rfl rfl ?_
    refine xV (e_ext (q0 rfl) rfl) rfl rfl ?_
    refine xV (e_as (v := .slice _ _ _) (q0 rfl)) rfl rfl ?_
    refine xV (e_as (v := .int _ _) (q0 rfl)) rfl rfl ?_
    refine XN ?_
    refine thenJ_normal ?_
    refine H_seq ?_
    refine R0 ?_
    refine xV (eS Try.isAgg42 Try.sizeOf42 (q0 rfl)) rfl rfl ?_
    refine xV (e_mv (v := .slice _ _ _) (q0 rfl)) rfl rfl ?_
    refine xCX (en Try.call24 (ha2 (q0 rfl) (q0 rfl))) (fun w hw => accepted_w f a A _ c xs w (hf.mem hw) (hx.mem hw) (by omega) hpl) rfl (fun _ => rfl) fun ac => ?_
    refine xV (e_mv (q0 rfl)) rfl rfl ?_
    refine xV (e_ext (q0 rfl) rfl) rfl rfl ?_
    refine xV (e_ext (q0 rfl) rfl) rfl rfl ?_
    refine xV (e_as (v := .slice _ _ _) (q0 rfl)) rfl rfl ?_
    refine xV (e_as (v := .int _ _) (q0 rfl)) rfl rfl ?_
    refine XN ?_
    refine thenJ_normal ?_
    refine H_seq ?_
    refine H_seq ?_
    refine R0 ?_
    refine xV (e_mv (v := .int _ _) (q0 rfl)) rfl rfl ?_
    refine xV (e_mv (v := .int _ _) (q0 rfl)) rfl rfl ?_
    refine xV (e_ne (q0 rfl) (q0 rfl)) rfl rfl ?_
    refine XN ?_
    refine thenJ_normal ?_
    refine H_cond rfl (fun h1 => ?_) (fun h1 => ?_)
    · exfalso
      simp at h1
    · refine H_rebase rfl fun w1 hw1 => ?_
      have hB : Bel w w1 := hw1.1
      have hrd := rds_out x hw1 2 3 rfl rfl (by omega) hsh
      have hsp : SlAt w1 4 Sp.cells sp.1 (spotsOf f xs).length (spotsOf f xs) := slAt_row hw1 (j := 1) rfl (fun _ => rfl) (by omega)
      have hac : EvsAt w1 ac.1 (accOf f xs).length (accOf f xs) := slAt_row hw1 (j := 0) rfl (fun _ => rfl) (by omega)
      clear hw1
      obtain ⟨⟨A1, c1, ys⟩, hys⟩ := x
      obtain ⟨sA, sc⟩ := sp
      obtain ⟨aA, ac⟩ := ac
      simp only at hrd hsp hac hys
      have hcnt : ys.countP (fun y => y.r.open_) = (spotsOf f xs).countP inRide := by
        rw [← counts_all, ← hys, List.countP_map]; rfl
      have hyn : ys.length ≤ 40 := by have := congrArg List.length hys; simp at this; omega
      have hyo : ∀ y ∈ ys, y.r ∈ allOf f xs := fun y hy => by rw [← hys]; exact List.mem_map_of_mem hy
      have hopen : ∀ y ∈ ys, y.r.open_ = true → ∃ (b : Nat) (x : Sp), lastBike y.r.legs = b ∧ (spotsOf f xs)[b]? = some x ∧ x.where_ = 3 ∧ x.ride = y.r.id ∧ x.paused = goesP b (accOf f xs) := fun y hy ho => open_ride_at (ok_of (hyo y hy)) xs (hyo y hy) ho
      have hlegs : ∀ y ∈ ys, 0 < y.r.legs.length ∧ y.r.legs.length ≤ 100000 := fun y hy => ⟨legs_pos (hyo y hy), (hsh _ (hyo y hy)).1⟩
      generalize spotsOf f xs = S at *
      generalize accOf f xs = acc at *
      refine H_skip ?_
      refine thenJ_normal ?_
      refine H_seq ?_
      refine R0 ?_
      refine xV (e_as (v := .int _ _) (q0 rfl)) rfl rfl ?_
      refine XN ?_
      refine thenJ_normal ?_
      refine H_seq ?_
      refine H_seq ?_
      refine R0 ?_
      refine xV (e_as (v := .int _ _) (q0 rfl)) rfl rfl ?_
      refine XN ?_
      refine thenJ_normal ?_
      refine H_block ?_
      refine H_loop [4, 11, 12, 13, 14, 42, 43, 44, 45, 46, 47, 48, 49, 50, 51, 52, 53, 54, 55, 56, 57, 58, 59, 60, 61, 62, 63, 64, 65, 66, 67, 68, 69, 70, 71, 72, 73, 74, 75, 76, 77, 78, 79, 80, 81, 82, 83, 84, 85, 86, 87, 88, 89, 90, 91, 92, 93, 94, 95, 96, 97, 98, 99, 100, 101, 102, 103, 104, 105, 106] (fun k : Nat => [(12, .int .i64 k), (11, .int .i64 (((ys.take k).countP fun y => y.r.open_) : Nat))]) (fun _ => []) (fun k => k ≤ ys.length) (fun k => ys.length - k) 0 ⟨rfl, rfl, trivial⟩ (fun w hw => hw) rfl (Nat.zero_le _) ?_
      rintro k g hk
      have hcl : (ys.take k).countP (fun y => y.r.open_) ≤ 40 := Nat.le_trans List.countP_le_length (by rw [List.length_take]; omega)
      refine H_seq ?_
      refine H_seq ?_
      refine R0 ?_
      refine xV (e_mv (v := .int _ _) (q0 rfl)) rfl rfl ?_
      refine xV (e_mv (v := .slice _ _ _) (q0 rfl)) rfl rfl ?_
      refine xV (e_len Try.underlying32 (q0 rfl)) rfl rfl ?_
      refine xV (e_lt (q0 rfl) (q0 rfl)) rfl rfl ?_
      refine XN ?_
      refine thenJ_normal ?_
      refine H_cond rfl (fun hlt => ?_) (fun hlt => ?_)
      · have hlt' : k < ys.length := by simpa using hlt
        obtain ⟨b, off, y, rfl, hbl, hy, hry⟩ := hrd.1.at_ hlt'
        have hym := List.mem_of_getElem? hy
        have hst := count_snoc (fun y : RX => y.r.open_) hy
        obtain ⟨r, ⟨lA, lc, pA, pc⟩⟩ := y
        simp only at hst
        refine H_skip ?_
        refine thenJ_normal ?_
        refine H_seq ?_
        refine H_block ?_
        refine H_seq ?_
        refine R0 ?_
        refine xV (e_mv (v := .slice _ _ _) (q0 rfl)) rfl rfl ?_
        refine xV (e_mv (v := .int _ _) (q0 rfl)) rfl rfl ?_
        refine xV (e_idx _ Try.underlying32 Try.sizeOf27 (q0 rfl) (q0 rfl) (fun _ => ⟨rfl, by omega⟩)) rfl rfl ?_
        refine xV (eS Try.isAgg27 Try.sizeOf27 (q0 rfl)) rfl rfl ?_
        refine X_alloc Try.zeroValue27 rfl fun b13 => ?_
        refine X_st (v := .agg _) rfl rfl Try.sizeOf27 ?_
        refine XN ?_
        refine thenJ_normal ?_
        refine H_seq ?_
        refine H_seq ?_
        refine R0 ?_
        refine xV (e_fld Try.underlying27 rfl Try.sizeOf4 rfl (q0 rfl)) rfl rfl ?_
        refine xV (eL Try.isAgg4 (q0 rfl)) rfl rfl ?_
        refine xV (e_not (q0 rfl)) rfl rfl ?_
        refine XN ?_
        refine thenJ_normal ?_
        refine H_cond rfl (fun ho => ?_) (fun ho => ?_)
        · have ho' : r.open_ = false := by simpa using ho
          rw [ho', if_neg (by decide), Nat.add_zero] at hst
          refine H_exit ?_
          refine thenJ_exit ?_
          refine blockJ_hit ?_
          refine thenJ_normal ?_
          refine R0 ?_
          refine xV (e_mv (v := .int _ _) (q0 rfl)) rfl rfl ?_
          refine xV (e_add (q0 rfl) (q0 rfl) (fun _ => ⟨rfl, by omega, by omega⟩)) rfl rfl ?_
          refine xV (e_as (v := .int _ _) (q0 rfl)) rfl rfl ?_
          refine XN ?_
          exact loopJ_normal (k + 1) (by repeat (first | exact agree_self | exact agree_over | refine agree_upd rfl ?_ | refine agree_updL rfl ?_ | refine agree_over2 rfl ?_)) ⟨rfl, by rw [hst]; rfl, trivial⟩ (fun w hw => hw.tail) rfl (by show k + 1 ≤ _; omega) (by show ys.length - (k + 1) < ys.length - k; omega)
        · have ho' : r.open_ = true := by simpa using ho
          rw [ho', if_pos rfl] at hst
          obtain ⟨bk, z, hbk, hz, hz3, hzr, hzp⟩ := hopen _ hym ho'
          have hlp := hlegs _ hym
          have hra := (hrd.2 _ hym).legs
          simp only at hlp hra hbk hzr
          obtain ⟨m, hm⟩ : ∃ m, r.legs.length = m + 1 := ⟨r.legs.length - 1, by omega⟩
          have hmi : (r.legs.length : Int) - 1 = (m : Int) := by omega
          have hml : m < r.legs.length := by omega
          obtain ⟨b', off', g', rfl, hbl', hg', hrg'⟩ := hra.at_ hml
          have hgb : g'.bike = (bk : Int) := by
            rw [← hbk]
            unfold lastBike
            rw [show r.legs.length - 1 = m by omega, List.getD_eq_getElem?_getD, hg']; rfl
          have hbS : bk < S.length := (List.getElem?_eq_some_iff.1 hz).1
          obtain ⟨sb, so, z', rfl, hsl, hz', hrz⟩ := hsp.at_ hbS
          have hzz : z' = z := by rw [hz] at hz'; cases hz'; rfl
          subst hzz
          refine H_skip ?_
          refine thenJ_normal ?_
          refine H_seq ?_
          refine R0 ?_
          refine xV (e_mv (v := .int _ _) (q0 rfl)) rfl rfl ?_
          refine xV (e_add (q0 rfl) (q0 rfl) (fun _ => ⟨rfl, by omega, by omega⟩)) rfl rfl ?_
          refine xV (e_as (v := .int _ _) (q0 rfl)) rfl rfl ?_
          refine XN ?_
          refine thenJ_normal ?_
          refine H_seq ?_
          refine H_seq ?_
          refine R0 ?_
          refine xV (e_fld Try.underlying27 rfl Try.sizeOf24 rfl (q0 rfl)) rfl rfl ?_
          refine xV (eL Try.isAgg24 (q0 rfl)) rfl rfl ?_
          refine xV (e_len Try.underlying24 (q0 rfl)) rfl rfl ?_
          refine xV (e_eq (q0 rfl) (q0 rfl)) rfl rfl ?_
          refine XN ?_
          refine thenJ_normal ?_
          refine H_cond rfl (fun hl0 => ?_) (fun hl0 => ?_)
          · exfalso
            have h2 : decide ((r.legs.length : Int) = 0) = true := hl0
            have h3 : (r.legs.length : Int) = 0 := of_decide_eq_true h2
            omega
          · refine H_skip ?_
            refine thenJ_normal ?_
            refine H_seq ?_
            refine R0 ?_
            refine xV (e_fld Try.underlying27 rfl Try.sizeOf24 rfl (q0 rfl)) rfl rfl ?_
            refine xV (eL Try.isAgg24 (q0 rfl)) rfl rfl ?_
            refine xV (e_fld Try.underlying27 rfl Try.sizeOf24 rfl (q0 rfl)) rfl rfl ?_
            refine xV (eL Try.isAgg24 (q0 rfl)) rfl rfl ?_
            refine xV (e_len Try.underlying24 (q0 rfl)) rfl rfl ?_
            refine xV (e_sub (r := ((m : Nat) : Int)) (q0 rfl) (q0 rfl) (fun _ => ⟨hmi, by omega, by omega⟩)) rfl rfl ?_
            refine xV (e_idx m Try.underlying24 Try.sizeOf52 (q0 rfl) (q0 rfl) (fun _ => ⟨rfl, hml⟩)) rfl rfl ?_
            refine xV (e_fld Try.underlying52 rfl Try.sizeOf3 rfl (q0 rfl)) rfl rfl ?_
            refine xV (e_ld (v := .int .i64 (bk : Int)) Try.isAgg3 (q0 rfl) (by exact rc (j := 0) hrg' hbl' (by show some (Value.int .i64 g'.bike) = _; rw [hgb]))) rfl rfl ?_
            refine xV (e_as (v := .int _ _) (q0 rfl)) rfl rfl ?_
            refine XN ?_
            refine thenJ_normal ?_
            refine H_seq ?_
            refine R1 rfl (by decide +kernel) ?_
            refine xV (e_mv (v := .int _ _) (q0 rfl)) rfl rfl ?_
            refine xV (e_lt (q0 rfl) (q0 rfl)) rfl rfl ?_
            refine xV (e_mv (v := .bool _) (q0 rfl)) rfl rfl ?_
            refine xVF (e_mv (v := .int _ _) (q0 rfl)) rfl rfl rfl rfl ?_
            refine xVF (e_mv (v := .slice _ _ _) (q0 rfl)) rfl rfl rfl rfl ?_
            refine xVF (e_len Try.underlying54 (q1 rfl)) rfl rfl rfl rfl ?_
            refine xVF (e_ge (q1 rfl) (q1 rfl)) rfl rfl rfl rfl ?_
            refine xV (e_or (q0 rfl) rfl (fun h => by first | rfl | (rw [h]; rfl))) rfl rfl ?_
            refine xV (e_mv (v := .bool _) (q0 rfl)) rfl rfl ?_
            refine xVF (e_mv (v := .slice _ _ _) (q0 rfl)) rfl rfl rfl rfl ?_
            refine xVF (e_mv (v := .int _ _) (q0 rfl)) rfl rfl rfl rfl ?_
            refine xVF (e_idx bk Try.underlying54 Try.sizeOf58 (q1 rfl) (q1 rfl) (fun _ => ⟨rfl, hbS⟩)) rfl rfl rfl rfl ?_
            refine xVF (e_fld Try.underlying58 rfl Try.sizeOf3 rfl (q1 rfl)) rfl rfl rfl rfl ?_
            refine xVF (e_ld (v := .int .i64 z'.where_) Try.isAgg3 (q1 rfl) (by exact rc (j := 0) hrz hsl rfl)) rfl rfl rfl rfl ?_
            refine xVF (e_ne (q1 rfl) (q0 rfl)) rfl rfl rfl rfl ?_
            refine xV (e_or (q0 rfl) rfl (fun h => by first | rfl | (rw [h]; rfl))) rfl rfl ?_
            refine xV (e_mv (v := .bool _) (q0 rfl)) rfl rfl ?_
            refine xVF (e_mv (v := .slice _ _ _) (q0 rfl)) rfl rfl rfl rfl ?_
            refine xVF (e_mv (v := .int _ _) (q0 rfl)) rfl rfl rfl rfl ?_
            refine xVF (e_idx bk Try.underlying54 Try.sizeOf58 (q1 rfl) (q1 rfl) (fun _ => ⟨rfl, hbS⟩)) rfl rfl rfl rfl ?_
            refine xVF (e_fld Try.underlying58 rfl Try.sizeOf3 rfl (q1 rfl)) rfl rfl rfl rfl ?_
            refine xVF (e_ld (v := .int .i64 z'.ride) Try.isAgg3 (q1 rfl) (by exact rc (j := 2) hrz hsl rfl)) rfl rfl rfl rfl ?_
            refine xVF (e_fld Try.underlying27 rfl Try.sizeOf3 rfl (q0 rfl)) rfl rfl rfl rfl ?_
            refine xVF (eL Try.isAgg3 (q1 rfl)) rfl rfl rfl rfl ?_
            refine xVF (e_ne (q1 rfl) (q1 rfl)) rfl rfl rfl rfl ?_
            refine xV (e_or (q0 rfl) rfl (fun h => by first | rfl | (rw [h]; rfl))) rfl rfl ?_
            refine xV (e_mv (v := .bool _) (q0 rfl)) rfl rfl ?_
            refine xVF (e_mv (v := .slice _ _ _) (q0 rfl)) rfl rfl rfl rfl ?_
            refine xVF (e_mv (v := .int _ _) (q0 rfl)) rfl rfl rfl rfl ?_
            refine xVF (e_idx bk Try.underlying54 Try.sizeOf58 (q1 rfl) (q1 rfl) (fun _ => ⟨rfl, hbS⟩)) rfl rfl rfl rfl ?_
            refine xVF (e_fld Try.underlying58 rfl Try.sizeOf4 rfl (q1 rfl)) rfl rfl rfl rfl ?_
            refine xVF (e_ld (v := .bool z'.paused) Try.isAgg4 (q1 rfl) (by exact rc (j := 3) hrz hsl rfl)) rfl rfl rfl rfl ?_
            refine xVF (e_mv (v := .slice _ _ _) (q0 rfl)) rfl rfl rfl rfl ?_
            refine xVF (e_mv (v := .int _ _) (q0 rfl)) rfl rfl rfl rfl ?_
            refine xCF (en Try.call26 (ha2 (q1 (v := .slice _ _ _) rfl) (q1 (v := .int _ _) rfl))) (fun _ w hw => goes_w aA acc.length ac acc (bk : Int) w (hac.mem hw)) rfl rfl rfl rfl ?_
            refine xVF (e_neb Try.underlying4 (q1 rfl) (q1 rfl)) rfl rfl rfl rfl ?_
            refine xV (e_or (q0 rfl) rfl (fun h => by first | rfl | (rw [h]; rfl))) rfl rfl ?_
            refine XN ?_
            refine thenJ_normal ?_
            refine H_cond rfl (fun hb => ?_) (fun hb => ?_)
            · exfalso
              have h2 : ((((decide ((bk : Int) < 0) || decide ((S.length : Int) ≤ (bk : Int))) || !decide (z'.where_ = 3)) || !decide (z'.ride = r.id)) || !(z'.paused == goesP (bk : Int) acc)) = true := hb
              rw [hz3, hzr, hzp] at h2
              simp at h2
              omega
            · refine H_skip ?_
              refine blockJ_normal ?_
              refine thenJ_normal ?_
              refine R0 ?_
              refine xV (e_mv (v := .int _ _) (q0 rfl)) rfl rfl ?_
              refine xV (e_add (q0 rfl) (q0 rfl) (fun _ => ⟨rfl, by omega, by omega⟩)) rfl rfl ?_
              refine xV (e_as (v := .int _ _) (q0 rfl)) rfl rfl ?_
              refine XN ?_
              exact loopJ_normal (k + 1) (by repeat (first | exact agree_self | exact agree_over | refine agree_upd rfl ?_ | refine agree_updL rfl ?_ | refine agree_over2 rfl ?_)) ⟨rfl, by rw [hst]; rfl, trivial⟩ (fun w hw => hw.tail) rfl (by show k + 1 ≤ _; omega) (by show ys.length - (k + 1) < ys.length - k; omega)
      · have hend : k = ys.length := by simp at hlt; omega
        subst hend
        rw [List.take_length] at hcl
        simp only [List.take_length]
        rw [hcnt] at hcl ⊢
        refine H_exit ?_
        refine thenJ_exit ?_
        refine loopJ_exit ?_
        refine blockJ_hit ?_
        refine thenJ_normal ?_
        refine H_seq ?_
        refine H_seq ?_
        refine R0 ?_
        refine xV (e_as (v := .int _ _) (q0 rfl)) rfl rfl ?_
        refine XN ?_
        refine thenJ_normal ?_
        refine H_block ?_
        refine H_loop [11, 15, 107, 108, 109, 110, 111, 112, 113, 114, 115, 116, 117, 118, 119, 120] (fun i : Nat => [(15, .int .i64 i), (11, .int .i64 ((S.countP inRide : Nat) - ((S.take i).countP inRide : Nat)))]) (fun _ => []) (fun i => i ≤ S.length) (fun i => S.length - i) 0 ⟨rfl, (show Value.int .i64 ((S.countP inRide : Nat) : Int) = Value.int .i64 (((S.countP inRide : Nat) : Int) - (((S.take 0).countP inRide : Nat) : Int)) by simp), trivial⟩ (fun w hw => hw) rfl (Nat.zero_le _) ?_
        rintro i g2 hi
        have hil : (S.take i).countP inRide ≤ S.countP inRide := (List.take_sublist i S).countP_le
        refine H_seq ?_
        refine H_seq ?_
        refine R0 ?_
        refine xV (e_mv (v := .int _ _) (q0 rfl)) rfl rfl ?_
        refine xV (e_mv (v := .slice _ _ _) (q0 rfl)) rfl rfl ?_
        refine xV (e_len Try.underlying54 (q0 rfl)) rfl rfl ?_
        refine xV (e_lt (q0 rfl) (q0 rfl)) rfl rfl ?_
        refine XN ?_
        refine thenJ_normal ?_
        refine H_cond rfl (fun hlt2 => ?_) (fun hlt2 => ?_)
        · have hlt2' : i < S.length := by simpa using hlt2
          obtain ⟨sb, so, z, rfl, hsl, hz, hrz⟩ := hsp.at_ hlt2'
          have hst := count_snoc inRide hz
          refine H_skip ?_
          refine thenJ_normal ?_
          refine H_seq ?_
          refine H_block ?_
          refine H_seq ?_
          refine R0 ?_
          refine xV (e_mv (v := .slice _ _ _) (q0 rfl)) rfl rfl ?_
          refine xV (e_mv (v := .int _ _) (q0 rfl)) rfl rfl ?_
          refine xV (e_idx _ Try.underlying54 Try.sizeOf58 (q0 rfl) (q0 rfl) (fun _ => ⟨rfl, by omega⟩)) rfl rfl ?_
          refine xV (e_fld Try.underlying58 rfl Try.sizeOf3 rfl (q0 rfl)) rfl rfl ?_
          refine xV (eL Try.isAgg3 (q0 rfl)) rfl rfl ?_
          refine xV (e_eq (q0 rfl) (q0 rfl)) rfl rfl ?_
          refine XN ?_
          refine thenJ_normal ?_
          refine H_cond rfl (fun hb => ?_) (fun hb => ?_)
          · rw [show inRide z = true from hb, if_pos rfl] at hst
            refine R0 ?_
            refine xV (e_mv (v := .int _ _) (q0 rfl)) rfl rfl ?_
            refine xV (e_sub (q0 rfl) (q0 rfl) (fun _ => ⟨rfl, by omega, by omega⟩)) rfl rfl ?_
            refine xV (e_as (v := .int _ _) (q0 rfl)) rfl rfl ?_
            refine XN ?_
            refine blockJ_normal ?_
            refine thenJ_normal ?_
            refine R0 ?_
            refine xV (e_mv (v := .int _ _) (q0 rfl)) rfl rfl ?_
            refine xV (e_add (q0 rfl) (q0 rfl) (fun _ => ⟨rfl, by omega, by omega⟩)) rfl rfl ?_
            refine xV (e_as (v := .int _ _) (q0 rfl)) rfl rfl ?_
            refine XN ?_
            exact loopJ_normal (i + 1) (by repeat (first | exact agree_self | exact agree_over | refine agree_upd rfl ?_ | refine agree_updL rfl ?_ | refine agree_over2 rfl ?_)) ⟨rfl, by rw [hst]; show Value.int .i64 _ = Value.int .i64 _; congr 1; omega, trivial⟩ (fun w hw => hw) rfl (by show i + 1 ≤ _; omega) (by show S.length - (i + 1) < S.length - i; omega)
          · rw [show inRide z = false from hb, if_neg (by decide), Nat.add_zero] at hst
            refine H_skip ?_
            refine blockJ_normal ?_
            refine thenJ_normal ?_
            refine R0 ?_
            refine xV (e_mv (v := .int _ _) (q0 rfl)) rfl rfl ?_
            refine xV (e_add (q0 rfl) (q0 rfl) (fun _ => ⟨rfl, by omega, by omega⟩)) rfl rfl ?_
            refine xV (e_as (v := .int _ _) (q0 rfl)) rfl rfl ?_
            refine XN ?_
            exact loopJ_normal (i + 1) (by repeat (first | exact agree_self | exact agree_over | refine agree_upd rfl ?_ | refine agree_updL rfl ?_ | refine agree_over2 rfl ?_)) ⟨rfl, by rw [hst]; rfl, trivial⟩ (fun w hw => hw) rfl (by show i + 1 ≤ _; omega) (by show S.length - (i + 1) < S.length - i; omega)
        · have hend2 : i = S.length := by simp at hlt2; omega
          subst hend2
          rw [List.take_length]
          refine H_exit ?_
          refine thenJ_exit ?_
          refine loopJ_exit ?_
          refine blockJ_hit ?_
          refine thenJ_normal ?_
          refine H_seq ?_
          refine R0 ?_
          refine xV (e_mv (v := .int _ _) (q0 rfl)) rfl rfl ?_
          refine xV (e_eq (q0 rfl) (q0 rfl)) rfl rfl ?_
          refine xV (e_mv (v := .bool _) (q0 rfl)) rfl rfl ?_
          refine xCT (en Try.call10 (ha0)) (fun _ w _ => awake_w w) rfl rfl rfl rfl ?_
          refine xV (e_and (q0 rfl) rfl (fun h => by first | rfl | (rw [h]; rfl))) rfl rfl ?_
          refine xV (e_as (v := .bool _) (q0 rfl)) rfl rfl ?_
          refine XN ?_
          refine thenJ_normal ?_
          refine H_ret ?_
          exact ret1 (v := .bool _) rfl rfl rfl fun w' hw => ⟨ret_bool (by simp), hB.trans hw.1⟩

end Go.Proofs.Rid
