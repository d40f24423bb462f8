/-
  The walks: an event's effect.
-/
import Derived.Test.YtnikolfakmgbbaaCj
import Derived.Test.YtnikolfakmgbbaaSv
namespace Go.Proofs.Cus
open Go Go.RowKit Go.Proofs.E

theorem plain_erase (ps : List (Int × Nat × PT)) (r : Int) : (ps.eraseP fun p => p.1 == r).map (fun p => (p.1, p.2.2)) = (ps.map fun p => (p.1, p.2.2)).eraseP fun p => p.1 == r := by
  induction ps with
  | nil => rfl
  | cons p ps ih =>
    by_cases h : p.1 == r
    · simp [h]
    · simp only [List.map_cons]
      rw [List.eraseP_cons_of_neg (by simpa using h), List.eraseP_cons_of_neg (by simpa using h), List.map_cons, ih]
theorem leaveT_plain (t : TS) (k : Nat) (to : Sp) : (leaveT t k to).plain = leaveP t.plain k to := by
  unfold leaveT leaveP TS.plain TS.open_
  simp only
  congr 1
  split
  · exact plain_erase _ _
  · rfl
theorem set_plain {ps : List (Int × Nat × PT)} (hn : ((ps.map fun p => (p.1, p.2.2)).map (·.1)).Nodup) {q : Nat} {p : Int × Nat × PT} (hq : ps[q]? = some p) (v : PT) : (ps.set q (p.1, p.2.1, v)).map (fun p => (p.1, p.2.2)) = setTrip (ps.map fun p => (p.1, p.2.2)) p.1 v := by
  obtain ⟨hql, hqe⟩ := List.getElem?_eq_some_iff.1 hq
  apply List.ext_getElem?
  intro i
  unfold setTrip
  rw [List.map_set, List.getElem?_set]
  simp only [List.length_map, List.getElem?_map, Option.map_map]
  by_cases e : q = i
  · subst e
    simp [hql, hqe]
  · simp only [e, if_false]
    cases hi : ps[i]? with
    | none => rfl
    | some r =>
      obtain ⟨hil, hie⟩ := List.getElem?_eq_some_iff.1 hi
      simp only [Option.map_some, Function.comp, Option.some.injEq]
      rw [if_neg (fun h => e ?_)]
      have h1 : r.1 = p.1 := by simpa using h
      have := List.pairwise_iff_getElem.1 hn
      rcases Nat.lt_trichotomy q i with h2 | h2 | h2
      · exact absurd (by simp [hqe, hie, h1]) (this q i (by simpa using hql) (by simpa using hil) h2)
      · exact h2
      · exact absurd (by simp [hqe, hie, h1]) (this i q (by simpa using hil) (by simpa using hql) h2)
theorem used_put (l : List Int) (id : Int) : mput (usedPairs l) id (.bool true) = usedPairs (usePut l id) := by
  have key : ∀ l : List Int, mput (usedPairs l) id (.bool true) = usedPairs (if id ∈ l then l else l ++ [id]) := by
    intro l
    induction l with
    | nil => rfl
    | cons x l ih =>
      by_cases hx : x = id
      · subst hx
        simp [usedPairs, mput]
      · have hx' : ¬ id = x := fun e => hx e.symm
        simp only [usedPairs, List.map_cons, mput] at ih ⊢
        rw [if_neg (by simpa using hx), ih]
        by_cases hm : id ∈ l
        · simp [hm]
        · simp [hm, hx']
  rw [key]
  unfold usePut
  by_cases hm : id ∈ l
  · rw [if_pos hm, if_pos (usedP_mem.2 hm)]
  · rw [if_neg hm, if_neg (fun h => hm (usedP_mem.1 h))]
theorem look_get {t : TS} {id : Int} {v : PT} (h : lookP t.plain.open_ id = some v) : ∃ (q : Nat) (p : Int × Nat × PT), t.ps[q]? = some p ∧ t.ps.find? (fun y => y.1 == id) = some p ∧ p.1 = id ∧ p.2.2 = v := by
  have h' : lookP (TS.mk t.spots t.ps t.used).open_ id = some v := h
  rw [look_plain] at h'
  cases hf : t.ps.find? (fun p => p.1 == id) with
  | none => rw [hf] at h'; cases h'
  | some p =>
    rw [hf] at h'
    simp only [Option.map_some, Option.some.injEq] at h'
    obtain ⟨q, hq⟩ := List.mem_iff_getElem?.1 (List.mem_of_find?_eq_some hf)
    exact ⟨q, p, hq, rfl, by simpa using List.find?_some hf, h'⟩

theorem dok_leave {s : PS} {e : Ev} {k : Nat} (hk : e.bike = k) : (e.kind = 1 → doP s e = leaveP s k ⟨1, e.place, 0, false⟩) ∧ (e.kind = 2 → doP s e = leaveP s k ⟨2, e.place, 0, false⟩) ∧ (e.kind = 7 → doP s e = leaveP s k ⟨4, e.place, 0, false⟩) ∧ (e.kind = 8 → doP s e = leaveP s k ⟨5, 0, 0, false⟩) ∧ (e.kind = 9 → doP s e = leaveP s k ⟨6, 0, 0, false⟩) ∧ ((e.kind < 1 ∨ 9 < e.kind) → doP s e = s) := by
  have hkt : e.bike.toNat = k := by omega
  refine ⟨fun h => ?_, fun h => ?_, fun h => ?_, fun h => ?_, fun h => ?_, fun h => ?_⟩ <;> unfold doP <;> simp only [hkt]
  · rw [if_pos h]
  · rw [if_neg (by omega), if_pos h]
  · rw [if_neg (by omega), if_neg (by omega), if_neg (by omega), if_neg (by omega), if_neg (by omega), if_pos h]
  · rw [if_neg (by omega), if_neg (by omega), if_neg (by omega), if_neg (by omega), if_neg (by omega), if_neg (by omega), if_pos h]
  · rw [if_neg (by omega), if_neg (by omega), if_neg (by omega), if_neg (by omega), if_neg (by omega), if_neg (by omega), if_neg (by omega), if_pos h]
  · rw [if_neg (by omega), if_neg (by omega), if_neg (by omega), if_neg (by omega), if_neg (by omega), if_neg (by omega), if_neg (by omega), if_neg (by omega)]

theorem pz_ex {t : TS} {n k : Nat} {x : Sp} {tr : List Int} {e : Ev} (hI : PInv n t.plain) (hk : e.bike = k) (hx : t.spots[k]? = some x) (hg : t.plain.spots.getD e.bike.toNat default = x) (h56 : e.kind = 5 ∨ e.kind = 6) (hc : checkP tr t.plain e = 0) :
    ∃ (q : Nat) (p : Int × Nat × PT), t.ps[q]? = some p ∧ t.ps.find? (fun y => y.1 == x.ride) = some p ∧ (TS.mk (t.spots.set k { x with paused := decide (e.kind = 5) }) (t.ps.set q (p.1, p.2.1, { p.2.2 with paused := decide (e.kind = 5) })) t.used).plain = doP t.plain e := by
  rw [ck5 h56 hg] at hc
  split at hc
  · cases hc
  · rename_i hw3
    have hw3' : x.where_ = 3 := Decidable.of_not_not hw3
    obtain ⟨v, hv, _⟩ := hI.spot k x hx hw3'
    have hlk := lookP_of hI.keys hv
    obtain ⟨q, p, hq, hf, hp1, hp2⟩ := look_get hlk
    refine ⟨q, p, hq, hf, ?_⟩
    have hkt : e.bike.toNat = k := by omega
    unfold doP
    simp only
    rw [if_neg (by omega), if_neg (by omega), if_neg (by omega), if_neg (by omega), if_pos h56, hg, hlk, hkt]
    unfold TS.plain TS.open_
    simp only
    rw [set_plain hI.keys hq, hp1, hp2]

attribute [local irreducible] tripPtr
set_option maxRecDepth 20000 in
theorem do_w {f : Fl} {a : FA} {s : SA} {t : TS} {w0 w : World} {L : List E.Item} {tr : List Int} (e : Ev) (hw : Mem w0 (stL f a s t ++ L) w) (hmk : marks L = []) (hI : PInv s.n t.plain) (hb : 0 ≤ e.bike ∧ e.bike < s.n) (hc : checkP tr t.plain e = 0) :
    Calls Try.prog 70 #[.pointer (some ⟨s.sb, 0, none⟩), .agg e.cells.toArray] w fun r w' => ∃ t' : { t' : TS // t'.plain = doP t.plain e }, r = .returned (.tuple #[]) ∧ Mem w0 (stL f a s t'.1 ++ L) w' := by
  obtain ⟨k, hk⟩ : ∃ k : Nat, e.bike = k := ⟨e.bike.toNat, by omega⟩
  have hl : t.spots.length = s.n := hI.len
  have hkn : k < s.n := by omega
  obtain ⟨x, hx⟩ : ∃ x, t.spots[k]? = some x := ⟨_, List.getElem?_eq_getElem (by omega)⟩
  have hg : t.plain.spots.getD e.bike.toNat default = x := by
    rw [hk, Int.toNat_natCast, List.getD_eq_getElem?_getD]; show (t.spots[k]?).getD default = x; rw [hx]; rfl
  obtain ⟨d1, d2, d7, d8, d9, d0⟩ := dok_leave (s := t.plain) hk
  obtain ⟨ed, es, eat, el, ekind, ebike, epl, erd, erid⟩ := e
  simp only at hk hb hc hg d1 d2 d7 d8 d9 d0
  subst hk
  refine H_enterM hw hmk Try.func70 rfl Try.ntmps70 rfl ?_
  refine H_seq ?_
  refine R0 ?_
  refine X_box (v := .agg _) rfl rfl fun b3 => ?_
  refine XN ?_
  refine thenJ_normal ?_
  refine H_seq ?_
  refine R0 ?_
  refine xV (e_fld Try.underlying67 rfl Try.sizeOf3 rfl (q0 rfl)) rfl rfl ?_
  refine xV (e_ld Try.isAgg3 (q0 rfl) (by first | exact bx 0 rfl rfl | exact bx 1 rfl rfl | exact bx 2 rfl rfl | exact bx 3 rfl rfl | exact bx 4 rfl rfl | exact bx 5 rfl rfl | exact bx 6 rfl rfl | exact bx 7 rfl rfl | exact bx 8 rfl rfl | exact bx 9 rfl rfl | exact rc ‹_› ‹_› rfl | exact rc0 ‹_› ‹_› rfl | exact xc ‹_› ‹_› | exact rr 0 rfl ‹_› rfl | exact rr0 0 rfl ‹_› rfl | exact rr 1 rfl ‹_› rfl | exact rr0 1 rfl ‹_› rfl | exact rr 2 rfl ‹_› rfl | exact rr0 2 rfl ‹_› rfl | exact rr 3 rfl ‹_› rfl | exact rr0 3 rfl ‹_› rfl | exact rr 4 rfl ‹_› rfl | exact rr0 4 rfl ‹_› rfl | exact rr 5 rfl ‹_› rfl | exact rr0 5 rfl ‹_› rfl | exact rr 6 rfl ‹_› rfl | exact rr0 6 rfl ‹_› rfl | exact rr 7 rfl ‹_› rfl | exact rr0 7 rfl ‹_› rfl)) rfl rfl ?_
  refine xV (e_build Try.underlying41 fl41 Try.zeroValue41 (pt (v := .int _ _) rfl (pt (v := .int _ _) rfl E.p0)) rfl) rfl rfl ?_
  refine X_alloc Try.zeroValue41 rfl fun b4 => ?_
  (first | refine X_store 0 (v := .agg _) rfl rfl Try.sizeOf41 rfl rfl rfl rfl ?_ | refine X_store 1 (v := .agg _) rfl rfl Try.sizeOf41 rfl rfl rfl rfl ?_ | refine X_store 2 (v := .agg _) rfl rfl Try.sizeOf41 rfl rfl rfl rfl ?_ | refine X_store 3 (v := .agg _) rfl rfl Try.sizeOf41 rfl rfl rfl rfl ?_ | refine X_store 4 (v := .agg _) rfl rfl Try.sizeOf41 rfl rfl rfl rfl ?_ | refine X_store 5 (v := .agg _) rfl rfl Try.sizeOf41 rfl rfl rfl rfl ?_ | refine X_store 6 (v := .agg _) rfl rfl Try.sizeOf41 rfl rfl rfl rfl ?_ | refine X_store 7 (v := .agg _) rfl rfl Try.sizeOf41 rfl rfl rfl rfl ?_ | refine X_store 8 (v := .agg _) rfl rfl Try.sizeOf41 rfl rfl rfl rfl ?_)
  refine XN ?_
  refine thenJ_normal ?_
  refine H_seq ?_
  refine R0 ?_
  refine xV (e_fld Try.underlying67 rfl Try.sizeOf3 rfl (q0 rfl)) rfl rfl ?_
  refine xV (e_ld Try.isAgg3 (q0 rfl) (by first | exact bx 0 rfl rfl | exact bx 1 rfl rfl | exact bx 2 rfl rfl | exact bx 3 rfl rfl | exact bx 4 rfl rfl | exact bx 5 rfl rfl | exact bx 6 rfl rfl | exact bx 7 rfl rfl | exact bx 8 rfl rfl | exact bx 9 rfl rfl | exact rc ‹_› ‹_› rfl | exact rc0 ‹_› ‹_› rfl | exact xc ‹_› ‹_› | exact rr 0 rfl ‹_› rfl | exact rr0 0 rfl ‹_› rfl | exact rr 1 rfl ‹_› rfl | exact rr0 1 rfl ‹_› rfl | exact rr 2 rfl ‹_› rfl | exact rr0 2 rfl ‹_› rfl | exact rr 3 rfl ‹_› rfl | exact rr0 3 rfl ‹_› rfl | exact rr 4 rfl ‹_› rfl | exact rr0 4 rfl ‹_› rfl | exact rr 5 rfl ‹_› rfl | exact rr0 5 rfl ‹_› rfl | exact rr 6 rfl ‹_› rfl | exact rr0 6 rfl ‹_› rfl | exact rr 7 rfl ‹_› rfl | exact rr0 7 rfl ‹_› rfl)) rfl rfl ?_
  refine XN ?_
  refine thenJ_normal ?_
  refine H_block ?_
  refine H_seq ?_
  refine R0 ?_
  refine xV (e_eq (q0 rfl) (q0 rfl)) rfl rfl ?_
  refine xV (e_as (v := .bool _) (q0 rfl)) rfl rfl ?_
  refine XN ?_
  refine thenJ_normal ?_
  refine H_cond rfl (fun h1 => ?_) (fun h1 => ?_)
  · have hk1 : ekind = 1 := by simpa using h1
    refine R0 ?_
    refine xV (e_mv (v := .pointer _) (q0 rfl)) rfl rfl ?_
    refine xV (e_fld Try.underlying67 rfl Try.sizeOf3 rfl (q0 rfl)) rfl rfl ?_
    refine xV (e_ld Try.isAgg3 (q0 rfl) (by first | exact bx 0 rfl rfl | exact bx 1 rfl rfl | exact bx 2 rfl rfl | exact bx 3 rfl rfl | exact bx 4 rfl rfl | exact bx 5 rfl rfl | exact bx 6 rfl rfl | exact bx 7 rfl rfl | exact bx 8 rfl rfl | exact bx 9 rfl rfl | exact rc ‹_› ‹_› rfl | exact rc0 ‹_› ‹_› rfl | exact xc ‹_› ‹_› | exact rr 0 rfl ‹_› rfl | exact rr0 0 rfl ‹_› rfl | exact rr 1 rfl ‹_› rfl | exact rr0 1 rfl ‹_› rfl | exact rr 2 rfl ‹_› rfl | exact rr0 2 rfl ‹_› rfl | exact rr 3 rfl ‹_› rfl | exact rr0 3 rfl ‹_› rfl | exact rr 4 rfl ‹_› rfl | exact rr0 4 rfl ‹_› rfl | exact rr 5 rfl ‹_› rfl | exact rr0 5 rfl ‹_› rfl | exact rr 6 rfl ‹_› rfl | exact rr0 6 rfl ‹_› rfl | exact rr 7 rfl ‹_› rfl | exact rr0 7 rfl ‹_› rfl)) rfl rfl ?_
    refine xV (e_fld Try.underlying67 rfl Try.sizeOf3 rfl (q0 rfl)) rfl rfl ?_
    refine xV (e_ld Try.isAgg3 (q0 rfl) (by first | exact bx 0 rfl rfl | exact bx 1 rfl rfl | exact bx 2 rfl rfl | exact bx 3 rfl rfl | exact bx 4 rfl rfl | exact bx 5 rfl rfl | exact bx 6 rfl rfl | exact bx 7 rfl rfl | exact bx 8 rfl rfl | exact bx 9 rfl rfl | exact rc ‹_› ‹_› rfl | exact rc0 ‹_› ‹_› rfl | exact xc ‹_› ‹_› | exact rr 0 rfl ‹_› rfl | exact rr0 0 rfl ‹_› rfl | exact rr 1 rfl ‹_› rfl | exact rr0 1 rfl ‹_› rfl | exact rr 2 rfl ‹_› rfl | exact rr0 2 rfl ‹_› rfl | exact rr 3 rfl ‹_› rfl | exact rr0 3 rfl ‹_› rfl | exact rr 4 rfl ‹_› rfl | exact rr0 4 rfl ‹_› rfl | exact rr 5 rfl ‹_› rfl | exact rr0 5 rfl ‹_› rfl | exact rr 6 rfl ‹_› rfl | exact rr0 6 rfl ‹_› rfl | exact rr 7 rfl ‹_› rfl | exact rr0 7 rfl ‹_› rfl)) rfl rfl ?_
    refine xV (e_build Try.underlying41 fl41 Try.zeroValue41 (pt (v := .int _ _) rfl (pt (v := .int _ _) rfl E.p0)) rfl) rfl rfl ?_
    refine X_eff (f_callM (en Try.call86 (ha3 (q0 rfl) (q0 rfl) (q0 rfl))) (fun w hw => leave_w (Mem.rot (X := [_, _]) (S := stL f a s t) hw) hmk hl k hkn ⟨1, epl, 0, false⟩) rfl (fun _ => rfl) fun u => ?_)
    refine XN ?_
    refine blockJ_normal ?_
    exact end0 rfl hmk fun w' hw => ⟨⟨_, (leaveT_plain _ _ _).trans (d1 hk1).symm⟩, rfl, Mem.cutM (X := [_, _]) hw⟩
  · refine H_seq ?_
    refine R0 ?_
    refine xV (e_eq (q0 rfl) (q0 rfl)) rfl rfl ?_
    refine xV (e_as (v := .bool _) (q0 rfl)) rfl rfl ?_
    refine XN ?_
    refine thenJ_normal ?_
    refine H_cond rfl (fun h2 => ?_) (fun h2 => ?_)
    · have hk2 : ekind = 2 := by simpa using h2
      refine R0 ?_
      refine xV (e_mv (v := .pointer _) (q0 rfl)) rfl rfl ?_
      refine xV (e_fld Try.underlying67 rfl Try.sizeOf3 rfl (q0 rfl)) rfl rfl ?_
      refine xV (e_ld Try.isAgg3 (q0 rfl) (by first | exact bx 0 rfl rfl | exact bx 1 rfl rfl | exact bx 2 rfl rfl | exact bx 3 rfl rfl | exact bx 4 rfl rfl | exact bx 5 rfl rfl | exact bx 6 rfl rfl | exact bx 7 rfl rfl | exact bx 8 rfl rfl | exact bx 9 rfl rfl | exact rc ‹_› ‹_› rfl | exact rc0 ‹_› ‹_› rfl | exact xc ‹_› ‹_› | exact rr 0 rfl ‹_› rfl | exact rr0 0 rfl ‹_› rfl | exact rr 1 rfl ‹_› rfl | exact rr0 1 rfl ‹_› rfl | exact rr 2 rfl ‹_› rfl | exact rr0 2 rfl ‹_› rfl | exact rr 3 rfl ‹_› rfl | exact rr0 3 rfl ‹_› rfl | exact rr 4 rfl ‹_› rfl | exact rr0 4 rfl ‹_› rfl | exact rr 5 rfl ‹_› rfl | exact rr0 5 rfl ‹_› rfl | exact rr 6 rfl ‹_› rfl | exact rr0 6 rfl ‹_› rfl | exact rr 7 rfl ‹_› rfl | exact rr0 7 rfl ‹_› rfl)) rfl rfl ?_
      refine xV (e_fld Try.underlying67 rfl Try.sizeOf3 rfl (q0 rfl)) rfl rfl ?_
      refine xV (e_ld Try.isAgg3 (q0 rfl) (by first | exact bx 0 rfl rfl | exact bx 1 rfl rfl | exact bx 2 rfl rfl | exact bx 3 rfl rfl | exact bx 4 rfl rfl | exact bx 5 rfl rfl | exact bx 6 rfl rfl | exact bx 7 rfl rfl | exact bx 8 rfl rfl | exact bx 9 rfl rfl | exact rc ‹_› ‹_› rfl | exact rc0 ‹_› ‹_› rfl | exact xc ‹_› ‹_› | exact rr 0 rfl ‹_› rfl | exact rr0 0 rfl ‹_› rfl | exact rr 1 rfl ‹_› rfl | exact rr0 1 rfl ‹_› rfl | exact rr 2 rfl ‹_› rfl | exact rr0 2 rfl ‹_› rfl | exact rr 3 rfl ‹_› rfl | exact rr0 3 rfl ‹_› rfl | exact rr 4 rfl ‹_› rfl | exact rr0 4 rfl ‹_› rfl | exact rr 5 rfl ‹_› rfl | exact rr0 5 rfl ‹_› rfl | exact rr 6 rfl ‹_› rfl | exact rr0 6 rfl ‹_› rfl | exact rr 7 rfl ‹_› rfl | exact rr0 7 rfl ‹_› rfl)) rfl rfl ?_
      refine xV (e_build Try.underlying41 fl41 Try.zeroValue41 (pt (v := .int _ _) rfl (pt (v := .int _ _) rfl E.p0)) rfl) rfl rfl ?_
      refine X_eff (f_callM (en Try.call86 (ha3 (q0 rfl) (q0 rfl) (q0 rfl))) (fun w hw => leave_w (Mem.rot (X := [_, _]) (S := stL f a s t) hw) hmk hl k hkn ⟨2, epl, 0, false⟩) rfl (fun _ => rfl) fun u => ?_)
      refine XN ?_
      refine blockJ_normal ?_
      exact end0 rfl hmk fun w' hw => ⟨⟨_, (leaveT_plain _ _ _).trans (d2 hk2).symm⟩, rfl, Mem.cutM (X := [_, _]) hw⟩
    · refine H_seq ?_
      refine R0 ?_
      refine xV (e_eq (q0 rfl) (q0 rfl)) rfl rfl ?_
      refine xV (e_as (v := .bool _) (q0 rfl)) rfl rfl ?_
      refine XN ?_
      refine thenJ_normal ?_
      refine H_cond rfl (fun h3 => ?_) (fun h3 => ?_)
      · have hk3 : ekind = 3 := by simpa using h3
        have hck := hc
        rw [ck3 hk3 hg] at hck
        obtain ⟨hpk, hu⟩ : parkedS x = true ∧ usedP t.used erid = false := by
          split at hck
          · cases hck
          · rename_i h1
            split at hck
            · cases hck
            · rename_i h2
              exact ⟨by simpa using h1, by show usedP t.plain.used erid = false; simpa using h2⟩
        have hno : t.ps.find? (fun p => p.1 == erid) = none := by
          rw [List.find?_eq_none]
          intro p hp hpe
          have h1 := hI.used (p.1, p.2.2) (List.mem_map.2 ⟨p, hp, rfl⟩)
          simp only [beq_iff_eq] at hpe
          simp only [hpe] at h1
          rw [show t.plain.used = t.used from rfl, hu] at h1
          cases h1
        refine H_seq ?_
        refine H_mem (fun w hw => hw.fr4) rfl ?_
        refine RAd 1 rfl (by decide +kernel) ?_
        refine aV 0 (by decide +kernel) rfl (e_mv (v := .pointer _) (q0 rfl)) rfl ?_
        refine aV 1 (by decide +kernel) rfl (e_nilc (q0 rfl)) rfl ?_
        refine aV 2 (by decide +kernel) rfl (e_fld Try.underlying86 rfl Try.sizeOf83 rfl (q0 rfl)) rfl ?_
        refine aV 3 (by decide +kernel) rfl (e_ld Try.isAgg83 (q0 rfl) (by first | exact bx 0 rfl rfl | exact bx 1 rfl rfl | exact bx 2 rfl rfl | exact bx 3 rfl rfl | exact bx 4 rfl rfl | exact bx 5 rfl rfl | exact bx 6 rfl rfl | exact bx 7 rfl rfl | exact bx 8 rfl rfl | exact bx 9 rfl rfl | exact rc ‹_› ‹_› rfl | exact rc0 ‹_› ‹_› rfl | exact xc ‹_› ‹_› | exact rr 0 rfl ‹_› rfl | exact rr0 0 rfl ‹_› rfl | exact rr 1 rfl ‹_› rfl | exact rr0 1 rfl ‹_› rfl | exact rr 2 rfl ‹_› rfl | exact rr0 2 rfl ‹_› rfl | exact rr 3 rfl ‹_› rfl | exact rr0 3 rfl ‹_› rfl | exact rr 4 rfl ‹_› rfl | exact rr0 4 rfl ‹_› rfl | exact rr 5 rfl ‹_› rfl | exact rr0 5 rfl ‹_› rfl | exact rr 6 rfl ‹_› rfl | exact rr0 6 rfl ‹_› rfl | exact rr 7 rfl ‹_› rfl | exact rr0 7 rfl ‹_› rfl)) rfl ?_
        refine aV 4 (by decide +kernel) rfl (e_fld Try.underlying67 rfl Try.sizeOf3 rfl (q0 rfl)) rfl ?_
        refine aV 5 (by decide +kernel) rfl (e_ld Try.isAgg3 (q0 rfl) (by first | exact bx 0 rfl rfl | exact bx 1 rfl rfl | exact bx 2 rfl rfl | exact bx 3 rfl rfl | exact bx 4 rfl rfl | exact bx 5 rfl rfl | exact bx 6 rfl rfl | exact bx 7 rfl rfl | exact bx 8 rfl rfl | exact bx 9 rfl rfl | exact rc ‹_› ‹_› rfl | exact rc0 ‹_› ‹_› rfl | exact xc ‹_› ‹_› | exact rr 0 rfl ‹_› rfl | exact rr0 0 rfl ‹_› rfl | exact rr 1 rfl ‹_› rfl | exact rr0 1 rfl ‹_› rfl | exact rr 2 rfl ‹_› rfl | exact rr0 2 rfl ‹_› rfl | exact rr 3 rfl ‹_› rfl | exact rr0 3 rfl ‹_› rfl | exact rr 4 rfl ‹_› rfl | exact rr0 4 rfl ‹_› rfl | exact rr 5 rfl ‹_› rfl | exact rr0 5 rfl ‹_› rfl | exact rr 6 rfl ‹_› rfl | exact rr0 6 rfl ‹_› rfl | exact rr 7 rfl ‹_› rfl | exact rr0 7 rfl ‹_› rfl)) rfl ?_
        refine aV 6 (by decide +kernel) rfl (e_fld Try.underlying67 rfl Try.sizeOf3 rfl (q0 rfl)) rfl ?_
        refine aV 7 (by decide +kernel) rfl (e_ld Try.isAgg3 (q0 rfl) (by first | exact bx 0 rfl rfl | exact bx 1 rfl rfl | exact bx 2 rfl rfl | exact bx 3 rfl rfl | exact bx 4 rfl rfl | exact bx 5 rfl rfl | exact bx 6 rfl rfl | exact bx 7 rfl rfl | exact bx 8 rfl rfl | exact bx 9 rfl rfl | exact rc ‹_› ‹_› rfl | exact rc0 ‹_› ‹_› rfl | exact xc ‹_› ‹_› | exact rr 0 rfl ‹_› rfl | exact rr0 0 rfl ‹_› rfl | exact rr 1 rfl ‹_› rfl | exact rr0 1 rfl ‹_› rfl | exact rr 2 rfl ‹_› rfl | exact rr0 2 rfl ‹_› rfl | exact rr 3 rfl ‹_› rfl | exact rr0 3 rfl ‹_› rfl | exact rr 4 rfl ‹_› rfl | exact rr0 4 rfl ‹_› rfl | exact rr 5 rfl ‹_› rfl | exact rr0 5 rfl ‹_› rfl | exact rr 6 rfl ‹_› rfl | exact rr0 6 rfl ‹_› rfl | exact rr 7 rfl ‹_› rfl | exact rr0 7 rfl ‹_› rfl)) rfl ?_
        refine aV 8 (by decide +kernel) rfl (e_fld Try.underlying67 rfl Try.sizeOf3 rfl (q0 rfl)) rfl ?_
        refine aV 9 (by decide +kernel) rfl (e_ld Try.isAgg3 (q0 rfl) (by first | exact bx 0 rfl rfl | exact bx 1 rfl rfl | exact bx 2 rfl rfl | exact bx 3 rfl rfl | exact bx 4 rfl rfl | exact bx 5 rfl rfl | exact bx 6 rfl rfl | exact bx 7 rfl rfl | exact bx 8 rfl rfl | exact bx 9 rfl rfl | exact rc ‹_› ‹_› rfl | exact rc0 ‹_› ‹_› rfl | exact xc ‹_› ‹_› | exact rr 0 rfl ‹_› rfl | exact rr0 0 rfl ‹_› rfl | exact rr 1 rfl ‹_› rfl | exact rr0 1 rfl ‹_› rfl | exact rr 2 rfl ‹_› rfl | exact rr0 2 rfl ‹_› rfl | exact rr 3 rfl ‹_› rfl | exact rr0 3 rfl ‹_› rfl | exact rr 4 rfl ‹_› rfl | exact rr0 4 rfl ‹_› rfl | exact rr 5 rfl ‹_› rfl | exact rr0 5 rfl ‹_› rfl | exact rr 6 rfl ‹_› rfl | exact rr0 6 rfl ‹_› rfl | exact rr 7 rfl ‹_› rfl | exact rr0 7 rfl ‹_› rfl)) rfl ?_
        refine aV 10 (by decide +kernel) rfl (e_build Try.underlying127 fl127 Try.zeroValue127 (pt (v := .int _ _) rfl (pt (v := .int _ _) rfl E.p0)) rfl) rfl ?_
        refine rdy1 (i := 11) (by decide +kernel) (sub_drop 1) ?_
        refine aL rfl (f_box (v := .agg _) rfl rfl fun b42 => ?_)
        refine rdy1 (i := 12) (by decide +kernel) (sub_drop 2) ?_
        refine aL rfl (f_pmapPut 0 ⟨erd, k, false⟩ Try.underlying83 Try.underlying3 rfl rfl rfl rfl rfl hno ?_)
        refine aZ (by decide +kernel) (sub_drop 1) ?_
        refine thenJ_normal ?_
        refine H_seq ?_
        refine H_mem (fun w hw => hw.mv4) rfl ?_
        refine RT rfl rfl (by decide +kernel) ?_
        refine xV (e_mv (v := .pointer _) (q0 rfl)) rfl rfl ?_
        refine xV (e_nilc (q0 rfl)) rfl rfl ?_
        refine xV (e_fld Try.underlying86 rfl Try.sizeOf84 rfl (q0 rfl)) rfl rfl ?_
        refine xV (e_ld Try.isAgg84 (q0 rfl) (by first | exact bx 0 rfl rfl | exact bx 1 rfl rfl | exact bx 2 rfl rfl | exact bx 3 rfl rfl | exact bx 4 rfl rfl | exact bx 5 rfl rfl | exact bx 6 rfl rfl | exact bx 7 rfl rfl | exact bx 8 rfl rfl | exact bx 9 rfl rfl | exact rc ‹_› ‹_› rfl | exact rc0 ‹_› ‹_› rfl | exact xc ‹_› ‹_› | exact rr 0 rfl ‹_› rfl | exact rr0 0 rfl ‹_› rfl | exact rr 1 rfl ‹_› rfl | exact rr0 1 rfl ‹_› rfl | exact rr 2 rfl ‹_› rfl | exact rr0 2 rfl ‹_› rfl | exact rr 3 rfl ‹_› rfl | exact rr0 3 rfl ‹_› rfl | exact rr 4 rfl ‹_› rfl | exact rr0 4 rfl ‹_› rfl | exact rr 5 rfl ‹_› rfl | exact rr0 5 rfl ‹_› rfl | exact rr 6 rfl ‹_› rfl | exact rr0 6 rfl ‹_› rfl | exact rr 7 rfl ‹_› rfl | exact rr0 7 rfl ‹_› rfl)) rfl rfl ?_
        refine xV (e_fld Try.underlying67 rfl Try.sizeOf3 rfl (q0 rfl)) rfl rfl ?_
        refine xV (e_ld Try.isAgg3 (q0 rfl) (by first | exact bx 0 rfl rfl | exact bx 1 rfl rfl | exact bx 2 rfl rfl | exact bx 3 rfl rfl | exact bx 4 rfl rfl | exact bx 5 rfl rfl | exact bx 6 rfl rfl | exact bx 7 rfl rfl | exact bx 8 rfl rfl | exact bx 9 rfl rfl | exact rc ‹_› ‹_› rfl | exact rc0 ‹_› ‹_› rfl | exact xc ‹_› ‹_› | exact rr 0 rfl ‹_› rfl | exact rr0 0 rfl ‹_› rfl | exact rr 1 rfl ‹_› rfl | exact rr0 1 rfl ‹_› rfl | exact rr 2 rfl ‹_› rfl | exact rr0 2 rfl ‹_› rfl | exact rr 3 rfl ‹_› rfl | exact rr0 3 rfl ‹_› rfl | exact rr 4 rfl ‹_› rfl | exact rr0 4 rfl ‹_› rfl | exact rr 5 rfl ‹_› rfl | exact rr0 5 rfl ‹_› rfl | exact rr 6 rfl ‹_› rfl | exact rr0 6 rfl ‹_› rfl | exact rr 7 rfl ‹_› rfl | exact rr0 7 rfl ‹_› rfl)) rfl rfl ?_
        refine XN ?_
        refine thenJ_normal ?_
        refine X_mapset (v := .bool true) 5 Try.underlying84 Try.underlying3 rfl rfl rfl rfl ?_
        refine XN ?_
        refine thenJ_normal ?_
        refine RT rfl rfl (by decide +kernel) ?_
        refine xV (e_mv (v := .pointer _) (q0 rfl)) rfl rfl ?_
        refine xV (e_nilc (q0 rfl)) rfl rfl ?_
        refine xV (e_fld Try.underlying86 rfl Try.sizeOf37 rfl (q0 rfl)) rfl rfl ?_
        refine xV (e_ld Try.isAgg37 (q0 rfl) (by first | exact bx 0 rfl rfl | exact bx 1 rfl rfl | exact bx 2 rfl rfl | exact bx 3 rfl rfl | exact bx 4 rfl rfl | exact bx 5 rfl rfl | exact bx 6 rfl rfl | exact bx 7 rfl rfl | exact bx 8 rfl rfl | exact bx 9 rfl rfl | exact rc ‹_› ‹_› rfl | exact rc0 ‹_› ‹_› rfl | exact xc ‹_› ‹_› | exact rr 0 rfl ‹_› rfl | exact rr0 0 rfl ‹_› rfl | exact rr 1 rfl ‹_› rfl | exact rr0 1 rfl ‹_› rfl | exact rr 2 rfl ‹_› rfl | exact rr0 2 rfl ‹_› rfl | exact rr 3 rfl ‹_› rfl | exact rr0 3 rfl ‹_› rfl | exact rr 4 rfl ‹_› rfl | exact rr0 4 rfl ‹_› rfl | exact rr 5 rfl ‹_› rfl | exact rr0 5 rfl ‹_› rfl | exact rr 6 rfl ‹_› rfl | exact rr0 6 rfl ‹_› rfl | exact rr 7 rfl ‹_› rfl | exact rr0 7 rfl ‹_› rfl)) rfl rfl ?_
        refine xV (e_fld Try.underlying67 rfl Try.sizeOf3 rfl (q0 rfl)) rfl rfl ?_
        refine xV (e_ld Try.isAgg3 (q0 rfl) (by first | exact bx 0 rfl rfl | exact bx 1 rfl rfl | exact bx 2 rfl rfl | exact bx 3 rfl rfl | exact bx 4 rfl rfl | exact bx 5 rfl rfl | exact bx 6 rfl rfl | exact bx 7 rfl rfl | exact bx 8 rfl rfl | exact bx 9 rfl rfl | exact rc ‹_› ‹_› rfl | exact rc0 ‹_› ‹_› rfl | exact xc ‹_› ‹_› | exact rr 0 rfl ‹_› rfl | exact rr0 0 rfl ‹_› rfl | exact rr 1 rfl ‹_› rfl | exact rr0 1 rfl ‹_› rfl | exact rr 2 rfl ‹_› rfl | exact rr0 2 rfl ‹_› rfl | exact rr 3 rfl ‹_› rfl | exact rr0 3 rfl ‹_› rfl | exact rr 4 rfl ‹_› rfl | exact rr0 4 rfl ‹_› rfl | exact rr 5 rfl ‹_› rfl | exact rr0 5 rfl ‹_› rfl | exact rr 6 rfl ‹_› rfl | exact rr0 6 rfl ‹_› rfl | exact rr 7 rfl ‹_› rfl | exact rr0 7 rfl ‹_› rfl)) rfl rfl ?_
        refine xV (e_lds Try.isAgg41 Try.sizeOf41 (q0 rfl) (by first | exact bxs 0 rfl | exact bxs 1 rfl | exact bxs 2 rfl | exact bxs 3 rfl | exact bxs 4 rfl | exact bxs 5 rfl | exact bxs 6 rfl | exact bxs 7 rfl | exact bxs 8 rfl | exact bxs 9 rfl | exact rcs ‹_› ‹_› | exact rrs 0 rfl ‹_› | exact rrs 1 rfl ‹_› | exact rrs 2 rfl ‹_› | exact rrs 3 rfl ‹_› | exact rrs 4 rfl ‹_› | exact rrs 5 rfl ‹_› | exact rrs 6 rfl ‹_› | exact rrs 7 rfl ‹_›) rfl) rfl rfl ?_
        refine xV (e_idx _ Try.underlying37 Try.sizeOf41 (q0 rfl) (q0 rfl) (fun _ => ⟨rfl, by omega⟩)) rfl rfl ?_
        refine XN ?_
        refine thenJ_normal ?_
        refine X_eff (f_storeR0 3 ⟨3, 0, erid, false⟩ rfl rfl Try.sizeOf41 rfl rfl rfl hx rfl rfl ?_)
        refine XN ?_
        refine blockJ_normal ?_
        exact end0 rfl hmk fun w' hw => ⟨⟨⟨t.spots.set k ⟨3, 0, erid, false⟩, t.ps ++ [(erid, b42, ⟨erd, k, false⟩)], usePut t.used erid⟩, by
          unfold doP
          simp only
          rw [if_neg (by omega), if_neg (by omega), if_pos hk3]
          unfold TS.plain TS.open_
          simp⟩, rfl, by have h9 := hw.tail.tail; rw [used_put] at h9; exact h9⟩
      · refine H_seq ?_
        refine R0 ?_
        refine xV (e_eq (q0 rfl) (q0 rfl)) rfl rfl ?_
        refine xV (e_as (v := .bool _) (q0 rfl)) rfl rfl ?_
        refine XN ?_
        refine thenJ_normal ?_
        refine H_cond rfl (fun h4 => ?_) (fun h4 => ?_)
        · have hk4 : ekind = 4 := by simpa using h4
          have hck := hc
          rw [ck4 hk4 hg] at hck
          obtain ⟨v, hv, hpk⟩ : ∃ v, lookP t.plain.open_ erid = some v ∧ parkedS x = true := by
            cases hlk : lookP t.plain.open_ erid with
            | none => rw [hlk] at hck; cases hck
            | some v =>
              rw [hlk] at hck
              simp only at hck
              split at hck
              · cases hck
              · rename_i h1
                exact ⟨v, rfl, by simpa using h1⟩
          obtain ⟨q, p, hq, hf, hp1, hp2⟩ := look_get hv
          obtain ⟨hj0, y, hy, y3, yr, yp⟩ := hI.bike _ (lookP_some hv)
          simp only at hj0 hy
          obtain ⟨j, hj⟩ : ∃ j : Nat, v.bike = j := ⟨v.bike.toNat, by omega⟩
          rw [hj, Int.toNat_natCast] at hy
          have hjn : j < s.n := by rw [← hl]; exact (List.getElem?_eq_some_iff.1 hy).1
          have hjk : j ≠ k := fun e => by
            have h9 : t.spots[j]? = some y := hy
            rw [e, hx] at h9
            cases h9
            exact parked_no3 hpk y3
          have hptr : (mlook (ptrs t.ps) erid).getD (.pointer none) = .pointer (some ⟨p.2.1, 0, none⟩) := by rw [ptrs_val]; unfold tripPtr; rw [hf]; rfl
          have hpb : p.2.2.bike = j := by rw [hp2]; exact hj
          have hx2 : (t.spots.set j x)[k]? = some x := by rw [List.getElem?_set_ne hjk]; exact hx
          have hy2 : t.spots[j]? = some y := hy
          refine H_seq ?_
          refine R1 rfl (by decide +kernel) ?_
          refine xV (e_mv (v := .pointer _) (q0 rfl)) rfl rfl ?_
          refine xV (e_nilc (q0 rfl)) rfl rfl ?_
          refine xV (e_fld Try.underlying86 rfl Try.sizeOf83 rfl (q0 rfl)) rfl rfl ?_
          refine xV (e_ld Try.isAgg83 (q0 rfl) (by first | exact bx 0 rfl rfl | exact bx 1 rfl rfl | exact bx 2 rfl rfl | exact bx 3 rfl rfl | exact bx 4 rfl rfl | exact bx 5 rfl rfl | exact bx 6 rfl rfl | exact bx 7 rfl rfl | exact bx 8 rfl rfl | exact bx 9 rfl rfl | exact rc ‹_› ‹_› rfl | exact rc0 ‹_› ‹_› rfl | exact xc ‹_› ‹_› | exact rr 0 rfl ‹_› rfl | exact rr0 0 rfl ‹_› rfl | exact rr 1 rfl ‹_› rfl | exact rr0 1 rfl ‹_› rfl | exact rr 2 rfl ‹_› rfl | exact rr0 2 rfl ‹_› rfl | exact rr 3 rfl ‹_› rfl | exact rr0 3 rfl ‹_› rfl | exact rr 4 rfl ‹_› rfl | exact rr0 4 rfl ‹_› rfl | exact rr 5 rfl ‹_› rfl | exact rr0 5 rfl ‹_› rfl | exact rr 6 rfl ‹_› rfl | exact rr0 6 rfl ‹_› rfl | exact rr 7 rfl ‹_› rfl | exact rr0 7 rfl ‹_› rfl)) rfl rfl ?_
          refine xV (e_fld Try.underlying67 rfl Try.sizeOf3 rfl (q0 rfl)) rfl rfl ?_
          refine xV (e_ld Try.isAgg3 (q0 rfl) (by first | exact bx 0 rfl rfl | exact bx 1 rfl rfl | exact bx 2 rfl rfl | exact bx 3 rfl rfl | exact bx 4 rfl rfl | exact bx 5 rfl rfl | exact bx 6 rfl rfl | exact bx 7 rfl rfl | exact bx 8 rfl rfl | exact bx 9 rfl rfl | exact rc ‹_› ‹_› rfl | exact rc0 ‹_› ‹_› rfl | exact xc ‹_› ‹_› | exact rr 0 rfl ‹_› rfl | exact rr0 0 rfl ‹_› rfl | exact rr 1 rfl ‹_› rfl | exact rr0 1 rfl ‹_› rfl | exact rr 2 rfl ‹_› rfl | exact rr0 2 rfl ‹_› rfl | exact rr 3 rfl ‹_› rfl | exact rr0 3 rfl ‹_› rfl | exact rr 4 rfl ‹_› rfl | exact rr0 4 rfl ‹_› rfl | exact rr 5 rfl ‹_› rfl | exact rr0 5 rfl ‹_› rfl | exact rr 6 rfl ‹_› rfl | exact rr0 6 rfl ‹_› rfl | exact rr 7 rfl ‹_› rfl | exact rr0 7 rfl ‹_› rfl)) rfl rfl ?_
          refine xV (e_lookG Try.underlying83 Try.underlying3 Try.zeroValue123 (q0 rfl) (q0 rfl) (pmap_map 4 rfl) (fun _ => hptr)) rfl rfl ?_
          refine xV (e_as (v := .pointer _) (q0 rfl)) rfl rfl ?_
          refine XN ?_
          refine thenJ_normal ?_
          refine H_seq ?_
          refine RT rfl rfl (by decide +kernel) ?_
          refine xV (e_mv (v := .pointer _) (q0 rfl)) rfl rfl ?_
          refine xV (e_nilc (q0 rfl)) rfl rfl ?_
          refine xV (e_fld Try.underlying86 rfl Try.sizeOf37 rfl (q0 rfl)) rfl rfl ?_
          refine xV (e_ld Try.isAgg37 (q0 rfl) (by first | exact bx 0 rfl rfl | exact bx 1 rfl rfl | exact bx 2 rfl rfl | exact bx 3 rfl rfl | exact bx 4 rfl rfl | exact bx 5 rfl rfl | exact bx 6 rfl rfl | exact bx 7 rfl rfl | exact bx 8 rfl rfl | exact bx 9 rfl rfl | exact rc ‹_› ‹_› rfl | exact rc0 ‹_› ‹_› rfl | exact xc ‹_› ‹_› | exact rr 0 rfl ‹_› rfl | exact rr0 0 rfl ‹_› rfl | exact rr 1 rfl ‹_› rfl | exact rr0 1 rfl ‹_› rfl | exact rr 2 rfl ‹_› rfl | exact rr0 2 rfl ‹_› rfl | exact rr 3 rfl ‹_› rfl | exact rr0 3 rfl ‹_› rfl | exact rr 4 rfl ‹_› rfl | exact rr0 4 rfl ‹_› rfl | exact rr 5 rfl ‹_› rfl | exact rr0 5 rfl ‹_› rfl | exact rr 6 rfl ‹_› rfl | exact rr0 6 rfl ‹_› rfl | exact rr 7 rfl ‹_› rfl | exact rr0 7 rfl ‹_› rfl)) rfl rfl ?_
          refine xV (e_mv (v := .pointer _) (q0 rfl)) rfl rfl ?_
          refine xV (e_nilc (q0 rfl)) rfl rfl ?_
          refine xV (e_fld Try.underlying127 rfl Try.sizeOf3 rfl (q0 rfl)) rfl rfl ?_
          refine xV (e_ld (v := .int .i64 j) Try.isAgg3 (q0 rfl) (pc 4 (r := 1) rfl hq (by show some (Value.int .i64 p.2.2.bike) = _; rw [hpb]))) rfl rfl ?_
          refine xV (e_mv (v := .pointer _) (q0 rfl)) rfl rfl ?_
          refine xV (e_nilc (q0 rfl)) rfl rfl ?_
          refine xV (e_fld Try.underlying86 rfl Try.sizeOf37 rfl (q0 rfl)) rfl rfl ?_
          refine xV (e_ld Try.isAgg37 (q0 rfl) (by first | exact bx 0 rfl rfl | exact bx 1 rfl rfl | exact bx 2 rfl rfl | exact bx 3 rfl rfl | exact bx 4 rfl rfl | exact bx 5 rfl rfl | exact bx 6 rfl rfl | exact bx 7 rfl rfl | exact bx 8 rfl rfl | exact bx 9 rfl rfl | exact rc ‹_› ‹_› rfl | exact rc0 ‹_› ‹_› rfl | exact xc ‹_› ‹_› | exact rr 0 rfl ‹_› rfl | exact rr0 0 rfl ‹_› rfl | exact rr 1 rfl ‹_› rfl | exact rr0 1 rfl ‹_› rfl | exact rr 2 rfl ‹_› rfl | exact rr0 2 rfl ‹_› rfl | exact rr 3 rfl ‹_› rfl | exact rr0 3 rfl ‹_› rfl | exact rr 4 rfl ‹_› rfl | exact rr0 4 rfl ‹_› rfl | exact rr 5 rfl ‹_› rfl | exact rr0 5 rfl ‹_› rfl | exact rr 6 rfl ‹_› rfl | exact rr0 6 rfl ‹_› rfl | exact rr 7 rfl ‹_› rfl | exact rr0 7 rfl ‹_› rfl)) rfl rfl ?_
          refine xV (e_fld Try.underlying67 rfl Try.sizeOf3 rfl (q0 rfl)) rfl rfl ?_
          refine xV (e_ld Try.isAgg3 (q0 rfl) (by first | exact bx 0 rfl rfl | exact bx 1 rfl rfl | exact bx 2 rfl rfl | exact bx 3 rfl rfl | exact bx 4 rfl rfl | exact bx 5 rfl rfl | exact bx 6 rfl rfl | exact bx 7 rfl rfl | exact bx 8 rfl rfl | exact bx 9 rfl rfl | exact rc ‹_› ‹_› rfl | exact rc0 ‹_› ‹_› rfl | exact xc ‹_› ‹_› | exact rr 0 rfl ‹_› rfl | exact rr0 0 rfl ‹_› rfl | exact rr 1 rfl ‹_› rfl | exact rr0 1 rfl ‹_› rfl | exact rr 2 rfl ‹_› rfl | exact rr0 2 rfl ‹_› rfl | exact rr 3 rfl ‹_› rfl | exact rr0 3 rfl ‹_› rfl | exact rr 4 rfl ‹_› rfl | exact rr0 4 rfl ‹_› rfl | exact rr 5 rfl ‹_› rfl | exact rr0 5 rfl ‹_› rfl | exact rr 6 rfl ‹_› rfl | exact rr0 6 rfl ‹_› rfl | exact rr 7 rfl ‹_› rfl | exact rr0 7 rfl ‹_› rfl)) rfl rfl ?_
          refine xV (e_idx _ Try.underlying37 Try.sizeOf41 (q0 rfl) (q0 rfl) (fun _ => ⟨rfl, by omega⟩)) rfl rfl ?_
          refine xV (e_lds Try.isAgg41 Try.sizeOf41 (q0 rfl) (by first | exact bxs 0 rfl | exact bxs 1 rfl | exact bxs 2 rfl | exact bxs 3 rfl | exact bxs 4 rfl | exact bxs 5 rfl | exact bxs 6 rfl | exact bxs 7 rfl | exact bxs 8 rfl | exact bxs 9 rfl | exact rcs ‹_› ‹_› | exact rrs 0 rfl ‹_› | exact rrs 1 rfl ‹_› | exact rrs 2 rfl ‹_› | exact rrs 3 rfl ‹_› | exact rrs 4 rfl ‹_› | exact rrs 5 rfl ‹_› | exact rrs 6 rfl ‹_› | exact rrs 7 rfl ‹_›) rfl) rfl rfl ?_
          refine xV (e_idx _ Try.underlying37 Try.sizeOf41 (q0 rfl) (q0 rfl) (fun _ => ⟨rfl, by omega⟩)) rfl rfl ?_
          refine XN ?_
          refine thenJ_normal ?_
          refine X_eff (f_storeR0 3 x rfl rfl Try.sizeOf41 rfl rfl rfl hy2 rfl rfl ?_)
          refine XN ?_
          refine thenJ_normal ?_
          refine H_seq ?_
          refine RT rfl rfl (by decide +kernel) ?_
          refine xV (e_mv (v := .pointer _) (q0 rfl)) rfl rfl ?_
          refine xV (e_nilc (q0 rfl)) rfl rfl ?_
          refine xV (e_fld Try.underlying86 rfl Try.sizeOf37 rfl (q0 rfl)) rfl rfl ?_
          refine xV (e_ld Try.isAgg37 (q0 rfl) (by first | exact bx 0 rfl rfl | exact bx 1 rfl rfl | exact bx 2 rfl rfl | exact bx 3 rfl rfl | exact bx 4 rfl rfl | exact bx 5 rfl rfl | exact bx 6 rfl rfl | exact bx 7 rfl rfl | exact bx 8 rfl rfl | exact bx 9 rfl rfl | exact rc ‹_› ‹_› rfl | exact rc0 ‹_› ‹_› rfl | exact xc ‹_› ‹_› | exact rr 0 rfl ‹_› rfl | exact rr0 0 rfl ‹_› rfl | exact rr 1 rfl ‹_› rfl | exact rr0 1 rfl ‹_› rfl | exact rr 2 rfl ‹_› rfl | exact rr0 2 rfl ‹_› rfl | exact rr 3 rfl ‹_› rfl | exact rr0 3 rfl ‹_› rfl | exact rr 4 rfl ‹_› rfl | exact rr0 4 rfl ‹_› rfl | exact rr 5 rfl ‹_› rfl | exact rr0 5 rfl ‹_› rfl | exact rr 6 rfl ‹_› rfl | exact rr0 6 rfl ‹_› rfl | exact rr 7 rfl ‹_› rfl | exact rr0 7 rfl ‹_› rfl)) rfl rfl ?_
          refine xV (e_fld Try.underlying67 rfl Try.sizeOf3 rfl (q0 rfl)) rfl rfl ?_
          refine xV (e_ld Try.isAgg3 (q0 rfl) (by first | exact bx 0 rfl rfl | exact bx 1 rfl rfl | exact bx 2 rfl rfl | exact bx 3 rfl rfl | exact bx 4 rfl rfl | exact bx 5 rfl rfl | exact bx 6 rfl rfl | exact bx 7 rfl rfl | exact bx 8 rfl rfl | exact bx 9 rfl rfl | exact rc ‹_› ‹_› rfl | exact rc0 ‹_› ‹_› rfl | exact xc ‹_› ‹_› | exact rr 0 rfl ‹_› rfl | exact rr0 0 rfl ‹_› rfl | exact rr 1 rfl ‹_› rfl | exact rr0 1 rfl ‹_› rfl | exact rr 2 rfl ‹_› rfl | exact rr0 2 rfl ‹_› rfl | exact rr 3 rfl ‹_› rfl | exact rr0 3 rfl ‹_› rfl | exact rr 4 rfl ‹_› rfl | exact rr0 4 rfl ‹_› rfl | exact rr 5 rfl ‹_› rfl | exact rr0 5 rfl ‹_› rfl | exact rr 6 rfl ‹_› rfl | exact rr0 6 rfl ‹_› rfl | exact rr 7 rfl ‹_› rfl | exact rr0 7 rfl ‹_› rfl)) rfl rfl ?_
          refine xV (e_lds Try.isAgg41 Try.sizeOf41 (q0 rfl) (by first | exact bxs 0 rfl | exact bxs 1 rfl | exact bxs 2 rfl | exact bxs 3 rfl | exact bxs 4 rfl | exact bxs 5 rfl | exact bxs 6 rfl | exact bxs 7 rfl | exact bxs 8 rfl | exact bxs 9 rfl | exact rcs ‹_› ‹_› | exact rrs 0 rfl ‹_› | exact rrs 1 rfl ‹_› | exact rrs 2 rfl ‹_› | exact rrs 3 rfl ‹_› | exact rrs 4 rfl ‹_› | exact rrs 5 rfl ‹_› | exact rrs 6 rfl ‹_› | exact rrs 7 rfl ‹_›) rfl) rfl rfl ?_
          refine xV (e_idx _ Try.underlying37 Try.sizeOf41 (q0 rfl) (q0 rfl) (fun _ => ⟨rfl, by omega⟩)) rfl rfl ?_
          refine XN ?_
          refine thenJ_normal ?_
          refine X_eff (f_storeR0 3 ⟨3, 0, erid, false⟩ rfl rfl Try.sizeOf41 rfl rfl rfl hx2 rfl rfl ?_)
          refine XN ?_
          refine thenJ_normal ?_
          refine R0 ?_
          refine xV (e_mv (v := .pointer _) (q0 rfl)) rfl rfl ?_
          refine xV (e_fld Try.underlying67 rfl Try.sizeOf3 rfl (q0 rfl)) rfl rfl ?_
          refine xV (e_ld Try.isAgg3 (q0 rfl) (by first | exact bx 0 rfl rfl | exact bx 1 rfl rfl | exact bx 2 rfl rfl | exact bx 3 rfl rfl | exact bx 4 rfl rfl | exact bx 5 rfl rfl | exact bx 6 rfl rfl | exact bx 7 rfl rfl | exact bx 8 rfl rfl | exact bx 9 rfl rfl | exact rc ‹_› ‹_› rfl | exact rc0 ‹_› ‹_› rfl | exact xc ‹_› ‹_› | exact rr 0 rfl ‹_› rfl | exact rr0 0 rfl ‹_› rfl | exact rr 1 rfl ‹_› rfl | exact rr0 1 rfl ‹_› rfl | exact rr 2 rfl ‹_› rfl | exact rr0 2 rfl ‹_› rfl | exact rr 3 rfl ‹_› rfl | exact rr0 3 rfl ‹_› rfl | exact rr 4 rfl ‹_› rfl | exact rr0 4 rfl ‹_› rfl | exact rr 5 rfl ‹_› rfl | exact rr0 5 rfl ‹_› rfl | exact rr 6 rfl ‹_› rfl | exact rr0 6 rfl ‹_› rfl | exact rr 7 rfl ‹_› rfl | exact rr0 7 rfl ‹_› rfl)) rfl rfl ?_
          refine xV (e_nilc (q0 rfl)) rfl rfl ?_
          refine xV (e_fld Try.underlying127 rfl Try.sizeOf3 rfl (q0 rfl)) rfl rfl ?_
          refine X_eff (f_pmapStore 4 (off := 1) { p.2.2 with bike := (k : Int) } rfl rfl Try.sizeOf3 rfl rfl rfl hq (by show 1 + 1 ≤ 3; decide) rfl ?_)
          refine XN ?_
          refine blockJ_normal ?_
          exact end0 rfl hmk fun w' hw => ⟨⟨⟨(t.spots.set j x).set k ⟨3, 0, erid, false⟩, t.ps.set q (p.1, p.2.1, { p.2.2 with bike := (k : Int) }), t.used⟩, by
            unfold doP
            simp only at hg ⊢
            rw [if_neg (by omega), if_neg (by omega), if_neg (by omega), if_pos hk4, hv, hg]
            unfold TS.plain TS.open_
            simp only [Int.toNat_natCast, hj]
            rw [set_plain hI.keys hq, hp1, hp2]⟩, rfl, hw.tail.tail⟩
        · refine H_seq ?_
          refine H_seq ?_
          refine R0 ?_
          refine xV (e_eq (q0 rfl) (q0 rfl)) rfl rfl ?_
          refine xV (e_as (v := .bool _) (q0 rfl)) rfl rfl ?_
          refine XN ?_
          refine thenJ_normal ?_
          refine H_cond rfl (fun h5 => ?_) (fun h5 => ?_)
          · have h56 : ekind = 5 ∨ ekind = 6 := .inl (by simpa using h5)
            obtain ⟨q, p, hq, hf, hpz⟩ := pz_ex hI rfl hx hg h56 hc
            refine H_skip ?_
            refine thenJ_normal ?_
            refine H_cond rfl (fun h5b => ?_) (fun h5b => ?_)
            · have _ht : True := trivial
              refine R0 ?_
              refine xV (e_mv (v := .pointer _) (q0 rfl)) rfl rfl ?_
              refine xV (e_fld Try.underlying67 rfl Try.sizeOf3 rfl (q0 rfl)) rfl rfl ?_
              refine xV (e_ld Try.isAgg3 (q0 rfl) (by first | exact bx 0 rfl rfl | exact bx 1 rfl rfl | exact bx 2 rfl rfl | exact bx 3 rfl rfl | exact bx 4 rfl rfl | exact bx 5 rfl rfl | exact bx 6 rfl rfl | exact bx 7 rfl rfl | exact bx 8 rfl rfl | exact bx 9 rfl rfl | exact rc ‹_› ‹_› rfl | exact rc0 ‹_› ‹_› rfl | exact xc ‹_› ‹_› | exact rr 0 rfl ‹_› rfl | exact rr0 0 rfl ‹_› rfl | exact rr 1 rfl ‹_› rfl | exact rr0 1 rfl ‹_› rfl | exact rr 2 rfl ‹_› rfl | exact rr0 2 rfl ‹_› rfl | exact rr 3 rfl ‹_› rfl | exact rr0 3 rfl ‹_› rfl | exact rr 4 rfl ‹_› rfl | exact rr0 4 rfl ‹_› rfl | exact rr 5 rfl ‹_› rfl | exact rr0 5 rfl ‹_› rfl | exact rr 6 rfl ‹_› rfl | exact rr0 6 rfl ‹_› rfl | exact rr 7 rfl ‹_› rfl | exact rr0 7 rfl ‹_› rfl)) rfl rfl ?_
              refine xV (e_fld Try.underlying67 rfl Try.sizeOf3 rfl (q0 rfl)) rfl rfl ?_
              refine xV (e_ld Try.isAgg3 (q0 rfl) (by first | exact bx 0 rfl rfl | exact bx 1 rfl rfl | exact bx 2 rfl rfl | exact bx 3 rfl rfl | exact bx 4 rfl rfl | exact bx 5 rfl rfl | exact bx 6 rfl rfl | exact bx 7 rfl rfl | exact bx 8 rfl rfl | exact bx 9 rfl rfl | exact rc ‹_› ‹_› rfl | exact rc0 ‹_› ‹_› rfl | exact xc ‹_› ‹_› | exact rr 0 rfl ‹_› rfl | exact rr0 0 rfl ‹_› rfl | exact rr 1 rfl ‹_› rfl | exact rr0 1 rfl ‹_› rfl | exact rr 2 rfl ‹_› rfl | exact rr0 2 rfl ‹_› rfl | exact rr 3 rfl ‹_› rfl | exact rr0 3 rfl ‹_› rfl | exact rr 4 rfl ‹_› rfl | exact rr0 4 rfl ‹_› rfl | exact rr 5 rfl ‹_› rfl | exact rr0 5 rfl ‹_› rfl | exact rr 6 rfl ‹_› rfl | exact rr0 6 rfl ‹_› rfl | exact rr 7 rfl ‹_› rfl | exact rr0 7 rfl ‹_› rfl)) rfl rfl ?_
              refine xV (e_eq (q0 rfl) (q0 rfl)) rfl rfl ?_
              refine X_eff (f_callM (en Try.call87 (ha3 (q0 rfl) (q0 rfl) (q0 rfl))) (fun w hw => pause_w (Mem.rot (X := [_, _]) (S := stL f a s t) hw) hmk hl k hkn (decide (ekind = 5)) hx hq hf) rfl (fun _ => rfl) fun u => ?_)
              refine XN ?_
              refine blockJ_normal ?_
              exact end0 rfl hmk fun w' hw => ⟨⟨_, hpz⟩, rfl, Mem.cutM (X := [_, _]) hw⟩
            · rw [h5] at h5b; cases h5b
          · refine R0 ?_
            refine xV (e_eq (q0 rfl) (q0 rfl)) rfl rfl ?_
            refine xV (e_as (v := .bool _) (q0 rfl)) rfl rfl ?_
            refine XN ?_
            refine thenJ_normal ?_
            refine H_cond rfl (fun h6 => ?_) (fun h6 => ?_)
            · have h56 : ekind = 5 ∨ ekind = 6 := .inr (by simpa using h6)
              obtain ⟨q, p, hq, hf, hpz⟩ := pz_ex hI rfl hx hg h56 hc
              refine R0 ?_
              refine xV (e_mv (v := .pointer _) (q0 rfl)) rfl rfl ?_
              refine xV (e_fld Try.underlying67 rfl Try.sizeOf3 rfl (q0 rfl)) rfl rfl ?_
              refine xV (e_ld Try.isAgg3 (q0 rfl) (by first | exact bx 0 rfl rfl | exact bx 1 rfl rfl | exact bx 2 rfl rfl | exact bx 3 rfl rfl | exact bx 4 rfl rfl | exact bx 5 rfl rfl | exact bx 6 rfl rfl | exact bx 7 rfl rfl | exact bx 8 rfl rfl | exact bx 9 rfl rfl | exact rc ‹_› ‹_› rfl | exact rc0 ‹_› ‹_› rfl | exact xc ‹_› ‹_› | exact rr 0 rfl ‹_› rfl | exact rr0 0 rfl ‹_› rfl | exact rr 1 rfl ‹_› rfl | exact rr0 1 rfl ‹_› rfl | exact rr 2 rfl ‹_› rfl | exact rr0 2 rfl ‹_› rfl | exact rr 3 rfl ‹_› rfl | exact rr0 3 rfl ‹_› rfl | exact rr 4 rfl ‹_› rfl | exact rr0 4 rfl ‹_› rfl | exact rr 5 rfl ‹_› rfl | exact rr0 5 rfl ‹_› rfl | exact rr 6 rfl ‹_› rfl | exact rr0 6 rfl ‹_› rfl | exact rr 7 rfl ‹_› rfl | exact rr0 7 rfl ‹_› rfl)) rfl rfl ?_
              refine xV (e_fld Try.underlying67 rfl Try.sizeOf3 rfl (q0 rfl)) rfl rfl ?_
              refine xV (e_ld Try.isAgg3 (q0 rfl) (by first | exact bx 0 rfl rfl | exact bx 1 rfl rfl | exact bx 2 rfl rfl | exact bx 3 rfl rfl | exact bx 4 rfl rfl | exact bx 5 rfl rfl | exact bx 6 rfl rfl | exact bx 7 rfl rfl | exact bx 8 rfl rfl | exact bx 9 rfl rfl | exact rc ‹_› ‹_› rfl | exact rc0 ‹_› ‹_› rfl | exact xc ‹_› ‹_› | exact rr 0 rfl ‹_› rfl | exact rr0 0 rfl ‹_› rfl | exact rr 1 rfl ‹_› rfl | exact rr0 1 rfl ‹_› rfl | exact rr 2 rfl ‹_› rfl | exact rr0 2 rfl ‹_› rfl | exact rr 3 rfl ‹_› rfl | exact rr0 3 rfl ‹_› rfl | exact rr 4 rfl ‹_› rfl | exact rr0 4 rfl ‹_› rfl | exact rr 5 rfl ‹_› rfl | exact rr0 5 rfl ‹_› rfl | exact rr 6 rfl ‹_› rfl | exact rr0 6 rfl ‹_› rfl | exact rr 7 rfl ‹_› rfl | exact rr0 7 rfl ‹_› rfl)) rfl rfl ?_
              refine xV (e_eq (q0 rfl) (q0 rfl)) rfl rfl ?_
              refine X_eff (f_callM (en Try.call87 (ha3 (q0 rfl) (q0 rfl) (q0 rfl))) (fun w hw => pause_w (Mem.rot (X := [_, _]) (S := stL f a s t) hw) hmk hl k hkn (decide (ekind = 5)) hx hq hf) rfl (fun _ => rfl) fun u => ?_)
              refine XN ?_
              refine blockJ_normal ?_
              exact end0 rfl hmk fun w' hw => ⟨⟨_, hpz⟩, rfl, Mem.cutM (X := [_, _]) hw⟩
            · refine H_seq ?_
              refine R0 ?_
              refine xV (e_eq (q0 rfl) (q0 rfl)) rfl rfl ?_
              refine xV (e_as (v := .bool _) (q0 rfl)) rfl rfl ?_
              refine XN ?_
              refine thenJ_normal ?_
              refine H_cond rfl (fun h7 => ?_) (fun h7 => ?_)
              · have hk7 : ekind = 7 := by simpa using h7
                refine R0 ?_
                refine xV (e_mv (v := .pointer _) (q0 rfl)) rfl rfl ?_
                refine xV (e_fld Try.underlying67 rfl Try.sizeOf3 rfl (q0 rfl)) rfl rfl ?_
                refine xV (e_ld Try.isAgg3 (q0 rfl) (by first | exact bx 0 rfl rfl | exact bx 1 rfl rfl | exact bx 2 rfl rfl | exact bx 3 rfl rfl | exact bx 4 rfl rfl | exact bx 5 rfl rfl | exact bx 6 rfl rfl | exact bx 7 rfl rfl | exact bx 8 rfl rfl | exact bx 9 rfl rfl | exact rc ‹_› ‹_› rfl | exact rc0 ‹_› ‹_› rfl | exact xc ‹_› ‹_› | exact rr 0 rfl ‹_› rfl | exact rr0 0 rfl ‹_› rfl | exact rr 1 rfl ‹_› rfl | exact rr0 1 rfl ‹_› rfl | exact rr 2 rfl ‹_› rfl | exact rr0 2 rfl ‹_› rfl | exact rr 3 rfl ‹_› rfl | exact rr0 3 rfl ‹_› rfl | exact rr 4 rfl ‹_› rfl | exact rr0 4 rfl ‹_› rfl | exact rr 5 rfl ‹_› rfl | exact rr0 5 rfl ‹_› rfl | exact rr 6 rfl ‹_› rfl | exact rr0 6 rfl ‹_› rfl | exact rr 7 rfl ‹_› rfl | exact rr0 7 rfl ‹_› rfl)) rfl rfl ?_
                refine xV (e_fld Try.underlying67 rfl Try.sizeOf3 rfl (q0 rfl)) rfl rfl ?_
                refine xV (e_ld Try.isAgg3 (q0 rfl) (by first | exact bx 0 rfl rfl | exact bx 1 rfl rfl | exact bx 2 rfl rfl | exact bx 3 rfl rfl | exact bx 4 rfl rfl | exact bx 5 rfl rfl | exact bx 6 rfl rfl | exact bx 7 rfl rfl | exact bx 8 rfl rfl | exact bx 9 rfl rfl | exact rc ‹_› ‹_› rfl | exact rc0 ‹_› ‹_› rfl | exact xc ‹_› ‹_› | exact rr 0 rfl ‹_› rfl | exact rr0 0 rfl ‹_› rfl | exact rr 1 rfl ‹_› rfl | exact rr0 1 rfl ‹_› rfl | exact rr 2 rfl ‹_› rfl | exact rr0 2 rfl ‹_› rfl | exact rr 3 rfl ‹_› rfl | exact rr0 3 rfl ‹_› rfl | exact rr 4 rfl ‹_› rfl | exact rr0 4 rfl ‹_› rfl | exact rr 5 rfl ‹_› rfl | exact rr0 5 rfl ‹_› rfl | exact rr 6 rfl ‹_› rfl | exact rr0 6 rfl ‹_› rfl | exact rr 7 rfl ‹_› rfl | exact rr0 7 rfl ‹_› rfl)) rfl rfl ?_
                refine xV (e_build Try.underlying41 fl41 Try.zeroValue41 (pt (v := .int _ _) rfl (pt (v := .int _ _) rfl E.p0)) rfl) rfl rfl ?_
                refine X_eff (f_callM (en Try.call86 (ha3 (q0 rfl) (q0 rfl) (q0 rfl))) (fun w hw => leave_w (Mem.rot (X := [_, _]) (S := stL f a s t) hw) hmk hl k hkn ⟨4, epl, 0, false⟩) rfl (fun _ => rfl) fun u => ?_)
                refine XN ?_
                refine blockJ_normal ?_
                exact end0 rfl hmk fun w' hw => ⟨⟨_, (leaveT_plain _ _ _).trans (d7 hk7).symm⟩, rfl, Mem.cutM (X := [_, _]) hw⟩
              · refine H_seq ?_
                refine R0 ?_
                refine xV (e_eq (q0 rfl) (q0 rfl)) rfl rfl ?_
                refine xV (e_as (v := .bool _) (q0 rfl)) rfl rfl ?_
                refine XN ?_
                refine thenJ_normal ?_
                refine H_cond rfl (fun h8 => ?_) (fun h8 => ?_)
                · have hk8 : ekind = 8 := by simpa using h8
                  refine R0 ?_
                  refine xV (e_mv (v := .pointer _) (q0 rfl)) rfl rfl ?_
                  refine xV (e_fld Try.underlying67 rfl Try.sizeOf3 rfl (q0 rfl)) rfl rfl ?_
                  refine xV (e_ld Try.isAgg3 (q0 rfl) (by first | exact bx 0 rfl rfl | exact bx 1 rfl rfl | exact bx 2 rfl rfl | exact bx 3 rfl rfl | exact bx 4 rfl rfl | exact bx 5 rfl rfl | exact bx 6 rfl rfl | exact bx 7 rfl rfl | exact bx 8 rfl rfl | exact bx 9 rfl rfl | exact rc ‹_› ‹_› rfl | exact rc0 ‹_› ‹_› rfl | exact xc ‹_› ‹_› | exact rr 0 rfl ‹_› rfl | exact rr0 0 rfl ‹_› rfl | exact rr 1 rfl ‹_› rfl | exact rr0 1 rfl ‹_› rfl | exact rr 2 rfl ‹_› rfl | exact rr0 2 rfl ‹_› rfl | exact rr 3 rfl ‹_› rfl | exact rr0 3 rfl ‹_› rfl | exact rr 4 rfl ‹_› rfl | exact rr0 4 rfl ‹_› rfl | exact rr 5 rfl ‹_› rfl | exact rr0 5 rfl ‹_› rfl | exact rr 6 rfl ‹_› rfl | exact rr0 6 rfl ‹_› rfl | exact rr 7 rfl ‹_› rfl | exact rr0 7 rfl ‹_› rfl)) rfl rfl ?_
                  refine xV (e_build Try.underlying41 fl41 Try.zeroValue41 (pt (v := .int _ _) rfl E.p0) rfl) rfl rfl ?_
                  refine X_eff (f_callM (en Try.call86 (ha3 (q0 rfl) (q0 rfl) (q0 rfl))) (fun w hw => leave_w (Mem.rot (X := [_, _]) (S := stL f a s t) hw) hmk hl k hkn ⟨5, 0, 0, false⟩) rfl (fun _ => rfl) fun u => ?_)
                  refine XN ?_
                  refine blockJ_normal ?_
                  exact end0 rfl hmk fun w' hw => ⟨⟨_, (leaveT_plain _ _ _).trans (d8 hk8).symm⟩, rfl, Mem.cutM (X := [_, _]) hw⟩
                · refine H_seq ?_
                  refine R0 ?_
                  refine xV (e_eq (q0 rfl) (q0 rfl)) rfl rfl ?_
                  refine xV (e_as (v := .bool _) (q0 rfl)) rfl rfl ?_
                  refine XN ?_
                  refine thenJ_normal ?_
                  refine H_cond rfl (fun h9 => ?_) (fun h9 => ?_)
                  · have hk9 : ekind = 9 := by simpa using h9
                    refine R0 ?_
                    refine xV (e_mv (v := .pointer _) (q0 rfl)) rfl rfl ?_
                    refine xV (e_fld Try.underlying67 rfl Try.sizeOf3 rfl (q0 rfl)) rfl rfl ?_
                    refine xV (e_ld Try.isAgg3 (q0 rfl) (by first | exact bx 0 rfl rfl | exact bx 1 rfl rfl | exact bx 2 rfl rfl | exact bx 3 rfl rfl | exact bx 4 rfl rfl | exact bx 5 rfl rfl | exact bx 6 rfl rfl | exact bx 7 rfl rfl | exact bx 8 rfl rfl | exact bx 9 rfl rfl | exact rc ‹_› ‹_› rfl | exact rc0 ‹_› ‹_› rfl | exact xc ‹_› ‹_› | exact rr 0 rfl ‹_› rfl | exact rr0 0 rfl ‹_› rfl | exact rr 1 rfl ‹_› rfl | exact rr0 1 rfl ‹_› rfl | exact rr 2 rfl ‹_› rfl | exact rr0 2 rfl ‹_› rfl | exact rr 3 rfl ‹_› rfl | exact rr0 3 rfl ‹_› rfl | exact rr 4 rfl ‹_› rfl | exact rr0 4 rfl ‹_› rfl | exact rr 5 rfl ‹_› rfl | exact rr0 5 rfl ‹_› rfl | exact rr 6 rfl ‹_› rfl | exact rr0 6 rfl ‹_› rfl | exact rr 7 rfl ‹_› rfl | exact rr0 7 rfl ‹_› rfl)) rfl rfl ?_
                    refine xV (e_build Try.underlying41 fl41 Try.zeroValue41 (pt (v := .int _ _) rfl E.p0) rfl) rfl rfl ?_
                    refine X_eff (f_callM (en Try.call86 (ha3 (q0 rfl) (q0 rfl) (q0 rfl))) (fun w hw => leave_w (Mem.rot (X := [_, _]) (S := stL f a s t) hw) hmk hl k hkn ⟨6, 0, 0, false⟩) rfl (fun _ => rfl) fun u => ?_)
                    refine XN ?_
                    refine blockJ_normal ?_
                    exact end0 rfl hmk fun w' hw => ⟨⟨_, (leaveT_plain _ _ _).trans (d9 hk9).symm⟩, rfl, Mem.cutM (X := [_, _]) hw⟩
                  · refine H_skip ?_
                    refine blockJ_normal ?_
                    exact end0 rfl hmk fun w' hw => ⟨⟨t, (d0 (by simp at h1 h2 h3 h4 h5 h6 h7 h8 h9; omega)).symm⟩, rfl, hw.tail.tail⟩

end Go.Proofs.Cus
