import Derived.Test.YtlihpbblpmpcfaaRid3
import Derived.Test.YtlihpbblpmpcfaaRid2
set_option linter.unusedVariables false
set_option linter.unusedSimpArgs false
/-
  The walks: is a ride right (the reference's way): numbers and intervals, legs that follow one another; marks of pauses.
-/
namespace Go.Proofs.Rid
open Go Go.RowKit Go.Proofs.E Go.Proofs.Cus

def linkP : Lg → List Lg → Bool
  | _, [] => true
  | a, g :: l => decide (g.from_ = a.to_) && linkP g l
theorem chain_link : ∀ (l : List Lg) (g : Lg) (s e : Spn), chainP s (g :: l) e = ((decide (g.from_ = s) && linkP g l) && decide (((g :: l).getD l.length default).to_ = e))
  | [], g, s, e => by simp [chainP, linkP]
  | h :: l, g, s, e => by
    have ih := chain_link l h g.to_ e
    rw [show chainP s (g :: h :: l) e = (decide (g.from_ = s) && chainP g.to_ (h :: l) e) from rfl, ih]
    show _ = ((decide (g.from_ = s) && (decide (h.from_ = g.to_) && linkP h l)) && decide (((h :: l).getD l.length default).to_ = e))
    cases decide (g.from_ = s) <;> cases decide (h.from_ = g.to_) <;> cases linkP h l <;> rfl
theorem link_drop {l : List Lg} {k : Nat} {a b : Lg} (ha : l[k]? = some a) (hb : l[k + 1]? = some b) : linkP a (l.drop (k + 1)) = (decide (b.from_ = a.to_) && linkP b (l.drop (k + 2))) := by
  rw [drop_of hb]; rfl
theorem rspan_w (s : Spn) (w : World) : Calls Try.prog 52 #[.agg s.cells.toArray] w fun e w' => e = .returned (.bool (spOk s)) ∧ Bel w w' := by
  refine H_enter Try.func52 rfl Try.ntmps52 rfl ?_
  refine H_seq ?_
  refine R0 ?_
  refine X_box (v := .agg _) rfl rfl fun b1 => ?_
  refine xV (e_as (v := .bool _) (q0 rfl)) rfl rfl ?_
  refine XN ?_
  refine thenJ_normal ?_
  refine H_seq ?_
  refine R0 ?_
  refine xV (e_fld Try.underlying23 rfl Try.sizeOf3 rfl (q0 rfl)) rfl rfl ?_
  refine xV (eL Try.isAgg3 (q0 rfl)) rfl rfl ?_
  refine xV (e_ge (q0 rfl) (q0 rfl)) rfl rfl ?_
  refine xV (e_mv (v := .bool _) (q0 rfl)) rfl rfl ?_
  refine xVT (e_fld Try.underlying23 rfl Try.sizeOf3 rfl (q0 rfl)) rfl rfl rfl rfl ?_
  refine xVT (eL Try.isAgg3 (q1 rfl)) rfl rfl rfl rfl ?_
  refine xVT (e_fld Try.underlying23 rfl Try.sizeOf3 rfl (q0 rfl)) rfl rfl rfl rfl ?_
  refine xVT (eL Try.isAgg3 (q1 rfl)) rfl rfl rfl rfl ?_
  refine xVT (e_le (q1 rfl) (q1 rfl)) rfl rfl rfl rfl ?_
  refine xV (e_and (q0 rfl) rfl (fun h => by first | rfl | (rw [h]; rfl))) rfl rfl ?_
  refine xV (e_mv (v := .bool _) (q0 rfl)) rfl rfl ?_
  refine xVT (e_fld Try.underlying23 rfl Try.sizeOf3 rfl (q0 rfl)) rfl rfl rfl rfl ?_
  refine xVT (eL Try.isAgg3 (q1 rfl)) rfl rfl rfl rfl ?_
  refine xVT (e_le (q1 rfl) (q0 rfl)) rfl rfl rfl rfl ?_
  refine xV (e_and (q0 rfl) rfl (fun h => by first | rfl | (rw [h]; rfl))) rfl rfl ?_
  refine xV (e_as (v := .bool _) (q0 rfl)) rfl rfl ?_
  refine XN ?_
  refine thenJ_normal ?_
  refine H_ret ?_
  exact ret1 (v := .bool _) rfl rfl rfl fun w' hw => ⟨rfl, hw.1⟩
set_option maxHeartbeats 1000000 in
set_option maxRecDepth 20000 in
theorem rranged_w (x : RX) (w : World) (hx : RdAt w x) : Calls Try.prog 35 #[.agg x.cells.toArray] w fun e w' => e = .returned (.bool (rangedP x.r)) ∧ Bel w w' := by
  obtain ⟨r, ⟨lA, lc, pA, pc⟩⟩ := x
  obtain ⟨hlg, hpz⟩ := hx
  simp only at hlg hpz
  have hln := hlg.2.1
  have hpn := hpz.2.1
  refine H_enter Try.func35 rfl Try.ntmps35 rfl ?_
  refine H_seq ?_
  refine R0 ?_
  refine X_box (v := .agg _) rfl rfl fun b1 => ?_
  refine xV (e_as (v := .bool _) (q0 rfl)) rfl rfl ?_
  refine XN ?_
  refine thenJ_normal ?_
  refine H_seq ?_
  refine H_seq ?_
  refine R0 ?_
  refine xV (e_fld Try.underlying27 rfl Try.sizeOf3 rfl (q0 rfl)) rfl rfl ?_
  refine xV (eL Try.isAgg3 (q0 rfl)) rfl rfl ?_
  refine xV (e_lt (q0 rfl) (q0 rfl)) rfl rfl ?_
  refine xV (e_mv (v := .bool _) (q0 rfl)) rfl rfl ?_
  refine xVF (e_fld Try.underlying27 rfl Try.sizeOf3 rfl (q0 rfl)) rfl rfl rfl rfl ?_
  refine xVF (eL Try.isAgg3 (q1 rfl)) rfl rfl rfl rfl ?_
  refine xVF (e_gt (q1 rfl) (q0 rfl)) rfl rfl rfl rfl ?_
  refine xV (e_or (q0 rfl) rfl (fun h => by first | rfl | (rw [h]; rfl))) rfl rfl ?_
  refine xV (e_mv (v := .bool _) (q0 rfl)) rfl rfl ?_
  refine xVF (e_fld Try.underlying27 rfl Try.sizeOf3 rfl (q0 rfl)) rfl rfl rfl rfl ?_
  refine xVF (eL Try.isAgg3 (q1 rfl)) rfl rfl rfl rfl ?_
  refine xVF (e_lt (q1 rfl) (q0 rfl)) rfl rfl rfl rfl ?_
  refine xV (e_or (q0 rfl) rfl (fun h => by first | rfl | (rw [h]; rfl))) rfl rfl ?_
  refine xV (e_mv (v := .bool _) (q0 rfl)) rfl rfl ?_
  refine xVF (e_fld Try.underlying27 rfl Try.sizeOf3 rfl (q0 rfl)) rfl rfl rfl rfl ?_
  refine xVF (eL Try.isAgg3 (q1 rfl)) rfl rfl rfl rfl ?_
  refine xVF (e_ge (q1 rfl) (q0 rfl)) rfl rfl rfl rfl ?_
  refine xV (e_or (q0 rfl) rfl (fun h => by first | rfl | (rw [h]; rfl))) rfl rfl ?_
  refine xV (e_mv (v := .bool _) (q0 rfl)) rfl rfl ?_
  refine xVF (e_fld Try.underlying27 rfl Try.sizeOf23 rfl (q0 rfl)) rfl rfl rfl rfl ?_
  refine xVF (eP Try.isAgg23 Try.sizeOf23 (q1 rfl)) rfl rfl rfl rfl ?_
  refine xCF (en Try.call52 (ha1 (q1 (v := .agg _) rfl))) (fun _ w _ => rspan_w r.start w) rfl rfl rfl rfl ?_
  refine xVF (e_not (q1 rfl)) rfl rfl rfl rfl ?_
  refine xV (e_or (q0 rfl) rfl (fun h => by first | rfl | (rw [h]; rfl))) rfl rfl ?_
  refine xV (e_mv (v := .bool _) (q0 rfl)) rfl rfl ?_
  refine xVF (e_fld Try.underlying27 rfl Try.sizeOf23 rfl (q0 rfl)) rfl rfl rfl rfl ?_
  refine xVF (eP Try.isAgg23 Try.sizeOf23 (q1 rfl)) rfl rfl rfl rfl ?_
  refine xCF (en Try.call52 (ha1 (q1 (v := .agg _) rfl))) (fun _ w _ => rspan_w r.end_ w) rfl rfl rfl rfl ?_
  refine xVF (e_not (q1 rfl)) rfl rfl rfl rfl ?_
  refine xV (e_or (q0 rfl) rfl (fun h => by first | rfl | (rw [h]; rfl))) rfl rfl ?_
  refine XN ?_
  refine thenJ_normal ?_
  refine H_cond rfl (fun h1 => ?_) (fun h1 => ?_)
  · refine H_seq ?_
    refine R0 ?_
    refine xV (e_as (v := .bool _) (q0 rfl)) rfl rfl ?_
    refine XN ?_
    refine thenJ_normal ?_
    refine H_ret ?_
    refine thenJ_ret ?_
    exact ret1 (v := .bool _) rfl rfl rfl fun w' hw => ⟨ret_bool (by unfold rangedP; rw [show headBad r = true from h1]; rfl), hw.1⟩
  · have hrg : rangedP r = (r.legs.all lgOk && r.pauses.all pzOk) := by unfold rangedP; rw [show headBad r = false from h1]; rfl
    rw [hrg]
    refine H_skip ?_
    refine thenJ_normal ?_
    refine H_seq ?_
    refine H_seq ?_
    refine R0 ?_
    refine xV (e_as (v := .int _ _) (q0 rfl)) rfl rfl ?_
    refine XN ?_
    refine thenJ_normal ?_
    refine H_block ?_
    refine H_loop [2, 3, 35, 36, 37, 38, 39, 40, 41, 42, 43, 44, 45, 46, 47, 48, 49, 50, 51, 52, 53, 54, 55, 56, 57, 58, 59] (fun k : Nat => [(3, .int .i64 k)]) (fun _ => [box b1 27 (RX.cells ⟨r, ⟨lA, lc, pA, pc⟩⟩)]) (fun k => k ≤ r.legs.length ∧ r.legs.all lgOk = (r.legs.drop k).all lgOk) (fun k => r.legs.length - k) 0 ⟨rfl, trivial⟩ (fun w hw => hw) rfl ⟨Nat.zero_le _, rfl⟩ ?_
    rintro k g ⟨hk, hall⟩
    refine H_seq ?_
    refine H_seq ?_
    refine R0 ?_
    refine xV (e_mv (v := .int _ _) (q0 rfl)) rfl rfl ?_
    refine xV (e_fld Try.underlying27 rfl Try.sizeOf24 rfl (q0 rfl)) rfl rfl ?_
    refine xV (eL Try.isAgg24 (q0 rfl)) rfl rfl ?_
    refine xV (e_len Try.underlying24 (q0 rfl)) rfl rfl ?_
    refine xV (e_lt (q0 rfl) (q0 rfl)) rfl rfl ?_
    refine XN ?_
    refine thenJ_normal ?_
    refine H_cond rfl (fun hlt => ?_) (fun hlt => ?_)
    · have hlt' : k < r.legs.length := by simpa using hlt
      obtain ⟨b, off, y, rfl, hbl, hy, hry⟩ := hlg.at_ hlt'
      rw [drop_of hy, List.all_cons] at hall
      refine H_skip ?_
      refine thenJ_normal ?_
      refine H_seq ?_
      refine H_block ?_
      refine H_seq ?_
      refine R0 ?_
      refine xV (e_fld Try.underlying27 rfl Try.sizeOf24 rfl (q0 rfl)) rfl rfl ?_
      refine xV (eL Try.isAgg24 (q0 rfl)) rfl rfl ?_
      refine xV (e_mv (v := .int _ _) (q0 rfl)) rfl rfl ?_
      refine xV (e_idx k Try.underlying24 Try.sizeOf52 (q0 rfl) (q0 rfl) (fun _ => ⟨rfl, hlt'⟩)) rfl rfl ?_
      refine xV (e_fld Try.underlying52 rfl Try.sizeOf23 rfl (q0 rfl)) rfl rfl ?_
      refine xV (eP Try.isAgg23 Try.sizeOf23 (q0 rfl)) rfl rfl ?_
      refine xC (en Try.call52 (ha1 (q0 rfl))) (fun _ w _ => rspan_w y.from_ w) rfl rfl ?_
      refine xV (e_not (q0 rfl)) rfl rfl ?_
      refine xV (e_mv (v := .bool _) (q0 rfl)) rfl rfl ?_
      refine xVF (e_fld Try.underlying27 rfl Try.sizeOf24 rfl (q0 rfl)) rfl rfl rfl rfl ?_
      refine xVF (eL Try.isAgg24 (q1 rfl)) rfl rfl rfl rfl ?_
      refine xVF (e_mv (v := .int _ _) (q0 rfl)) rfl rfl rfl rfl ?_
      refine xVF (e_idx k Try.underlying24 Try.sizeOf52 (q1 rfl) (q1 rfl) (fun _ => ⟨rfl, hlt'⟩)) rfl rfl rfl rfl ?_
      refine xVF (e_fld Try.underlying52 rfl Try.sizeOf23 rfl (q1 rfl)) rfl rfl rfl rfl ?_
      refine xVF (eP Try.isAgg23 Try.sizeOf23 (q1 rfl)) rfl rfl rfl rfl ?_
      refine xCF (en Try.call52 (ha1 (q1 (v := .agg _) rfl))) (fun _ w _ => rspan_w y.to_ w) rfl rfl rfl rfl ?_
      refine xVF (e_not (q1 rfl)) rfl rfl rfl rfl ?_
      refine xV (e_or (q0 rfl) rfl (fun h => by first | rfl | (rw [h]; rfl))) rfl rfl ?_
      refine XN ?_
      refine thenJ_normal ?_
      refine H_cond rfl (fun hb => ?_) (fun hb => ?_)
      · have hy0 : lgOk y = false := by unfold lgOk; revert hb; cases spOk y.from_ <;> cases spOk y.to_ <;> simp
        rw [hall, hy0]
        refine H_seq ?_
        refine R0 ?_
        refine xV (e_as (v := .bool _) (q0 rfl)) rfl rfl ?_
        refine XN ?_
        refine thenJ_normal ?_
        refine H_ret ?_
        refine blockJ_ret ?_
        refine thenJ_ret ?_
        refine loopJ_ret ?_
        refine blockJ_ret ?_
        refine thenJ_ret ?_
        exact ret1 (v := .bool _) rfl rfl rfl fun w' hw => ⟨rfl, hw.1⟩
      · have hy1 : lgOk y = true := by unfold lgOk; revert hb; cases spOk y.from_ <;> cases spOk y.to_ <;> simp
        rw [hy1, Bool.true_and] at hall
        refine H_skip ?_
        refine blockJ_normal ?_
        refine thenJ_normal ?_
        refine R0 ?_
        refine xV (e_mv (v := .int _ _) (q0 rfl)) rfl rfl ?_
        refine xV (e_add (q0 rfl) (q0 rfl) (fun _ => ⟨rfl, by omega, by omega⟩)) rfl rfl ?_
        refine xV (e_as (v := .int _ _) (q0 rfl)) rfl rfl ?_
        refine XN ?_
        exact loopJ_normal (k + 1) (by repeat (first | exact agree_self | exact agree_over | refine agree_upd rfl ?_ | refine agree_updL rfl ?_ | refine agree_over2 rfl ?_)) ⟨rfl, trivial⟩ (fun w hw => hw) rfl ⟨by omega, hall⟩ (by show r.legs.length - (k + 1) < r.legs.length - k; omega)
    · have hend : k = r.legs.length := by simp at hlt; omega
      rw [hall, hend, List.drop_length, List.all_nil, Bool.true_and]
      refine H_exit ?_
      refine thenJ_exit ?_
      refine loopJ_exit ?_
      refine blockJ_hit ?_
      refine thenJ_normal ?_
      refine H_seq ?_
      refine H_seq ?_
      refine R0 ?_
      refine xV (e_as (v := .int _ _) (q0 rfl)) rfl rfl ?_
      refine XN ?_
      refine thenJ_normal ?_
      refine H_block ?_
      refine H_loop [2, 4, 60, 61, 62, 63, 64, 65, 66, 67, 68, 69, 70, 71, 72, 73, 74, 75, 76, 77, 78, 79, 80, 81, 82, 83, 84] (fun k : Nat => [(4, .int .i64 k)]) (fun _ => [box b1 27 (RX.cells ⟨r, ⟨lA, lc, pA, pc⟩⟩)]) (fun k => k ≤ r.pauses.length ∧ r.pauses.all pzOk = (r.pauses.drop k).all pzOk) (fun k => r.pauses.length - k) 0 ⟨rfl, trivial⟩ (fun w hw => hw) rfl ⟨Nat.zero_le _, rfl⟩ ?_
      rintro q g2 ⟨hq, hall2⟩
      refine H_seq ?_
      refine H_seq ?_
      refine R0 ?_
      refine xV (e_mv (v := .int _ _) (q0 rfl)) rfl rfl ?_
      refine xV (e_fld Try.underlying27 rfl Try.sizeOf25 rfl (q0 rfl)) rfl rfl ?_
      refine xV (eL Try.isAgg25 (q0 rfl)) rfl rfl ?_
      refine xV (e_len Try.underlying25 (q0 rfl)) rfl rfl ?_
      refine xV (e_lt (q0 rfl) (q0 rfl)) rfl rfl ?_
      refine XN ?_
      refine thenJ_normal ?_
      refine H_cond rfl (fun hlt2 => ?_) (fun hlt2 => ?_)
      · have hlt2' : q < r.pauses.length := by simpa using hlt2
        obtain ⟨b, off, y, rfl, hbl, hy, hry⟩ := hpz.at_ hlt2'
        rw [drop_of hy, List.all_cons] at hall2
        refine H_skip ?_
        refine thenJ_normal ?_
        refine H_seq ?_
        refine H_block ?_
        refine H_seq ?_
        refine R0 ?_
        refine xV (e_fld Try.underlying27 rfl Try.sizeOf25 rfl (q0 rfl)) rfl rfl ?_
        refine xV (eL Try.isAgg25 (q0 rfl)) rfl rfl ?_
        refine xV (e_mv (v := .int _ _) (q0 rfl)) rfl rfl ?_
        refine xV (e_idx q Try.underlying25 Try.sizeOf71 (q0 rfl) (q0 rfl) (fun _ => ⟨rfl, hlt2'⟩)) rfl rfl ?_
        refine xV (e_fld Try.underlying71 rfl Try.sizeOf23 rfl (q0 rfl)) rfl rfl ?_
        refine xV (eP Try.isAgg23 Try.sizeOf23 (q0 rfl)) rfl rfl ?_
        refine xC (en Try.call52 (ha1 (q0 rfl))) (fun _ w _ => rspan_w y.from_ w) rfl rfl ?_
        refine xV (e_not (q0 rfl)) rfl rfl ?_
        refine xV (e_mv (v := .bool _) (q0 rfl)) rfl rfl ?_
        refine xVF (e_fld Try.underlying27 rfl Try.sizeOf25 rfl (q0 rfl)) rfl rfl rfl rfl ?_
        refine xVF (eL Try.isAgg25 (q1 rfl)) rfl rfl rfl rfl ?_
        refine xVF (e_mv (v := .int _ _) (q0 rfl)) rfl rfl rfl rfl ?_
        refine xVF (e_idx q Try.underlying25 Try.sizeOf71 (q1 rfl) (q1 rfl) (fun _ => ⟨rfl, hlt2'⟩)) rfl rfl rfl rfl ?_
        refine xVF (e_fld Try.underlying71 rfl Try.sizeOf23 rfl (q1 rfl)) rfl rfl rfl rfl ?_
        refine xVF (eP Try.isAgg23 Try.sizeOf23 (q1 rfl)) rfl rfl rfl rfl ?_
        refine xCF (en Try.call52 (ha1 (q1 (v := .agg _) rfl))) (fun _ w _ => rspan_w y.to_ w) rfl rfl rfl rfl ?_
        refine xVF (e_not (q1 rfl)) rfl rfl rfl rfl ?_
        refine xV (e_or (q0 rfl) rfl (fun h => by first | rfl | (rw [h]; rfl))) rfl rfl ?_
        refine XN ?_
        refine thenJ_normal ?_
        refine H_cond rfl (fun hb => ?_) (fun hb => ?_)
        · have hy0 : pzOk y = false := by unfold pzOk; revert hb; cases spOk y.from_ <;> cases spOk y.to_ <;> simp
          rw [hall2, hy0]
          refine H_seq ?_
          refine R0 ?_
          refine xV (e_as (v := .bool _) (q0 rfl)) rfl rfl ?_
          refine XN ?_
          refine thenJ_normal ?_
          refine H_ret ?_
          refine blockJ_ret ?_
          refine thenJ_ret ?_
          refine loopJ_ret ?_
          refine blockJ_ret ?_
          refine thenJ_ret ?_
          exact ret1 (v := .bool _) rfl rfl rfl fun w' hw => ⟨rfl, hw.1⟩
        · have hy1 : pzOk y = true := by unfold pzOk; revert hb; cases spOk y.from_ <;> cases spOk y.to_ <;> simp
          rw [hy1, Bool.true_and] at hall2
          refine H_skip ?_
          refine blockJ_normal ?_
          refine thenJ_normal ?_
          refine R0 ?_
          refine xV (e_mv (v := .int _ _) (q0 rfl)) rfl rfl ?_
          refine xV (e_add (q0 rfl) (q0 rfl) (fun _ => ⟨rfl, by omega, by omega⟩)) rfl rfl ?_
          refine xV (e_as (v := .int _ _) (q0 rfl)) rfl rfl ?_
          refine XN ?_
          exact loopJ_normal (q + 1) (by repeat (first | exact agree_self | exact agree_over | refine agree_upd rfl ?_ | refine agree_updL rfl ?_ | refine agree_over2 rfl ?_)) ⟨rfl, trivial⟩ (fun w hw => hw) rfl ⟨by omega, hall2⟩ (by show r.pauses.length - (q + 1) < r.pauses.length - q; omega)
      · have hend2 : q = r.pauses.length := by simp at hlt2; omega
        rw [hall2, hend2, List.drop_length, List.all_nil]
        refine H_exit ?_
        refine thenJ_exit ?_
        refine loopJ_exit ?_
        refine blockJ_hit ?_
        refine thenJ_normal ?_
        refine H_seq ?_
        refine R0 ?_
        refine xV (e_as (v := .bool _) (q0 rfl)) rfl rfl ?_
        refine XN ?_
        refine thenJ_normal ?_
        refine H_ret ?_
        exact ret1 (v := .bool _) rfl rfl rfl fun w' hw => ⟨rfl, hw.1⟩

end Go.Proofs.Rid

/-
  The walks: legs that follow one another (the reference's way).
-/
namespace Go.Proofs.Rid
open Go Go.RowKit Go.Proofs.E Go.Proofs.Cus

theorem chain_eq {l : List Lg} {m : Nat} {a z : Lg} {s e : Spn} (ha : l[0]? = some a) (hz : l[m]? = some z) (hm : l.length = m + 1) : chainP s l e = ((decide (a.from_ = s) && linkP a (l.drop 1)) && decide (z.to_ = e)) := by
  cases l with
  | nil => cases ha
  | cons g l =>
    have h1 : g = a := by simpa using ha
    subst h1
    rw [chain_link]
    have h2 : l.length = m := by simpa using hm
    have h3 : (g :: l).getD l.length default = z := by rw [h2, List.getD_eq_getElem?_getD, hz]; rfl
    rw [h3]
    rfl
theorem num_pos {r : Rd} (h : numBad r = false) : 0 < r.legs.length := by
  unfold numBad at h
  simp at h
  omega
set_option maxHeartbeats 1000000 in
set_option maxRecDepth 20000 in
theorem rjoined_w (x : RX) (w : World) (hx : RdAt w x) : Calls Try.prog 36 #[.agg x.cells.toArray] w fun e w' => e = .returned (.bool (joinedP x.r)) ∧ Bel w w' := by
  obtain ⟨r, ⟨lA, lc, pA, pc⟩⟩ := x
  obtain ⟨hlg, hpz⟩ := hx
  simp only at hlg hpz
  have hln := hlg.2.1
  have hpn := hpz.2.1
  refine H_enter Try.func36 rfl Try.ntmps36 rfl ?_
  refine H_seq ?_
  refine R0 ?_
  refine X_box (v := .agg _) rfl rfl fun b1 => ?_
  refine xV (e_as (v := .bool _) (q0 rfl)) rfl rfl ?_
  refine XN ?_
  refine thenJ_normal ?_
  refine H_seq ?_
  refine R0 ?_
  refine xV (e_fld Try.underlying27 rfl Try.sizeOf24 rfl (q0 rfl)) rfl rfl ?_
  refine xV (eL Try.isAgg24 (q0 rfl)) rfl rfl ?_
  refine xV (e_len Try.underlying24 (q0 rfl)) rfl rfl ?_
  refine xV (e_as (v := .int _ _) (q0 rfl)) rfl rfl ?_
  refine XN ?_
  refine thenJ_normal ?_
  refine H_seq ?_
  refine H_seq ?_
  cases hnb : numBad r
  case true =>
    have hd : (!numBad r) = false := by rw [hnb]; rfl
    have hd2 : (!(numBad r || false)) = false := by rw [hnb]; rfl
    refine R1 rfl (by decide +kernel) ?_
    refine xV (e_mv (v := .int _ _) (q0 rfl)) rfl rfl ?_
    refine xV (e_lt (q0 rfl) (q0 rfl)) rfl rfl ?_
    refine xV (e_mv (v := .bool _) (q0 rfl)) rfl rfl ?_
    refine xVF (e_mv (v := .int _ _) (q0 rfl)) rfl rfl rfl rfl ?_
    refine xVF (e_gt (q1 rfl) (q0 rfl)) rfl rfl rfl rfl ?_
    refine xV (e_or (q0 rfl) rfl (fun h => by first | rfl | (rw [h]; rfl))) rfl rfl ?_
    refine xV (e_mv (v := .bool _) (q0 rfl)) rfl rfl ?_
    refine xVF (e_fld Try.underlying27 rfl Try.sizeOf25 rfl (q0 rfl)) rfl rfl rfl rfl ?_
    refine xVF (eL Try.isAgg25 (q1 rfl)) rfl rfl rfl rfl ?_
    refine xVF (e_len Try.underlying25 (q1 rfl)) rfl rfl rfl rfl ?_
    refine xVF (e_gt (q1 rfl) (q0 rfl)) rfl rfl rfl rfl ?_
    refine xV (e_or (q0 rfl) rfl (fun h => by first | rfl | (rw [h]; rfl))) rfl rfl ?_
    refine xV (e_mv (v := .bool _) (q0 rfl)) rfl rfl ?_
    refine xVF (e_dead (v := .pointer none) (hd)) rfl rfl rfl rfl ?_
    refine xVF (e_dead (v := .slice none 0 0) (hd)) rfl rfl rfl rfl ?_
    refine xVF (e_dead (v := .pointer none) (hd)) rfl rfl rfl rfl ?_
    refine xVF (e_dead (v := .pointer none) (hd)) rfl rfl rfl rfl ?_
    refine xVF (e_dead (v := .agg #[]) (hd)) rfl rfl rfl rfl ?_
    refine xVF (e_dead (v := .pointer none) (hd)) rfl rfl rfl rfl ?_
    refine xVF (e_dead (v := .agg #[]) (hd)) rfl rfl rfl rfl ?_
    refine xVF (e_dead (v := .bool false) (hd)) rfl rfl rfl rfl ?_
    refine xV (e_or (q0 rfl) rfl (fun h => by first | rfl | (rw [h]; rfl))) rfl rfl ?_
    refine xV (e_mv (v := .bool _) (q0 rfl)) rfl rfl ?_
    refine xVF (e_dead (v := .pointer none) (hd2)) rfl rfl rfl rfl ?_
    refine xVF (e_dead (v := .slice none 0 0) (hd2)) rfl rfl rfl rfl ?_
    refine xVF (e_dead (v := .int .i64 0) (hd2)) rfl rfl rfl rfl ?_
    refine xVF (e_dead (v := .int .i64 0) (hd2)) rfl rfl rfl rfl ?_
    refine xVF (e_dead (v := .pointer none) (hd2)) rfl rfl rfl rfl ?_
    refine xVF (e_dead (v := .pointer none) (hd2)) rfl rfl rfl rfl ?_
    refine xVF (e_dead (v := .agg #[]) (hd2)) rfl rfl rfl rfl ?_
    refine xVF (e_dead (v := .pointer none) (hd2)) rfl rfl rfl rfl ?_
    refine xVF (e_dead (v := .agg #[]) (hd2)) rfl rfl rfl rfl ?_
    refine xVF (e_dead (v := .bool false) (hd2)) rfl rfl rfl rfl ?_
    refine xV (e_or (q0 rfl) rfl (fun h => by first | rfl | (rw [h]; rfl))) rfl rfl ?_
    refine XN ?_
    refine thenJ_normal ?_
    refine H_cond rfl (fun h1 => ?_) (fun h1 => ?_)
    · refine H_seq ?_
      refine R0 ?_
      refine xV (e_as (v := .bool _) (q0 rfl)) rfl rfl ?_
      refine XN ?_
      refine thenJ_normal ?_
      refine H_ret ?_
      refine thenJ_ret ?_
      exact ret1 (v := .bool _) rfl rfl rfl fun w' hw => ⟨ret_bool (by unfold joinedP; rw [hnb]; rfl), hw.1⟩
    · exfalso
      have h2 : ((numBad r || false) || false) = false := h1
      rw [hnb] at h2
      exact absurd h2 (by decide)
  case false =>
    have hpos := num_pos hnb
    obtain ⟨m, hm⟩ : ∃ m, r.legs.length = m + 1 := ⟨r.legs.length - 1, by omega⟩
    have hmi : (r.legs.length : Int) - 1 = (m : Int) := by omega
    have hml : m < r.legs.length := by omega
    obtain ⟨b, off, y, rfl, hbl, hy, hry⟩ := hlg.at_ hpos
    obtain ⟨z, hz, hrz⟩ := hlg.row hml
    have hch : joinedP r = ((decide (y.from_ = r.start) && linkP y (r.legs.drop 1)) && decide (z.to_ = r.end_)) := by
      unfold joinedP
      rw [hnb, chain_eq hy hz hm]; rfl
    refine R1 rfl (by decide +kernel) ?_
    refine xV (e_mv (v := .int _ _) (q0 rfl)) rfl rfl ?_
    refine xV (e_lt (q0 rfl) (q0 rfl)) rfl rfl ?_
    refine xV (e_mv (v := .bool _) (q0 rfl)) rfl rfl ?_
    refine xVF (e_mv (v := .int _ _) (q0 rfl)) rfl rfl rfl rfl ?_
    refine xVF (e_gt (q1 rfl) (q0 rfl)) rfl rfl rfl rfl ?_
    refine xV (e_or (q0 rfl) rfl (fun h => by first | rfl | (rw [h]; rfl))) rfl rfl ?_
    refine xV (e_mv (v := .bool _) (q0 rfl)) rfl rfl ?_
    refine xVF (e_fld Try.underlying27 rfl Try.sizeOf25 rfl (q0 rfl)) rfl rfl rfl rfl ?_
    refine xVF (eL Try.isAgg25 (q1 rfl)) rfl rfl rfl rfl ?_
    refine xVF (e_len Try.underlying25 (q1 rfl)) rfl rfl rfl rfl ?_
    refine xVF (e_gt (q1 rfl) (q0 rfl)) rfl rfl rfl rfl ?_
    refine xV (e_or (q0 rfl) rfl (fun h => by first | rfl | (rw [h]; rfl))) rfl rfl ?_
    refine xV (e_mv (v := .bool _) (q0 rfl)) rfl rfl ?_
    refine xVF (e_fld Try.underlying27 rfl Try.sizeOf24 rfl (q0 rfl)) rfl rfl rfl rfl ?_
    refine xVF (eL Try.isAgg24 (q1 rfl)) rfl rfl rfl rfl ?_
    refine xVF (e_idx 0 Try.underlying24 Try.sizeOf52 (q1 rfl) (q0 rfl) (fun _ => ⟨rfl, hpos⟩)) rfl rfl rfl rfl ?_
    refine xVF (e_fld Try.underlying52 rfl Try.sizeOf23 rfl (q1 rfl)) rfl rfl rfl rfl ?_
    refine xVF (eP Try.isAgg23 Try.sizeOf23 (q1 rfl) (by exact rp (p := 1) hry hbl rfl)) rfl rfl rfl rfl ?_
    refine xVF (e_fld Try.underlying27 rfl Try.sizeOf23 rfl (q0 rfl)) rfl rfl rfl rfl ?_
    refine xVF (eP Try.isAgg23 Try.sizeOf23 (q1 rfl)) rfl rfl rfl rfl ?_
    refine xVF (e_neS (fun w => eqSpn y.from_ r.start w) (by kernel_rfl) (q1 rfl) (q1 rfl)) rfl rfl rfl rfl ?_
    refine xV (e_or (q0 rfl) rfl (fun h => by first | rfl | (rw [h]; rfl))) rfl rfl ?_
    refine xV (e_mv (v := .bool _) (q0 rfl)) rfl rfl ?_
    refine xVF (e_fld Try.underlying27 rfl Try.sizeOf24 rfl (q0 rfl)) rfl rfl rfl rfl ?_
    refine xVF (eL Try.isAgg24 (q1 rfl)) rfl rfl rfl rfl ?_
    refine xVF (e_mv (v := .int _ _) (q0 rfl)) rfl rfl rfl rfl ?_
    refine xVF (e_sub (r := ((m : Nat) : Int)) (q1 rfl) (q0 rfl) (fun _ => ⟨hmi, by omega, by omega⟩)) rfl rfl rfl rfl ?_
    refine xVF (e_idx m Try.underlying24 Try.sizeOf52 (q1 rfl) (q1 rfl) (fun _ => ⟨rfl, hml⟩)) rfl rfl rfl rfl ?_
    refine xVF (e_fld Try.underlying52 rfl Try.sizeOf23 rfl (q1 rfl)) rfl rfl rfl rfl ?_
    refine xVF (eP Try.isAgg23 Try.sizeOf23 (q1 rfl) (by exact rp (p := 3) hrz hbl rfl)) rfl rfl rfl rfl ?_
    refine xVF (e_fld Try.underlying27 rfl Try.sizeOf23 rfl (q0 rfl)) rfl rfl rfl rfl ?_
    refine xVF (eP Try.isAgg23 Try.sizeOf23 (q1 rfl)) rfl rfl rfl rfl ?_
    refine xVF (e_neS (fun w => eqSpn z.to_ r.end_ w) (by kernel_rfl) (q1 rfl) (q1 rfl)) rfl rfl rfl rfl ?_
    refine xV (e_or (q0 rfl) rfl (fun h => by first | rfl | (rw [h]; rfl))) rfl rfl ?_
    refine XN ?_
    refine thenJ_normal ?_
    refine H_cond rfl (fun h1 => ?_) (fun h1 => ?_)
    · have hj : joinedP r = false := by
        have h2 : ((numBad r || !decide (y.from_ = r.start)) || !decide (z.to_ = r.end_)) = true := h1
        rw [hnb] at h2
        rw [hch]
        revert h2
        cases decide (y.from_ = r.start) <;> cases decide (z.to_ = r.end_) <;> simp
      refine H_seq ?_
      refine R0 ?_
      refine xV (e_as (v := .bool _) (q0 rfl)) rfl rfl ?_
      refine XN ?_
      refine thenJ_normal ?_
      refine H_ret ?_
      refine thenJ_ret ?_
      exact ret1 (v := .bool _) rfl rfl rfl fun w' hw => ⟨ret_bool (by exact hj.symm), hw.1⟩
    · have hj : joinedP r = linkP y (r.legs.drop 1) := by
        have h2 : ((numBad r || !decide (y.from_ = r.start)) || !decide (z.to_ = r.end_)) = false := h1
        rw [hnb] at h2
        rw [hch]
        revert h2
        cases decide (y.from_ = r.start) <;> cases decide (z.to_ = r.end_) <;> simp
      rw [hj]
      refine H_skip ?_
      refine thenJ_normal ?_
      refine H_seq ?_
      refine H_seq ?_
      refine R0 ?_
      refine xV (e_as (v := .int _ _) (q0 rfl)) rfl rfl ?_
      refine XN ?_
      refine thenJ_normal ?_
      refine H_block ?_
      refine H_loop [2, 4, 42, 43, 44, 45, 46, 47, 48, 49, 50, 51, 52, 53, 54, 55, 56, 57, 58, 59, 60] (fun i : Nat => [(4, .int .i64 i)]) (fun _ => [box b1 27 (RX.cells ⟨r, ⟨some ⟨b, off, none⟩, lc, pA, pc⟩⟩)]) (fun i => 1 ≤ i ∧ i ≤ r.legs.length ∧ ∃ a, r.legs[i - 1]? = some a ∧ linkP y (r.legs.drop 1) = linkP a (r.legs.drop i)) (fun i => r.legs.length - i) 1 ⟨rfl, trivial⟩ (fun w hw => hw) rfl ⟨Nat.le_refl _, hpos, y, hy, rfl⟩ ?_
      rintro i g ⟨hi1, hin, a, ha, hall⟩
      refine H_seq ?_
      refine H_seq ?_
      refine R0 ?_
      refine xV (e_mv (v := .int _ _) (q0 rfl)) rfl rfl ?_
      refine xV (e_mv (v := .int _ _) (q0 rfl)) rfl rfl ?_
      refine xV (e_lt (q0 rfl) (q0 rfl)) rfl rfl ?_
      refine XN ?_
      refine thenJ_normal ?_
      refine H_cond rfl (fun hlt => ?_) (fun hlt => ?_)
      · have hlt' : i < r.legs.length := by simpa using hlt
        obtain ⟨j, rfl⟩ : ∃ j, i = j + 1 := ⟨i - 1, by omega⟩
        rw [Nat.add_sub_cancel] at ha
        have hji : ((j + 1 : Nat) : Int) - 1 = (j : Int) := by omega
        have hjl : j < r.legs.length := by omega
        obtain ⟨u, hu, hru⟩ := hlg.row hlt'
        obtain ⟨a', ha', hra⟩ := hlg.row hjl
        have haa : a' = a := by rw [ha] at ha'; cases ha'; rfl
        subst haa
        rw [link_drop ha hu] at hall
        refine H_skip ?_
        refine thenJ_normal ?_
        refine H_seq ?_
        refine H_block ?_
        refine H_seq ?_
        refine R1 rfl (by decide +kernel) ?_
        refine xV (e_fld Try.underlying27 rfl Try.sizeOf24 rfl (q0 rfl)) rfl rfl ?_
        refine xV (eL Try.isAgg24 (q0 rfl)) rfl rfl ?_
        refine xV (e_mv (v := .int _ _) (q0 rfl)) rfl rfl ?_
        refine xV (e_idx (j + 1) Try.underlying24 Try.sizeOf52 (q0 rfl) (q0 rfl) (fun _ => ⟨rfl, hlt'⟩)) rfl rfl ?_
        refine xV (e_fld Try.underlying52 rfl Try.sizeOf23 rfl (q0 rfl)) rfl rfl ?_
        refine xV (eP Try.isAgg23 Try.sizeOf23 (q0 rfl) (by exact rp (p := 1) hru hbl rfl)) rfl rfl ?_
        refine xV (e_fld Try.underlying27 rfl Try.sizeOf24 rfl (q0 rfl)) rfl rfl ?_
        refine xV (eL Try.isAgg24 (q0 rfl)) rfl rfl ?_
        refine xV (e_mv (v := .int _ _) (q0 rfl)) rfl rfl ?_
        refine xV (e_sub (q0 rfl) (q0 rfl) (fun _ => ⟨rfl, by omega, by omega⟩)) rfl rfl ?_
        refine xV (e_idx j Try.underlying24 Try.sizeOf52 (q0 rfl) (q0 rfl) (fun _ => ⟨hji, hjl⟩)) rfl rfl ?_
        refine xV (e_fld Try.underlying52 rfl Try.sizeOf23 rfl (q0 rfl)) rfl rfl ?_
        refine xV (eP Try.isAgg23 Try.sizeOf23 (q0 rfl) (by exact rp (p := 3) hra hbl rfl)) rfl rfl ?_
        refine xV (e_neS (fun w => eqSpn u.from_ a'.to_ w) (by kernel_rfl) (q0 rfl) (q0 rfl)) rfl rfl ?_
        refine XN ?_
        refine thenJ_normal ?_
        refine H_cond rfl (fun hb => ?_) (fun hb => ?_)
        · have hb' : decide (u.from_ = a'.to_) = false := by simpa using hb
          rw [hall, hb', Bool.false_and]
          refine H_seq ?_
          refine R0 ?_
          refine xV (e_as (v := .bool _) (q0 rfl)) rfl rfl ?_
          refine XN ?_
          refine thenJ_normal ?_
          refine H_ret ?_
          refine blockJ_ret ?_
          refine thenJ_ret ?_
          refine loopJ_ret ?_
          refine blockJ_ret ?_
          refine thenJ_ret ?_
          exact ret1 (v := .bool _) rfl rfl rfl fun w' hw => ⟨rfl, hw.1⟩
        · have hb' : decide (u.from_ = a'.to_) = true := by simpa using hb
          rw [hb', Bool.true_and] at hall
          refine H_skip ?_
          refine blockJ_normal ?_
          refine thenJ_normal ?_
          refine R0 ?_
          refine xV (e_mv (v := .int _ _) (q0 rfl)) rfl rfl ?_
          refine xV (e_add (q0 rfl) (q0 rfl) (fun _ => ⟨rfl, by omega, by omega⟩)) rfl rfl ?_
          refine xV (e_as (v := .int _ _) (q0 rfl)) rfl rfl ?_
          refine XN ?_
          exact loopJ_normal (j + 1 + 1) (by repeat (first | exact agree_self | exact agree_over | refine agree_upd rfl ?_ | refine agree_updL rfl ?_ | refine agree_over2 rfl ?_)) ⟨rfl, trivial⟩ (fun w hw => hw) rfl ⟨by omega, by omega, u, hu, hall⟩ (by show r.legs.length - (j + 1 + 1) < r.legs.length - (j + 1); omega)
      · have hend : i = r.legs.length := by simp at hlt; omega
        rw [hall, hend, List.drop_length]
        refine H_exit ?_
        refine thenJ_exit ?_
        refine loopJ_exit ?_
        refine blockJ_hit ?_
        refine thenJ_normal ?_
        refine H_seq ?_
        refine R0 ?_
        refine xV (e_as (v := .bool _) (q0 rfl)) rfl rfl ?_
        refine XN ?_
        refine thenJ_normal ?_
        refine H_ret ?_
        exact ret1 (v := .bool _) rfl rfl rfl fun w' hw => ⟨rfl, hw.1⟩

end Go.Proofs.Rid

/-
  Plain functions: the marks of pauses in order (the reference's way) are the pauses in order (the program's way).
-/
namespace Go.Proofs.Rid
open Go.Proofs.Cus

def mkL (ps : List Pz) : List Int := ps.flatMap fun p => [p.from_.lo, p.to_.lo]
def cutB (o : Bool) (l : List Int) : Bool := (decide ((0 : Int) < (l.length : Int)) && o) && decide (l.getD (l.length - 1) 0 = 0)
def cutL (o : Bool) (l : List Int) : List Int := if cutB o l = true then l.take (l.length - 1) else l
def mkOrd (o : Bool) (e : Int) : Int → List Int → Bool
  | _, [] => true
  | last, m :: l => !(decide (m < last) || (!o && decide (e < m))) && mkOrd o e m l
theorem mkL_len (ps : List Pz) : (mkL ps).length = 2 * ps.length := by
  unfold mkL
  induction ps with
  | nil => rfl
  | cons p l ih => rw [List.flatMap_cons, List.length_append, ih]; simp; omega
theorem mkL_cons (p : Pz) (l : List Pz) : mkL (p :: l) = p.from_.lo :: p.to_.lo :: mkL l := rfl
theorem cut_cons2 (o : Bool) (a b c : Int) (l : List Int) : cutL o (a :: b :: c :: l) = a :: b :: cutL o (c :: l) := by
  have hg : ∀ l : List Int, (a :: b :: c :: l).getD ((a :: b :: c :: l).length - 1) 0 = (c :: l).getD ((c :: l).length - 1) 0 := fun l => by simp
  unfold cutL
  have hB : cutB o (a :: b :: c :: l) = cutB o (c :: l) := by
    unfold cutB
    rw [hg]
    have h1 : decide ((0 : Int) < ((a :: b :: c :: l).length : Int)) = true := by simp <;> omega
    have h2 : decide ((0 : Int) < ((c :: l).length : Int)) = true := by simp <;> omega
    rw [h1, h2]
  rw [hB]
  split
  · simp
  · rfl
theorem open_ord (n : Nat) (e : Int) : ∀ (ps : List Pz) (last : Int), mkOrd true e last (cutL true (mkL ps)) = pzOrd true n e last ps
  | [], last => by simp [mkL, cutL, cutB, mkOrd, pzOrd]
  | [p], last => by
    rw [mkL_cons]
    unfold pzOrd
    by_cases ht : p.to_.lo = 0
    · have : cutL true (p.from_.lo :: p.to_.lo :: mkL []) = [p.from_.lo] := by simp [cutL, cutB, mkL, ht]
      rw [this]
      simp only [mkOrd, List.isEmpty_nil, ht]
      by_cases hf : p.from_.lo < last <;> simp [hf]
    · have : cutL true (p.from_.lo :: p.to_.lo :: mkL []) = [p.from_.lo, p.to_.lo] := by simp [cutL, cutB, mkL, ht]
      rw [this]
      simp only [mkOrd, List.isEmpty_nil, pzOrd]
      by_cases hf : p.from_.lo < last <;> by_cases hg : p.to_.lo < p.from_.lo <;> simp [hf, hg, ht]
  | p :: q :: l, last => by
    have ih := open_ord n e (q :: l) p.to_.lo
    rw [mkL_cons, mkL_cons, cut_cons2, ← mkL_cons]
    rw [show pzOrd true n e last (p :: q :: l) = if p.from_.lo < last then false else if ((true && (q :: l).isEmpty) && decide (p.to_.lo = 0)) = true then true else if p.to_.lo < p.from_.lo then false else pzOrd true n e p.to_.lo (q :: l) from rfl, ← ih]
    simp only [mkOrd]
    by_cases hf : p.from_.lo < last <;> by_cases hg : p.to_.lo < p.from_.lo <;> simp [hf, hg]
theorem shut_ord (n : Nat) (hn : n ≠ 0) (e : Int) : ∀ (ps : List Pz) (last : Int), (mkOrd false e last (mkL ps) && decide (last ≤ e)) = pzOrd false n e last ps
  | [], last => by
    have : decide ((n : Int) = 0) = false := by simp; exact hn
    simp [mkL, mkOrd, pzOrd]
    intro h; exact absurd h hn
  | p :: l, last => by
    have ih := shut_ord n hn e l p.to_.lo
    rw [mkL_cons]
    rw [show pzOrd false n e last (p :: l) = if p.from_.lo < last then false else if ((false && l.isEmpty) && decide (p.to_.lo = 0)) = true then true else if p.to_.lo < p.from_.lo then false else pzOrd false n e p.to_.lo l from rfl, ← ih]
    simp only [mkOrd]
    by_cases hf : p.from_.lo < last
    · simp [hf]
    · by_cases hg : p.to_.lo < p.from_.lo
      · simp [hf, hg]
      · by_cases he : p.to_.lo ≤ e
        · have h1 : ¬ e < p.from_.lo := by omega
          have h2 : ¬ e < p.to_.lo := by omega
          have h3 : last ≤ e := by omega
          simp [hf, hg, he, h1, h2, h3]
        · have h2 : e < p.to_.lo := by omega
          simp [hf, hg, he, h2]
theorem cut_shut (l : List Int) : cutL false l = l := by simp [cutL, cutB]
theorem shut_le {e : Int} {p : Pz} {l : List Pz} {last : Int} (h : mkOrd false e last (mkL (p :: l)) = true) : last ≤ e := by
  rw [mkL_cons] at h
  simp only [mkOrd] at h
  by_cases hf : p.from_.lo < last
  · simp [hf] at h
  · by_cases h1 : e < p.from_.lo
    · simp [hf, h1] at h
    · omega
theorem marks_ord (o : Bool) (e start : Int) (ps : List Pz) : mkOrd o e start (cutL o (mkL ps)) = pzOrd o ps.length e start ps := by
  cases o with
  | true => exact open_ord _ e ps start
  | false =>
    rw [cut_shut]
    cases ps with
    | nil => simp [mkL, mkOrd, pzOrd]
    | cons p l =>
      rw [← shut_ord (p :: l).length (by simp) e (p :: l) start]
      cases h : mkOrd false e start (mkL (p :: l)) with
      | false => rfl
      | true => simp [shut_le h]
theorem cut_get {o : Bool} {l : List Int} {i : Nat} (h : i < (cutL o l).length) : (cutL o l)[i]? = l[i]? := by
  unfold cutL at h ⊢
  split
  · rename_i hc
    rw [if_pos hc, List.length_take] at h
    rw [List.getElem?_take, if_pos (by omega)]
  · rfl
theorem cut_le (o : Bool) (l : List Int) : (cutL o l).length ≤ l.length := by
  unfold cutL
  split
  · rw [List.length_take]; omega
  · exact Nat.le_refl _

end Go.Proofs.Rid

/-
  The walks: marks of pauses (the reference's way).
-/
namespace Go.Proofs.Rid
open Go Go.RowKit Go.Proofs.E Go.Proofs.Cus

set_option maxHeartbeats 1000000 in
set_option maxRecDepth 20000 in
theorem rmarks_w (x : RX) (w : World) (hx : RdAt w x) (hp : x.r.pauses.length ≤ 1000) : Calls Try.prog 53 #[.agg x.cells.toArray] w fun e w' => ∃ z : Option Addr × Nat, e = .returned (.slice z.1 (cutL x.r.open_ (mkL x.r.pauses)).length z.2) ∧ Mem w [inRow z.1 z.2 (mkL x.r.pauses)] w' := by
  obtain ⟨r, ⟨lA, lc, pA, pc⟩⟩ := x
  obtain ⟨-, hpz⟩ := hx
  simp only at hpz hp
  have hpn := hpz.2.1
  obtain ⟨T, hT⟩ : ∃ T : Nat → List Int, ∀ k, T k = mkL (r.pauses.take k) := ⟨_, fun _ => rfl⟩
  have hT0 : T 0 = [] := by rw [hT]; rfl
  have hTn : T r.pauses.length = mkL r.pauses := by rw [hT, List.take_length]
  have hTs : ∀ k p, r.pauses[k]? = some p → T (k + 1) = T k ++ [p.from_.lo, p.to_.lo] := fun k p h => by
    rw [hT, hT, take_snoc _ _ _ h]
    unfold mkL
    rw [List.flatMap_append]; rfl
  have hTl : ∀ k, (T k).length ≤ 2000 := fun k => by
    rw [hT, mkL_len, List.length_take]; omega
  refine H_enter Try.func53 rfl Try.ntmps53 rfl ?_
  refine H_seq ?_
  refine R0 ?_
  refine X_box (v := .agg _) rfl rfl fun b1 => ?_
  refine xV (e_as (v := .slice _ _ _) (q0 rfl)) rfl rfl ?_
  refine XN ?_
  refine thenJ_normal ?_
  refine H_seq ?_
  refine R0 ?_
  refine xV (e_as (v := .slice _ _ _) (q0 rfl)) rfl rfl ?_
  refine XN ?_
  refine thenJ_normal ?_
  refine H_seq ?_
  refine H_seq ?_
  refine R0 ?_
  refine xV (e_as (v := .int _ _) (q0 rfl)) rfl rfl ?_
  refine XN ?_
  refine thenJ_normal ?_
  refine H_block ?_
  refine H_loop [3, 4, 5, 6, 7, 8, 9, 10, 11, 12, 13, 14, 15, 16, 17, 18, 19, 20, 21, 22, 23, 24, 25, 26, 27, 28] (fun q : Nat × Option Addr × Nat => [(4, .int .i64 q.1), (3, .slice q.2.1 (T q.1).length q.2.2)]) (fun q => [inRow q.2.1 q.2.2 (T q.1), box b1 27 (RX.cells ⟨r, ⟨lA, lc, pA, pc⟩⟩)]) (fun q => q.1 ≤ r.pauses.length) (fun q => r.pauses.length - q.1) (0, none, 0) ⟨rfl, by show _ = Value.slice none (T 0).length 0; rw [hT0]; rfl, trivial⟩ (fun w hw => by show Mem _ (inRow none 0 (T 0) :: _) w; rw [hT0]; exact hw.nilRow _ _ _ rfl) rfl (Nat.zero_le _) ?_
  rintro ⟨k, oA, oc⟩ g hk
  simp only at hk
  refine H_seq ?_
  refine H_seq ?_
  refine R0 ?_
  refine xV (e_mv (v := .int _ _) (q0 rfl)) rfl rfl ?_
  refine xV (e_fld Try.underlying27 rfl Try.sizeOf25 rfl (q0 rfl)) rfl rfl ?_
  refine xV (eL Try.isAgg25 (q0 rfl)) rfl rfl ?_
  refine xV (e_len Try.underlying25 (q0 rfl)) rfl rfl ?_
  refine xV (e_lt (q0 rfl) (q0 rfl)) rfl rfl ?_
  refine XN ?_
  refine thenJ_normal ?_
  refine H_cond rfl (fun hlt => ?_) (fun hlt => ?_)
  · have hlt' : k < r.pauses.length := by simpa using hlt
    obtain ⟨b, off, y, rfl, hbl, hy, hry⟩ := hpz.at_ hlt'
    have hst := hTs k y hy
    have hll := hTl k
    refine H_skip ?_
    refine thenJ_normal ?_
    refine H_seq ?_
    refine H_block ?_
    refine RAd 1 rfl (by decide +kernel) ?_
    refine aV 0 (by decide +kernel) rfl (e_mv (v := .slice _ _ _) (q0 rfl)) rfl ?_
    refine aV 1 (by decide +kernel) rfl (e_fld Try.underlying27 rfl Try.sizeOf25 rfl (q0 rfl)) rfl ?_
    refine aV 2 (by decide +kernel) rfl (eL Try.isAgg25 (q0 rfl)) rfl ?_
    refine aV 3 (by decide +kernel) rfl (e_mv (v := .int _ _) (q0 rfl)) rfl ?_
    refine aV 4 (by decide +kernel) rfl (e_idx k Try.underlying25 Try.sizeOf71 (q0 rfl) (q0 rfl) (fun _ => ⟨rfl, hlt'⟩)) rfl ?_
    refine aV 5 (by decide +kernel) rfl (e_fld Try.underlying71 rfl Try.sizeOf23 rfl (q0 rfl)) rfl ?_
    refine aV 6 (by decide +kernel) rfl (e_fld Try.underlying23 rfl Try.sizeOf3 rfl (q0 rfl)) rfl ?_
    refine aV 7 (by decide +kernel) rfl (e_ld (v := .int .i64 y.from_.lo) Try.isAgg3 (q0 rfl) (by exact rc (j := 0) hry hbl rfl)) rfl ?_
    refine aV 8 (by decide +kernel) rfl (e_fld Try.underlying27 rfl Try.sizeOf25 rfl (q0 rfl)) rfl ?_
    refine aV 9 (by decide +kernel) rfl (eL Try.isAgg25 (q0 rfl)) rfl ?_
    refine aV 10 (by decide +kernel) rfl (e_mv (v := .int _ _) (q0 rfl)) rfl ?_
    refine aV 11 (by decide +kernel) rfl (e_idx k Try.underlying25 Try.sizeOf71 (q0 rfl) (q0 rfl) (fun _ => ⟨rfl, hlt'⟩)) rfl ?_
    refine aV 12 (by decide +kernel) rfl (e_fld Try.underlying71 rfl Try.sizeOf23 rfl (q0 rfl)) rfl ?_
    refine aV 13 (by decide +kernel) rfl (e_fld Try.underlying23 rfl Try.sizeOf3 rfl (q0 rfl)) rfl ?_
    refine aV 14 (by decide +kernel) rfl (e_ld (v := .int .i64 y.to_.lo) Try.isAgg3 (q0 rfl) (by exact rc (j := 2) hry hbl rfl)) rfl ?_
    refine rdy1 (i := 15) (by decide +kernel) (sub_drop 1) ?_
    refine aL rfl (f_slit [(.int .i64 0), (.int .i64 0)] Try.underlying40 Try.sizeOf3 Try.zeroValue3 rfl (by kernel_rfl) (pt (v := .int _ _) rfl (pt (v := .int _ _) rfl E.p0)) rfl rfl fun b27 => ?_)
    refine rdy1 (i := 16) (by decide +kernel) (sub_drop 2) ?_
    refine aL rfl (f_append (k := 1) (i := Try.t3) (enc := encInt) 1 Try.underlying40 (by kernel_rfl) rfl rfl rfl rfl (fun _ => rfl) (fun _ => rfl) rfl rfl rfl (fun w hw => slAt_box (enc := encInt) (xs := [y.from_.lo, y.to_.lo]) hw (j := 0) rfl (fun _ => rfl) (by simp)) ⟨by simp; omega, by decide⟩ rfl fun A2 c2 => ?_)
    refine aV 17 (by decide +kernel) rfl (e_as (v := .slice _ _ _) (q0 rfl)) rfl ?_
    refine aZ (by decide +kernel) (sub_drop 2) ?_
    refine blockJ_normal ?_
    refine thenJ_normal ?_
    refine R0 ?_
    refine xV (e_mv (v := .int _ _) (q0 rfl)) rfl rfl ?_
    refine xV (e_add (q0 rfl) (q0 rfl) (fun _ => ⟨rfl, by omega, by omega⟩)) rfl rfl ?_
    refine xV (e_as (v := .int _ _) (q0 rfl)) rfl rfl ?_
    refine XN ?_
    exact loopJ_normal (k + 1, A2, c2) (by repeat (first | exact agree_self | exact agree_over | refine agree_upd rfl ?_ | refine agree_updL rfl ?_ | refine agree_over2 rfl ?_)) ⟨rfl, by show _ = Value.slice A2 (T (k + 1)).length c2; rw [hst]; rfl, trivial⟩ (fun w hw => by show Mem _ (inRow A2 c2 (T (k + 1)) :: _) w; rw [hst]; exact hw.tail) rfl (by show k + 1 ≤ _; omega) (by show r.pauses.length - (k + 1) < r.pauses.length - k; omega)
  · have hend : k = r.pauses.length := by simp at hlt; omega
    subst hend
    have hll := hTl r.pauses.length
    rw [hTn] at hll
    rw [show (⟨r, ⟨lA, lc, pA, pc⟩⟩ : RX).r = r from rfl]
    simp only [hTn]
    generalize mkL r.pauses = M at *
    refine H_exit ?_
    refine thenJ_exit ?_
    refine loopJ_exit ?_
    refine blockJ_hit ?_
    refine thenJ_normal ?_
    refine H_seq ?_
    refine H_seq ?_
    rcases Nat.eq_zero_or_pos M.length with h0 | h0
    · have hM : M = [] := List.eq_nil_of_length_eq_zero h0
      subst hM
      have hd : (decide ((0 : Int) < (([] : List Int).length : Int)) && r.open_) = false := by simp
      have hd1 : decide ((0 : Int) < (([] : List Int).length : Int)) = false := by simp
      refine R0 ?_
      refine xV (e_mv (v := .slice _ _ _) (q0 rfl)) rfl rfl ?_
      refine xV (e_len Try.underlying40 (q0 rfl)) rfl rfl ?_
      refine xV (e_gt (q0 rfl) (q0 rfl)) rfl rfl ?_
      refine xV (e_mv (v := .bool _) (q0 rfl)) rfl rfl ?_
      refine xVT (e_fld Try.underlying27 rfl Try.sizeOf4 rfl (q0 rfl)) rfl rfl rfl rfl ?_
      refine xVT (eL Try.isAgg4 (q1 rfl)) rfl rfl rfl rfl ?_
      refine xV (e_and (q0 rfl) rfl (fun h => by first | rfl | (rw [h]; rfl))) rfl rfl ?_
      refine xV (e_mv (v := .bool _) (q0 rfl)) rfl rfl ?_
      refine xVT (e_dead (v := .slice none 0 0) (hd)) rfl rfl rfl rfl ?_
      refine xVT (e_dead (v := .slice none 0 0) (hd)) rfl rfl rfl rfl ?_
      refine xVT (e_dead (v := .int .i64 0) (hd)) rfl rfl rfl rfl ?_
      refine xVT (e_dead (v := .int .i64 0) (hd)) rfl rfl rfl rfl ?_
      refine xVT (e_dead (v := .pointer none) (hd)) rfl rfl rfl rfl ?_
      refine xVT (e_dead (v := .int .i64 0) (hd)) rfl rfl rfl rfl ?_
      refine xVT (e_dead (v := .bool false) (hd)) rfl rfl rfl rfl ?_
      refine xV (e_and (q0 rfl) rfl (fun h => by first | rfl | (rw [h]; rfl))) rfl rfl ?_
      refine XN ?_
      refine thenJ_normal ?_
      refine H_cond rfl (fun hb => ?_) (fun hb => ?_)
      · exfalso
        have h2 : ((decide ((0 : Int) < (([] : List Int).length : Int)) && r.open_) && false) = true := hb
        rw [hd] at h2
        exact absurd h2 (by decide)
      · refine H_skip ?_
        refine thenJ_normal ?_
        refine H_seq ?_
        refine R0 ?_
        refine xV (e_mv (v := .slice _ _ _) (q0 rfl)) rfl rfl ?_
        refine xV (e_as (v := .slice _ _ _) (q0 rfl)) rfl rfl ?_
        refine XN ?_
        refine thenJ_normal ?_
        refine H_ret ?_
        exact ret1 (v := .slice _ _ _) rfl rfl rfl fun w' hw => ⟨(oA, oc), rfl, hw.pick [0] (by decide)⟩
    · obtain ⟨m, hm⟩ : ∃ m, M.length = m + 1 := ⟨M.length - 1, by omega⟩
      have hmi : (M.length : Int) - 1 = (m : Int) := by omega
      have hml : m < M.length := by omega
      obtain ⟨z, hz⟩ : ∃ z, M[m]? = some z := ⟨_, List.getElem?_eq_getElem hml⟩
      have hzd : M.getD (M.length - 1) 0 = z := by rw [show M.length - 1 = m by omega, List.getD_eq_getElem?_getD, hz]; rfl
      refine H_know (fun w hw => rowT_at (j := 0) hw rfl h0) fun ⟨q, hq⟩ => ?_
      subst hq
      refine H_know (fun w hw => rowT_cap (j := 0) hw rfl) fun hcap => ?_
      refine R0 ?_
      refine xV (e_mv (v := .slice _ _ _) (q0 rfl)) rfl rfl ?_
      refine xV (e_len Try.underlying40 (q0 rfl)) rfl rfl ?_
      refine xV (e_gt (q0 rfl) (q0 rfl)) rfl rfl ?_
      refine xV (e_mv (v := .bool _) (q0 rfl)) rfl rfl ?_
      refine xVT (e_fld Try.underlying27 rfl Try.sizeOf4 rfl (q0 rfl)) rfl rfl rfl rfl ?_
      refine xVT (eL Try.isAgg4 (q1 rfl)) rfl rfl rfl rfl ?_
      refine xV (e_and (q0 rfl) rfl (fun h => by first | rfl | (rw [h]; rfl))) rfl rfl ?_
      refine xV (e_mv (v := .bool _) (q0 rfl)) rfl rfl ?_
      refine xVT (e_mv (v := .slice _ _ _) (q0 rfl)) rfl rfl rfl rfl ?_
      refine xVT (e_mv (v := .slice _ _ _) (q0 rfl)) rfl rfl rfl rfl ?_
      refine xVT (e_len Try.underlying40 (q1 rfl)) rfl rfl rfl rfl ?_
      refine xVT (e_sub (r := ((m : Nat) : Int)) (q1 rfl) (q0 rfl) (fun _ => ⟨hmi, by omega, by omega⟩)) rfl rfl rfl rfl ?_
      refine xVT (e_idx m Try.underlying40 Try.sizeOf3 (q1 rfl) (q1 rfl) (fun _ => ⟨rfl, hml⟩)) rfl rfl rfl rfl ?_
      refine xVT (e_ld (v := .int .i64 z) Try.isAgg3 (q1 rfl) (by exact rr0 0 (k := 1) (enc := encInt) rfl hz rfl)) rfl rfl rfl rfl ?_
      refine xVT (e_eq (q1 rfl) (q0 rfl)) rfl rfl rfl rfl ?_
      refine xV (e_and (q0 rfl) rfl (fun h => by first | rfl | (rw [h]; rfl))) rfl rfl ?_
      refine XN ?_
      refine thenJ_normal ?_
      refine H_cond rfl (fun hb => ?_) (fun hb => ?_)
      · have hc : cutL r.open_ M = M.take m := by
          unfold cutL cutB
          rw [hzd, if_pos (show ((decide ((0 : Int) < (M.length : Int)) && r.open_) && decide (z = 0)) = true from hb), show M.length - 1 = m by omega]
        have hcl : (cutL r.open_ M).length = m := by rw [hc, List.length_take]; omega
        rw [hcl]
        refine R0 ?_
        refine xV (e_mv (v := .slice _ _ _) (q0 rfl)) rfl rfl ?_
        refine xV (e_mv (v := .slice _ _ _) (q0 rfl)) rfl rfl ?_
        refine xV (e_len Try.underlying40 (q0 rfl)) rfl rfl ?_
        refine xV (e_sub (r := ((m : Nat) : Int)) (q0 rfl) (q0 rfl) (fun _ => ⟨hmi, by omega, by omega⟩)) rfl rfl ?_
        refine xV (e_slHi m Try.underlying40 Try.sizeOf3 (q0 rfl) (q0 rfl) (fun _ => ⟨by omega, by omega⟩)) rfl rfl ?_
        refine xV (e_as (v := .slice _ _ _) (q0 rfl)) rfl rfl ?_
        refine XN ?_
        refine thenJ_normal ?_
        refine H_seq ?_
        refine R0 ?_
        refine xV (e_mv (v := .slice _ _ _) (q0 rfl)) rfl rfl ?_
        refine xV (e_as (v := .slice _ _ _) (q0 rfl)) rfl rfl ?_
        refine XN ?_
        refine thenJ_normal ?_
        refine H_ret ?_
        exact ret1 (v := .slice _ _ _) rfl rfl rfl fun w' hw => ⟨(_, oc), rfl, hw.pick [0] (by decide)⟩
      · have hc : cutL r.open_ M = M := by
          unfold cutL cutB
          rw [hzd, if_neg (by rw [show ((decide ((0 : Int) < (M.length : Int)) && r.open_) && decide (z = 0)) = false from hb]; decide)]
        rw [hc]
        refine H_skip ?_
        refine thenJ_normal ?_
        refine H_seq ?_
        refine R0 ?_
        refine xV (e_mv (v := .slice _ _ _) (q0 rfl)) rfl rfl ?_
        refine xV (e_as (v := .slice _ _ _) (q0 rfl)) rfl rfl ?_
        refine XN ?_
        refine thenJ_normal ?_
        refine H_ret ?_
        exact ret1 (v := .slice _ _ _) rfl rfl rfl fun w' hw => ⟨(_, oc), rfl, hw.pick [0] (by decide)⟩

end Go.Proofs.Rid

/-
  The walks: ends of legs and pauses in order, Check (the reference's way); the law.
-/
namespace Go.Proofs.Rid
open Go Go.RowKit Go.Proofs.E Go.Proofs.Cus

theorem mkOrd_drop {o : Bool} {e p : Int} {l : List Int} {i : Nat} {u : Int} (hu : l[i]? = some u) : mkOrd o e p (l.drop i) = (!(decide (u < p) || (!o && decide (e < u))) && mkOrd o e u (l.drop (i + 1))) := by
  rw [drop_of hu]; rfl
set_option maxHeartbeats 2000000 in
set_option maxRecDepth 20000 in
theorem rordered_w (x : RX) (w : World) (hx : RdAt w x) (hp : x.r.pauses.length ≤ 1000) : Calls Try.prog 37 #[.agg x.cells.toArray] w fun e w' => e = .returned (.bool (orderedP x.r)) ∧ Bel w w' := by
  have hxw := hx
  obtain ⟨r, ⟨lA, lc, pA, pc⟩⟩ := x
  obtain ⟨hlg, hpz⟩ := hx
  simp only at hlg hpz hp
  have hln := hlg.2.1
  have hpn := hpz.2.1
  have hmk := marks_ord r.open_ r.end_.lo r.start.lo r.pauses
  have hml : (mkL r.pauses).length ≤ 2000 := by rw [mkL_len]; omega
  have hcl := cut_le r.open_ (mkL r.pauses)
  have hord : orderedP r = (legsOrd r.open_ r.legs && mkOrd r.open_ r.end_.lo r.start.lo (cutL r.open_ (mkL r.pauses))) := by unfold orderedP; rw [hmk]
  rw [show orderedP (⟨r, ⟨lA, lc, pA, pc⟩⟩ : RX).r = orderedP r from rfl, hord]
  refine H_enter Try.func37 rfl Try.ntmps37 rfl ?_
  refine H_seq ?_
  refine R0 ?_
  refine X_box (v := .agg _) rfl rfl fun b1 => ?_
  refine xV (e_as (v := .bool _) (q0 rfl)) rfl rfl ?_
  refine XN ?_
  refine thenJ_normal ?_
  refine H_seq ?_
  refine H_seq ?_
  refine R0 ?_
  refine xV (e_as (v := .int _ _) (q0 rfl)) rfl rfl ?_
  refine XN ?_
  refine thenJ_normal ?_
  refine H_block ?_
  refine H_loop [2, 3, 4, 7, 8, 9, 10, 11, 12, 13, 14, 15, 16, 17, 18, 19, 20, 21, 22, 23, 24, 25, 26, 27, 28, 29, 30, 31, 32, 33, 34, 35, 36, 37, 38, 39, 40, 41, 42] (fun k : Nat => [(3, .int .i64 k)]) (fun _ => [box b1 27 (RX.cells ⟨r, ⟨lA, lc, pA, pc⟩⟩)]) (fun k => k ≤ r.legs.length ∧ legsOrd r.open_ r.legs = legsOrd r.open_ (r.legs.drop k)) (fun k => r.legs.length - k) 0 ⟨rfl, trivial⟩ (fun w hw => hw) rfl ⟨Nat.zero_le _, rfl⟩ ?_
  rintro k g ⟨hk, hall⟩
  refine H_seq ?_
  refine H_seq ?_
  refine R0 ?_
  refine xV (e_mv (v := .int _ _) (q0 rfl)) rfl rfl ?_
  refine xV (e_fld Try.underlying27 rfl Try.sizeOf24 rfl (q0 rfl)) rfl rfl ?_
  refine xV (eL Try.isAgg24 (q0 rfl)) rfl rfl ?_
  refine xV (e_len Try.underlying24 (q0 rfl)) rfl rfl ?_
  refine xV (e_lt (q0 rfl) (q0 rfl)) rfl rfl ?_
  refine XN ?_
  refine thenJ_normal ?_
  refine H_cond rfl (fun hlt => ?_) (fun hlt => ?_)
  · have hlt' : k < r.legs.length := by simpa using hlt
    obtain ⟨b, off, y, rfl, hbl, hy, hry⟩ := hlg.at_ hlt'
    have hst : legsOrd r.open_ (r.legs.drop k) = (!(decide (y.to_.lo < y.from_.lo) && !(r.open_ && decide ((k : Int) = (r.legs.length : Int) - 1))) && legsOrd r.open_ (r.legs.drop (k + 1))) := by
      rw [drop_of hy]
      show (!(decide (y.to_.lo < y.from_.lo) && !(r.open_ && (r.legs.drop (k + 1)).isEmpty)) && _) = _
      rw [drop_empty hlt']
    rw [hst] at hall
    refine H_skip ?_
    refine thenJ_normal ?_
    refine H_seq ?_
    refine H_block ?_
    refine H_seq ?_
    refine R0 ?_
    refine xV (e_mv (v := .int _ _) (q0 rfl)) rfl rfl ?_
    refine xV (e_fld Try.underlying27 rfl Try.sizeOf24 rfl (q0 rfl)) rfl rfl ?_
    refine xV (eL Try.isAgg24 (q0 rfl)) rfl rfl ?_
    refine xV (e_len Try.underlying24 (q0 rfl)) rfl rfl ?_
    refine xV (e_sub (r := (r.legs.length : Int) - 1) (q0 rfl) (q0 rfl) (fun _ => ⟨rfl, by omega, by omega⟩)) rfl rfl ?_
    refine xV (e_eq (q0 rfl) (q0 rfl)) rfl rfl ?_
    refine xV (e_mv (v := .bool _) (q0 rfl)) rfl rfl ?_
    refine xVT (e_fld Try.underlying27 rfl Try.sizeOf4 rfl (q0 rfl)) rfl rfl rfl rfl ?_
    refine xVT (eL Try.isAgg4 (q1 rfl)) rfl rfl rfl rfl ?_
    refine xV (e_and (q0 rfl) rfl (fun h => by first | rfl | (rw [h]; rfl))) rfl rfl ?_
    refine xV (e_as (v := .bool _) (q0 rfl)) rfl rfl ?_
    refine XN ?_
    refine thenJ_normal ?_
    refine H_seq ?_
    refine R1 rfl (by decide +kernel) ?_
    refine xV (e_mv (v := .bool _) (q0 rfl)) rfl rfl ?_
    refine xV (e_not (q0 rfl)) rfl rfl ?_
    refine xV (e_mv (v := .bool _) (q0 rfl)) rfl rfl ?_
    refine xVT (e_fld Try.underlying27 rfl Try.sizeOf24 rfl (q0 rfl)) rfl rfl rfl rfl ?_
    refine xVT (eL Try.isAgg24 (q1 rfl)) rfl rfl rfl rfl ?_
    refine xVT (e_mv (v := .int _ _) (q0 rfl)) rfl rfl rfl rfl ?_
    refine xVT (e_idx k Try.underlying24 Try.sizeOf52 (q1 rfl) (q1 rfl) (fun _ => ⟨rfl, hlt'⟩)) rfl rfl rfl rfl ?_
    refine xVT (e_fld Try.underlying52 rfl Try.sizeOf23 rfl (q1 rfl)) rfl rfl rfl rfl ?_
    refine xVT (e_fld Try.underlying23 rfl Try.sizeOf3 rfl (q1 rfl)) rfl rfl rfl rfl ?_
    refine xVT (e_ld (v := .int .i64 y.from_.lo) Try.isAgg3 (q1 rfl) (by exact rc (j := 1) hry hbl rfl)) rfl rfl rfl rfl ?_
    refine xVT (e_fld Try.underlying27 rfl Try.sizeOf24 rfl (q0 rfl)) rfl rfl rfl rfl ?_
    refine xVT (eL Try.isAgg24 (q1 rfl)) rfl rfl rfl rfl ?_
    refine xVT (e_mv (v := .int _ _) (q0 rfl)) rfl rfl rfl rfl ?_
    refine xVT (e_idx k Try.underlying24 Try.sizeOf52 (q1 rfl) (q1 rfl) (fun _ => ⟨rfl, hlt'⟩)) rfl rfl rfl rfl ?_
    refine xVT (e_fld Try.underlying52 rfl Try.sizeOf23 rfl (q1 rfl)) rfl rfl rfl rfl ?_
    refine xVT (e_fld Try.underlying23 rfl Try.sizeOf3 rfl (q1 rfl)) rfl rfl rfl rfl ?_
    refine xVT (e_ld (v := .int .i64 y.to_.lo) Try.isAgg3 (q1 rfl) (by exact rc (j := 3) hry hbl rfl)) rfl rfl rfl rfl ?_
    refine xVT (e_gt (q1 rfl) (q1 rfl)) rfl rfl rfl rfl ?_
    refine xV (e_and (q0 rfl) rfl (fun h => by first | rfl | (rw [h]; rfl))) rfl rfl ?_
    refine XN ?_
    refine thenJ_normal ?_
    refine H_cond rfl (fun hb => ?_) (fun hb => ?_)
    · have h2 : (!(decide ((k : Int) = (r.legs.length : Int) - 1) && r.open_) && decide (y.to_.lo < y.from_.lo)) = true := hb
      have h3 : legsOrd r.open_ r.legs = false := by
        rw [hall]
        revert h2
        cases decide ((k : Int) = (r.legs.length : Int) - 1) <;> cases r.open_ <;> cases decide (y.to_.lo < y.from_.lo) <;> simp
      rw [h3]
      refine H_seq ?_
      refine R0 ?_
      refine xV (e_as (v := .bool _) (q0 rfl)) rfl rfl ?_
      refine XN ?_
      refine thenJ_normal ?_
      refine H_ret ?_
      refine blockJ_ret ?_
      refine thenJ_ret ?_
      refine loopJ_ret ?_
      refine blockJ_ret ?_
      refine thenJ_ret ?_
      exact ret1 (v := .bool _) rfl rfl rfl fun w' hw => ⟨rfl, hw.1⟩
    · have h2 : (!(decide ((k : Int) = (r.legs.length : Int) - 1) && r.open_) && decide (y.to_.lo < y.from_.lo)) = false := hb
      have h3 : legsOrd r.open_ r.legs = legsOrd r.open_ (r.legs.drop (k + 1)) := by
        rw [hall]
        revert h2
        cases decide ((k : Int) = (r.legs.length : Int) - 1) <;> cases r.open_ <;> cases decide (y.to_.lo < y.from_.lo) <;> simp
      refine H_skip ?_
      refine blockJ_normal ?_
      refine thenJ_normal ?_
      refine R0 ?_
      refine xV (e_mv (v := .int _ _) (q0 rfl)) rfl rfl ?_
      refine xV (e_add (q0 rfl) (q0 rfl) (fun _ => ⟨rfl, by omega, by omega⟩)) rfl rfl ?_
      refine xV (e_as (v := .int _ _) (q0 rfl)) rfl rfl ?_
      refine XN ?_
      exact loopJ_normal (k + 1) (by repeat (first | exact agree_self | exact agree_over | refine agree_upd rfl ?_ | refine agree_updL rfl ?_ | refine agree_over2 rfl ?_)) ⟨rfl, trivial⟩ (fun w hw => hw) rfl ⟨by omega, h3⟩ (by show r.legs.length - (k + 1) < r.legs.length - k; omega)
  · have hend : k = r.legs.length := by simp at hlt; omega
    have hlo : legsOrd r.open_ r.legs = true := by rw [hall, hend, List.drop_length]; rfl
    rw [hlo, Bool.true_and]
    refine H_exit ?_
    refine thenJ_exit ?_
    refine loopJ_exit ?_
    refine blockJ_hit ?_
    refine thenJ_normal ?_
    refine H_seq ?_
    refine R0 ?_
    refine xV (eS Try.isAgg27 Try.sizeOf27 (q0 rfl)) rfl rfl ?_
    refine xCX (en Try.call53 (ha1 (q0 rfl))) (fun w hw => rmarks_w ⟨r, ⟨lA, lc, pA, pc⟩⟩ w (hxw.mem hw) hp) rfl (fun _ => rfl) fun z => ?_
    rw [show (⟨r, ⟨lA, lc, pA, pc⟩⟩ : RX).r = r from rfl]
    obtain ⟨C, hC⟩ : ∃ C, C = cutL r.open_ (mkL r.pauses) := ⟨_, rfl⟩
    have hCl : C.length ≤ 2000 := by rw [hC]; omega
    have hCg : ∀ i, i < C.length → C[i]? = (mkL r.pauses)[i]? := fun i hi => by rw [hC] at hi ⊢; exact cut_get hi
    have hCM : C.length ≤ (mkL r.pauses).length := by rw [hC]; exact hcl
    simp only [← hC]
    generalize mkL r.pauses = M at *
    refine xV (e_as (v := .slice _ _ _) (q0 rfl)) rfl rfl ?_
    refine XN ?_
    refine thenJ_normal ?_
    refine H_seq ?_
    refine H_seq ?_
    refine R0 ?_
    refine xV (e_as (v := .int _ _) (q0 rfl)) rfl rfl ?_
    refine XN ?_
    refine thenJ_normal ?_
    refine H_block ?_
    refine H_loop [2, 6, 45, 46, 47, 48, 49, 50, 51, 52, 53, 54, 55, 56, 57, 58, 59, 60, 61, 62, 63, 64, 65, 66, 67, 68, 69, 70, 71, 72, 73, 74, 75, 76, 77, 78, 79, 80, 81, 82, 83, 84, 85, 86, 87, 88, 89, 90, 91, 92, 93] (fun i : Nat => [(6, .int .i64 i)]) (fun _ => [inRow z.1 z.2 M, box b1 27 (RX.cells ⟨r, ⟨lA, lc, pA, pc⟩⟩)]) (fun i => i ≤ C.length ∧ ∃ p, (i = 0 → p = r.start.lo) ∧ (0 < i → C[i - 1]? = some p) ∧ mkOrd r.open_ r.end_.lo r.start.lo C = mkOrd r.open_ r.end_.lo p (C.drop i)) (fun i => C.length - i) 0 ⟨rfl, trivial⟩ (fun w hw => hw) rfl ⟨Nat.zero_le _, r.start.lo, fun _ => rfl, fun h => absurd h (by decide), rfl⟩ ?_
    rintro i g2 ⟨hi, p, hp0, hp1, hall2⟩
    refine H_seq ?_
    refine H_seq ?_
    refine R0 ?_
    refine xV (e_mv (v := .int _ _) (q0 rfl)) rfl rfl ?_
    refine xV (e_mv (v := .slice _ _ _) (q0 rfl)) rfl rfl ?_
    refine xV (e_len Try.underlying40 (q0 rfl)) rfl rfl ?_
    refine xV (e_lt (q0 rfl) (q0 rfl)) rfl rfl ?_
    refine XN ?_
    refine thenJ_normal ?_
    refine H_cond rfl (fun hlt2 => ?_) (fun hlt2 => ?_)
    · have hlt2' : i < C.length := by simpa using hlt2
      obtain ⟨u, hu⟩ : ∃ u, C[i]? = some u := ⟨_, List.getElem?_eq_getElem hlt2'⟩
      have huM : M[i]? = some u := by rw [← hCg i hlt2']; exact hu
      rw [mkOrd_drop hu] at hall2
      refine H_know (fun w hw => rowT_at (j := 0) hw rfl (by omega)) fun ⟨q, hq⟩ => ?_
      obtain ⟨z1, z2⟩ := z
      simp only at hq
      subst hq
      rcases Nat.eq_zero_or_pos i with h0 | h0
      · subst h0
        have hpe := hp0 rfl
        subst hpe
        refine H_skip ?_
        refine thenJ_normal ?_
        refine H_seq ?_
        refine H_block ?_
        refine H_seq ?_
        refine R1 rfl (by decide +kernel) ?_
        refine xV (e_mv (v := .int _ _) (q0 rfl)) rfl rfl ?_
        refine xV (e_eq (q0 rfl) (q0 rfl)) rfl rfl ?_
        refine xV (e_mv (v := .bool _) (q0 rfl)) rfl rfl ?_
        refine xVT (e_mv (v := .slice _ _ _) (q0 rfl)) rfl rfl rfl rfl ?_
        refine xVT (e_mv (v := .int _ _) (q0 rfl)) rfl rfl rfl rfl ?_
        refine xVT (e_idx 0 Try.underlying40 Try.sizeOf3 (q1 rfl) (q1 rfl) (fun _ => ⟨rfl, hlt2'⟩)) rfl rfl rfl rfl ?_
        refine xVT (e_ld (v := .int .i64 u) Try.isAgg3 (q1 rfl) (by exact rr0 0 (k := 1) (enc := encInt) rfl huM rfl)) rfl rfl rfl rfl ?_
        refine xVT (e_fld Try.underlying27 rfl Try.sizeOf23 rfl (q0 rfl)) rfl rfl rfl rfl ?_
        refine xVT (e_fld Try.underlying23 rfl Try.sizeOf3 rfl (q1 rfl)) rfl rfl rfl rfl ?_
        refine xVT (eL Try.isAgg3 (q1 rfl)) rfl rfl rfl rfl ?_
        refine xVT (e_lt (q1 rfl) (q1 rfl)) rfl rfl rfl rfl ?_
        refine xV (e_and (q0 rfl) rfl (fun h => by first | rfl | (rw [h]; rfl))) rfl rfl ?_
        refine xV (e_mv (v := .bool _) (q0 rfl)) rfl rfl ?_
        refine xVF (e_mv (v := .int _ _) (q0 rfl)) rfl rfl rfl rfl ?_
        refine xVF (e_gt (q1 rfl) (q0 rfl)) rfl rfl rfl rfl ?_
        refine xVF (e_mv (v := .bool _) (q1 rfl)) rfl rfl rfl rfl ?_
        refine xVT2 (e_dead (v := .slice none 0 0) (by simp)) rfl rfl rfl rfl ?_
        refine xVT2 (e_dead (v := .int .i64 0) (by simp)) rfl rfl rfl rfl ?_
        refine xVT2 (e_dead (v := .pointer none) (by simp)) rfl rfl rfl rfl ?_
        refine xVT2 (e_dead (v := .int .i64 0) (by simp)) rfl rfl rfl rfl ?_
        refine xVT2 (e_dead (v := .slice none 0 0) (by simp)) rfl rfl rfl rfl ?_
        refine xVT2 (e_dead (v := .int .i64 0) (by simp)) rfl rfl rfl rfl ?_
        refine xVT2 (e_dead (v := .int .i64 0) (by simp)) rfl rfl rfl rfl ?_
        refine xVT2 (e_dead (v := .pointer none) (by simp)) rfl rfl rfl rfl ?_
        refine xVT2 (e_dead (v := .int .i64 0) (by simp)) rfl rfl rfl rfl ?_
        refine xVT2 (e_dead (v := .bool false) (by simp)) rfl rfl rfl rfl ?_
        refine xVF (e_and (q1 rfl) rfl (fun h => by first | rfl | (rw [h]; rfl))) rfl rfl rfl rfl ?_
        refine xV (e_or (q0 rfl) rfl (fun h => by first | rfl | (rw [h]; rfl))) rfl rfl ?_
        refine xV (e_mv (v := .bool _) (q0 rfl)) rfl rfl ?_
        refine xVF (e_fld Try.underlying27 rfl Try.sizeOf4 rfl (q0 rfl)) rfl rfl rfl rfl ?_
        refine xVF (eL Try.isAgg4 (q1 rfl)) rfl rfl rfl rfl ?_
        refine xVF (e_not (q1 rfl)) rfl rfl rfl rfl ?_
        refine xVF (e_mv (v := .bool _) (q1 rfl)) rfl rfl rfl rfl ?_
        refine xVT2 (e_mv (v := .slice _ _ _) (q0 rfl)) rfl rfl rfl rfl ?_
        refine xVT2 (e_mv (v := .int _ _) (q0 rfl)) rfl rfl rfl rfl ?_
        refine xVT2 (e_idx 0 Try.underlying40 Try.sizeOf3 (q1 rfl) (q1 rfl) (fun _ => ⟨rfl, hlt2'⟩)) rfl rfl rfl rfl ?_
        refine xVT2 (e_ld (v := .int .i64 u) Try.isAgg3 (q1 rfl) (by exact rr0 0 (k := 1) (enc := encInt) rfl huM rfl)) rfl rfl rfl rfl ?_
        refine xVT2 (e_fld Try.underlying27 rfl Try.sizeOf23 rfl (q0 rfl)) rfl rfl rfl rfl ?_
        refine xVT2 (e_fld Try.underlying23 rfl Try.sizeOf3 rfl (q1 rfl)) rfl rfl rfl rfl ?_
        refine xVT2 (eL Try.isAgg3 (q1 rfl)) rfl rfl rfl rfl ?_
        refine xVT2 (e_gt (q1 rfl) (q1 rfl)) rfl rfl rfl rfl ?_
        refine xVF (e_and (q1 rfl) rfl (fun h => by first | rfl | (rw [h]; rfl))) rfl rfl rfl rfl ?_
        refine xV (e_or (q0 rfl) rfl (fun h => by first | rfl | (rw [h]; rfl))) rfl rfl ?_
        refine XN ?_
        refine thenJ_normal ?_
        refine H_cond rfl (fun hb => ?_) (fun hb => ?_)
        · have h2 : (((decide (((0 : Nat) : Int) = 0) && decide (u < r.start.lo)) || (decide ((0 : Int) < ((0 : Nat) : Int)) && false)) || (!r.open_ && decide (r.end_.lo < u))) = true := hb
          have h3 : (decide (u < r.start.lo) || (!r.open_ && decide (r.end_.lo < u))) = true := by simpa using h2
          rw [hall2, h3]
          refine H_seq ?_
          refine R0 ?_
          refine xV (e_as (v := .bool _) (q0 rfl)) rfl rfl ?_
          refine XN ?_
          refine thenJ_normal ?_
          refine H_ret ?_
          refine blockJ_ret ?_
          refine thenJ_ret ?_
          refine loopJ_ret ?_
          refine blockJ_ret ?_
          refine thenJ_ret ?_
          exact ret1 (v := .bool _) rfl rfl rfl fun w' hw => ⟨rfl, hw.1⟩
        · have h2 : (((decide (((0 : Nat) : Int) = 0) && decide (u < r.start.lo)) || (decide ((0 : Int) < ((0 : Nat) : Int)) && false)) || (!r.open_ && decide (r.end_.lo < u))) = false := hb
          have h3 : (decide (u < r.start.lo) || (!r.open_ && decide (r.end_.lo < u))) = false := by simpa using h2
          rw [h3, Bool.not_false, Bool.true_and] at hall2
          refine H_skip ?_
          refine blockJ_normal ?_
          refine thenJ_normal ?_
          refine R0 ?_
          refine xV (e_mv (v := .int _ _) (q0 rfl)) rfl rfl ?_
          refine xV (e_add (q0 rfl) (q0 rfl) (fun _ => ⟨rfl, by omega, by omega⟩)) rfl rfl ?_
          refine xV (e_as (v := .int _ _) (q0 rfl)) rfl rfl ?_
          refine XN ?_
          exact loopJ_normal (0 + 1) (by repeat (first | exact agree_self | exact agree_over | refine agree_upd rfl ?_ | refine agree_updL rfl ?_ | refine agree_over2 rfl ?_)) ⟨rfl, trivial⟩ (fun w hw => hw) rfl ⟨by omega, u, fun h => absurd h (by omega), fun _ => hu, hall2⟩ (by show C.length - (0 + 1) < C.length - (0); omega)
      · obtain ⟨j, rfl⟩ : ∃ j, i = j + 1 := ⟨i - 1, by omega⟩
        have hpj : C[j]? = some p := hp1 h0
        have hjl : j < C.length := by omega
        have hpM : M[j]? = some p := by rw [← hCg j hjl]; exact hpj
        have hji : ((j + 1 : Nat) : Int) - 1 = (j : Int) := by omega
        have hz0 : decide (((j + 1 : Nat) : Int) = 0) = false := by simp <;> omega
        have hz1 : decide ((0 : Int) < ((j + 1 : Nat) : Int)) = true := by simp <;> omega
        refine H_skip ?_
        refine thenJ_normal ?_
        refine H_seq ?_
        refine H_block ?_
        refine H_seq ?_
        refine R1 rfl (by decide +kernel) ?_
        refine xV (e_mv (v := .int _ _) (q0 rfl)) rfl rfl ?_
        refine xV (e_eq (q0 rfl) (q0 rfl)) rfl rfl ?_
        refine xV (e_mv (v := .bool _) (q0 rfl)) rfl rfl ?_
        refine xVT (e_dead (v := .slice none 0 0) (hz0)) rfl rfl rfl rfl ?_
        refine xVT (e_dead (v := .int .i64 0) (hz0)) rfl rfl rfl rfl ?_
        refine xVT (e_dead (v := .pointer none) (hz0)) rfl rfl rfl rfl ?_
        refine xVT (e_dead (v := .int .i64 0) (hz0)) rfl rfl rfl rfl ?_
        refine xVT (e_dead (v := .pointer none) (hz0)) rfl rfl rfl rfl ?_
        refine xVT (e_dead (v := .pointer none) (hz0)) rfl rfl rfl rfl ?_
        refine xVT (e_dead (v := .int .i64 0) (hz0)) rfl rfl rfl rfl ?_
        refine xVT (e_dead (v := .bool false) (hz0)) rfl rfl rfl rfl ?_
        refine xV (e_and (q0 rfl) rfl (fun h => by first | rfl | (rw [h]; rfl))) rfl rfl ?_
        refine xV (e_mv (v := .bool _) (q0 rfl)) rfl rfl ?_
        refine xVF (e_mv (v := .int _ _) (q0 rfl)) rfl rfl rfl rfl ?_
        refine xVF (e_gt (q1 rfl) (q0 rfl)) rfl rfl rfl rfl ?_
        refine xVF (e_mv (v := .bool _) (q1 rfl)) rfl rfl rfl rfl ?_
        refine xVT2 (e_mv (v := .slice _ _ _) (q0 rfl)) rfl rfl rfl rfl ?_
        refine xVT2 (e_mv (v := .int _ _) (q0 rfl)) rfl rfl rfl rfl ?_
        refine xVT2 (e_idx (j + 1) Try.underlying40 Try.sizeOf3 (q1 rfl) (q1 rfl) (fun _ => ⟨rfl, hlt2'⟩)) rfl rfl rfl rfl ?_
        refine xVT2 (e_ld (v := .int .i64 u) Try.isAgg3 (q1 rfl) (by exact rr0 0 (k := 1) (enc := encInt) rfl huM rfl)) rfl rfl rfl rfl ?_
        refine xVT2 (e_mv (v := .slice _ _ _) (q0 rfl)) rfl rfl rfl rfl ?_
        refine xVT2 (e_mv (v := .int _ _) (q0 rfl)) rfl rfl rfl rfl ?_
        refine xVT2 (e_sub (r := ((j : Nat) : Int)) (q1 rfl) (q0 rfl) (fun _ => ⟨hji, by omega, by omega⟩)) rfl rfl rfl rfl ?_
        refine xVT2 (e_idx j Try.underlying40 Try.sizeOf3 (q1 rfl) (q1 rfl) (fun _ => ⟨rfl, hjl⟩)) rfl rfl rfl rfl ?_
        refine xVT2 (e_ld (v := .int .i64 p) Try.isAgg3 (q1 rfl) (by exact rr0 0 (k := 1) (enc := encInt) rfl hpM rfl)) rfl rfl rfl rfl ?_
        refine xVT2 (e_lt (q1 rfl) (q1 rfl)) rfl rfl rfl rfl ?_
        refine xVF (e_and (q1 rfl) rfl (fun h => by first | rfl | (rw [h]; rfl))) rfl rfl rfl rfl ?_
        refine xV (e_or (q0 rfl) rfl (fun h => by first | rfl | (rw [h]; rfl))) rfl rfl ?_
        refine xV (e_mv (v := .bool _) (q0 rfl)) rfl rfl ?_
        refine xVF (e_fld Try.underlying27 rfl Try.sizeOf4 rfl (q0 rfl)) rfl rfl rfl rfl ?_
        refine xVF (eL Try.isAgg4 (q1 rfl)) rfl rfl rfl rfl ?_
        refine xVF (e_not (q1 rfl)) rfl rfl rfl rfl ?_
        refine xVF (e_mv (v := .bool _) (q1 rfl)) rfl rfl rfl rfl ?_
        refine xVT2 (e_mv (v := .slice _ _ _) (q0 rfl)) rfl rfl rfl rfl ?_
        refine xVT2 (e_mv (v := .int _ _) (q0 rfl)) rfl rfl rfl rfl ?_
        refine xVT2 (e_idx (j + 1) Try.underlying40 Try.sizeOf3 (q1 rfl) (q1 rfl) (fun _ => ⟨rfl, hlt2'⟩)) rfl rfl rfl rfl ?_
        refine xVT2 (e_ld (v := .int .i64 u) Try.isAgg3 (q1 rfl) (by exact rr0 0 (k := 1) (enc := encInt) rfl huM rfl)) rfl rfl rfl rfl ?_
        refine xVT2 (e_fld Try.underlying27 rfl Try.sizeOf23 rfl (q0 rfl)) rfl rfl rfl rfl ?_
        refine xVT2 (e_fld Try.underlying23 rfl Try.sizeOf3 rfl (q1 rfl)) rfl rfl rfl rfl ?_
        refine xVT2 (eL Try.isAgg3 (q1 rfl)) rfl rfl rfl rfl ?_
        refine xVT2 (e_gt (q1 rfl) (q1 rfl)) rfl rfl rfl rfl ?_
        refine xVF (e_and (q1 rfl) rfl (fun h => by first | rfl | (rw [h]; rfl))) rfl rfl rfl rfl ?_
        refine xV (e_or (q0 rfl) rfl (fun h => by first | rfl | (rw [h]; rfl))) rfl rfl ?_
        refine XN ?_
        refine thenJ_normal ?_
        refine H_cond rfl (fun hb => ?_) (fun hb => ?_)
        · have h2 : (((decide (((j + 1 : Nat) : Int) = 0) && false) || (decide ((0 : Int) < ((j + 1 : Nat) : Int)) && decide (u < p))) || (!r.open_ && decide (r.end_.lo < u))) = true := hb
          have h3 : (decide (u < p) || (!r.open_ && decide (r.end_.lo < u))) = true := by rw [hz0, hz1] at h2; simpa using h2
          rw [hall2, h3]
          refine H_seq ?_
          refine R0 ?_
          refine xV (e_as (v := .bool _) (q0 rfl)) rfl rfl ?_
          refine XN ?_
          refine thenJ_normal ?_
          refine H_ret ?_
          refine blockJ_ret ?_
          refine thenJ_ret ?_
          refine loopJ_ret ?_
          refine blockJ_ret ?_
          refine thenJ_ret ?_
          exact ret1 (v := .bool _) rfl rfl rfl fun w' hw => ⟨rfl, hw.1⟩
        · have h2 : (((decide (((j + 1 : Nat) : Int) = 0) && false) || (decide ((0 : Int) < ((j + 1 : Nat) : Int)) && decide (u < p))) || (!r.open_ && decide (r.end_.lo < u))) = false := hb
          have h3 : (decide (u < p) || (!r.open_ && decide (r.end_.lo < u))) = false := by rw [hz0, hz1] at h2; simpa using h2
          rw [h3, Bool.not_false, Bool.true_and] at hall2
          refine H_skip ?_
          refine blockJ_normal ?_
          refine thenJ_normal ?_
          refine R0 ?_
          refine xV (e_mv (v := .int _ _) (q0 rfl)) rfl rfl ?_
          refine xV (e_add (q0 rfl) (q0 rfl) (fun _ => ⟨rfl, by omega, by omega⟩)) rfl rfl ?_
          refine xV (e_as (v := .int _ _) (q0 rfl)) rfl rfl ?_
          refine XN ?_
          exact loopJ_normal (j + 1 + 1) (by repeat (first | exact agree_self | exact agree_over | refine agree_upd rfl ?_ | refine agree_updL rfl ?_ | refine agree_over2 rfl ?_)) ⟨rfl, trivial⟩ (fun w hw => hw) rfl ⟨by omega, u, fun h => absurd h (by omega), fun _ => hu, hall2⟩ (by show C.length - (j + 1 + 1) < C.length - (j + 1); omega)
    · have hend2 : i = C.length := by simp at hlt2; omega
      rw [hall2, hend2, List.drop_length]
      refine H_exit ?_
      refine thenJ_exit ?_
      refine loopJ_exit ?_
      refine blockJ_hit ?_
      refine thenJ_normal ?_
      refine H_seq ?_
      refine R0 ?_
      refine xV (e_as (v := .bool _) (q0 rfl)) rfl rfl ?_
      refine XN ?_
      refine thenJ_normal ?_
      refine H_ret ?_
      exact ret1 (v := .bool _) rfl rfl rfl fun w' hw => ⟨rfl, hw.1⟩
set_option maxHeartbeats 1000000 in
set_option maxRecDepth 20000 in
theorem refcheck_w (x : RX) (w : World) (hx : RdAt w x) (hp : x.r.pauses.length ≤ 1000) : Calls Try.prog 12 #[.agg x.cells.toArray] w fun e w' => e = .returned (.int .i64 (checkR x.r)) ∧ Bel w w' := by
  have hxw := hx
  obtain ⟨r, ra⟩ := x
  simp only at hp
  rw [show checkR (⟨r, ra⟩ : RX).r = checkR r from rfl]
  unfold checkR
  refine H_enter Try.func12 rfl Try.ntmps12 rfl ?_
  refine H_seq ?_
  refine R0 ?_
  refine X_box (v := .agg _) rfl rfl fun b1 => ?_
  refine xV (e_as (v := .int _ _) (q0 rfl)) rfl rfl ?_
  refine XN ?_
  refine thenJ_normal ?_
  refine H_seq ?_
  refine H_block ?_
  refine H_seq ?_
  refine R0 ?_
  refine xV (eS Try.isAgg27 Try.sizeOf27 (q0 rfl)) rfl rfl ?_
  refine xC (en Try.call35 (ha1 (q0 rfl))) (fun _ w hw => rranged_w ⟨r, ra⟩ w (hxw.mem hw)) rfl rfl ?_
  refine xV (e_not (q0 rfl)) rfl rfl ?_
  refine xV (e_as (v := .bool _) (q0 rfl)) rfl rfl ?_
  refine XN ?_
  refine thenJ_normal ?_
  refine H_cond rfl (fun h1 => ?_) (fun h1 => ?_)
  · rw [if_pos (show (!rangedP r) = true from h1)]
    refine H_seq ?_
    refine R0 ?_
    refine xV (e_as (v := .int _ _) (q0 rfl)) rfl rfl ?_
    refine XN ?_
    refine thenJ_normal ?_
    refine H_ret ?_
    refine blockJ_ret ?_
    refine thenJ_ret ?_
    exact ret1 (v := .int _ _) rfl rfl rfl fun w' hw => ⟨rfl, hw.1⟩
  · rw [if_neg (show ¬ (!rangedP r) = true by rw [show (!rangedP r) = false from h1]; decide)]
    refine H_seq ?_
    refine R0 ?_
    refine xV (eS Try.isAgg27 Try.sizeOf27 (q0 rfl)) rfl rfl ?_
    refine xC (en Try.call36 (ha1 (q0 rfl))) (fun _ w hw => rjoined_w ⟨r, ra⟩ w (hxw.mem hw)) rfl rfl ?_
    refine xV (e_not (q0 rfl)) rfl rfl ?_
    refine xV (e_as (v := .bool _) (q0 rfl)) rfl rfl ?_
    refine XN ?_
    refine thenJ_normal ?_
    refine H_cond rfl (fun h2 => ?_) (fun h2 => ?_)
    · rw [if_pos (show (!joinedP r) = true from h2)]
      refine H_seq ?_
      refine R0 ?_
      refine xV (e_as (v := .int _ _) (q0 rfl)) rfl rfl ?_
      refine XN ?_
      refine thenJ_normal ?_
      refine H_ret ?_
      refine blockJ_ret ?_
      refine thenJ_ret ?_
      exact ret1 (v := .int _ _) rfl rfl rfl fun w' hw => ⟨rfl, hw.1⟩
    · rw [if_neg (show ¬ (!joinedP r) = true by rw [show (!joinedP r) = false from h2]; decide)]
      refine H_seq ?_
      refine R0 ?_
      refine xV (eS Try.isAgg27 Try.sizeOf27 (q0 rfl)) rfl rfl ?_
      refine xC (en Try.call37 (ha1 (q0 rfl))) (fun _ w hw => rordered_w ⟨r, ra⟩ w (hxw.mem hw) hp) rfl rfl ?_
      refine xV (e_not (q0 rfl)) rfl rfl ?_
      refine xV (e_as (v := .bool _) (q0 rfl)) rfl rfl ?_
      refine XN ?_
      refine thenJ_normal ?_
      refine H_cond rfl (fun h3 => ?_) (fun h3 => ?_)
      · rw [if_pos (show (!orderedP r) = true from h3)]
        refine H_seq ?_
        refine R0 ?_
        refine xV (e_as (v := .int _ _) (q0 rfl)) rfl rfl ?_
        refine XN ?_
        refine thenJ_normal ?_
        refine H_ret ?_
        refine blockJ_ret ?_
        refine thenJ_ret ?_
        exact ret1 (v := .int _ _) rfl rfl rfl fun w' hw => ⟨rfl, hw.1⟩
      · rw [if_neg (show ¬ (!orderedP r) = true by rw [show (!orderedP r) = false from h3]; decide)]
        refine H_seq ?_
        refine R0 ?_
        refine xV (e_fld Try.underlying27 rfl Try.sizeOf4 rfl (q0 rfl)) rfl rfl ?_
        refine xV (eL Try.isAgg4 (q0 rfl)) rfl rfl ?_
        refine xV (e_mv (v := .bool _) (q0 rfl)) rfl rfl ?_
        refine xVT (e_fld Try.underlying27 rfl Try.sizeOf23 rfl (q0 rfl)) rfl rfl rfl rfl ?_
        refine xVT (eP Try.isAgg23 Try.sizeOf23 (q1 rfl)) rfl rfl rfl rfl ?_
        refine xVT (EvG.any (e_build Try.underlying23 fl23 Try.zeroValue23 E.p0 rfl)) rfl rfl rfl rfl ?_
        refine xVT (e_neS (fun w => eqSpn r.end_ zSpn w) (by kernel_rfl) (q1 rfl) (q1 rfl)) rfl rfl rfl rfl ?_
        refine xV (e_and (q0 rfl) rfl (fun h => by first | rfl | (rw [h]; rfl))) rfl rfl ?_
        refine xV (e_mv (v := .bool _) (q0 rfl)) rfl rfl ?_
        refine xVF (e_fld Try.underlying27 rfl Try.sizeOf4 rfl (q0 rfl)) rfl rfl rfl rfl ?_
        refine xVF (eL Try.isAgg4 (q1 rfl)) rfl rfl rfl rfl ?_
        refine xVF (e_fld Try.underlying27 rfl Try.sizeOf3 rfl (q0 rfl)) rfl rfl rfl rfl ?_
        refine xVF (eL Try.isAgg3 (q1 rfl)) rfl rfl rfl rfl ?_
        refine xVF (e_eq (q1 rfl) (q0 rfl)) rfl rfl rfl rfl ?_
        refine xVF (e_neb Try.underlying4 (q1 rfl) (q1 rfl)) rfl rfl rfl rfl ?_
        refine xV (e_or (q0 rfl) rfl (fun h => by first | rfl | (rw [h]; rfl))) rfl rfl ?_
        refine xV (e_as (v := .bool _) (q0 rfl)) rfl rfl ?_
        refine XN ?_
        refine thenJ_normal ?_
        refine H_cond rfl (fun h4 => ?_) (fun h4 => ?_)
        · have h5 : ((r.open_ && !decide (r.end_ = zSpn)) || !(r.open_ == decide (r.wh = 3))) = true := h4
          have h6 : (if (r.open_ && !decide (r.end_ = zSpn)) = true then (12 : Int) else if (!(r.open_ == decide (r.wh = 3))) = true then 12 else 0) = 12 := by
            revert h5
            cases (r.open_ && !decide (r.end_ = zSpn)) <;> cases (r.open_ == decide (r.wh = 3)) <;> simp
          rw [h6]
          refine H_seq ?_
          refine R0 ?_
          refine xV (e_as (v := .int _ _) (q0 rfl)) rfl rfl ?_
          refine XN ?_
          refine thenJ_normal ?_
          refine H_ret ?_
          refine blockJ_ret ?_
          refine thenJ_ret ?_
          exact ret1 (v := .int _ _) rfl rfl rfl fun w' hw => ⟨rfl, hw.1⟩
        · have h5 : ((r.open_ && !decide (r.end_ = zSpn)) || !(r.open_ == decide (r.wh = 3))) = false := h4
          have h6 : (if (r.open_ && !decide (r.end_ = zSpn)) = true then (12 : Int) else if (!(r.open_ == decide (r.wh = 3))) = true then 12 else 0) = 0 := by
            revert h5
            cases (r.open_ && !decide (r.end_ = zSpn)) <;> cases (r.open_ == decide (r.wh = 3)) <;> simp
          rw [h6]
          refine H_skip ?_
          refine blockJ_normal ?_
          refine thenJ_normal ?_
          refine H_seq ?_
          refine R0 ?_
          refine xV (e_as (v := .int _ _) (q0 rfl)) rfl rfl ?_
          refine XN ?_
          refine thenJ_normal ?_
          refine H_ret ?_
          exact ret1 (v := .int _ _) rfl rfl rfl fun w' hw => ⟨rfl, hw.1⟩
set_option maxHeartbeats 1000000 in
set_option maxRecDepth 20000 in
theorem checksLaw_w (x : RX) (w : World) (hx : RdAt w x) : Calls Try.prog 3 #[.agg x.cells.toArray] w fun e w' => e = .returned (.bool true) ∧ Bel w w' := by
  have hxw := hx
  obtain ⟨r, ra⟩ := x
  refine H_enter Try.func3 rfl Try.ntmps3 rfl ?_
  refine H_seq ?_
  refine R0 ?_
  refine X_box (v := .agg _) rfl rfl fun b1 => ?_
  refine xV (e_as (v := .bool _) (q0 rfl)) rfl rfl ?_
  refine XN ?_
  refine thenJ_normal ?_
  refine H_seq ?_
  refine H_seq ?_
  refine R0 ?_
  refine xV (e_fld Try.underlying27 rfl Try.sizeOf24 rfl (q0 rfl)) rfl rfl ?_
  refine xV (eL Try.isAgg24 (q0 rfl)) rfl rfl ?_
  refine xV (e_len Try.underlying24 (q0 rfl)) rfl rfl ?_
  refine xV (e_gt (q0 rfl) (q0 rfl)) rfl rfl ?_
  refine xV (e_mv (v := .bool _) (q0 rfl)) rfl rfl ?_
  refine xVF (e_fld Try.underlying27 rfl Try.sizeOf25 rfl (q0 rfl)) rfl rfl rfl rfl ?_
  refine xVF (eL Try.isAgg25 (q1 rfl)) rfl rfl rfl rfl ?_
  refine xVF (e_len Try.underlying25 (q1 rfl)) rfl rfl rfl rfl ?_
  refine xVF (e_gt (q1 rfl) (q0 rfl)) rfl rfl rfl rfl ?_
  refine xV (e_or (q0 rfl) rfl (fun h => by first | rfl | (rw [h]; rfl))) rfl rfl ?_
  refine XN ?_
  refine thenJ_normal ?_
  refine H_cond rfl (fun h1 => ?_) (fun h1 => ?_)
  · refine H_seq ?_
    refine R0 ?_
    refine xC (en Try.call10 (ha0)) (fun _ w _ => awake_w w) rfl rfl ?_
    refine xV (e_as (v := .bool _) (q0 rfl)) rfl rfl ?_
    refine XN ?_
    refine thenJ_normal ?_
    refine H_ret ?_
    refine thenJ_ret ?_
    exact ret1 (v := .bool _) rfl rfl rfl fun w' hw => ⟨rfl, hw.1⟩
  · have h2 : (decide ((600 : Int) < r.legs.length) || decide ((600 : Int) < r.pauses.length)) = false := h1
    have h3 : r.legs.length ≤ 600 ∧ r.pauses.length ≤ 600 := by simp at h2; omega
    refine H_skip ?_
    refine thenJ_normal ?_
    refine H_seq ?_
    refine R1 rfl (by decide +kernel) ?_
    refine xV (eS Try.isAgg27 Try.sizeOf27 (q0 rfl)) rfl rfl ?_
    refine xC (en Try.call11 (ha1 (q0 rfl))) (fun _ w hw => rcheck_w ⟨r, ra⟩ w (hxw.mem hw) (by simp only; omega) (by simp only; omega)) rfl rfl ?_
    refine xV (eS Try.isAgg27 Try.sizeOf27 (q0 rfl)) rfl rfl ?_
    refine xC (en Try.call12 (ha1 (q0 rfl))) (fun _ w hw => refcheck_w ⟨r, ra⟩ w (hxw.mem hw) (by simp only; omega)) rfl rfl ?_
    refine xV (e_eq (q0 rfl) (q0 rfl)) rfl rfl ?_
    refine xV (e_mv (v := .bool _) (q0 rfl)) rfl rfl ?_
    refine xCT (en Try.call10 (ha0)) (fun _ w _ => awake_w w) rfl rfl rfl rfl ?_
    refine xV (e_and (q0 rfl) rfl (fun h => by first | rfl | (rw [h]; rfl))) rfl rfl ?_
    refine xV (e_as (v := .bool _) (q0 rfl)) rfl rfl ?_
    refine XN ?_
    refine thenJ_normal ?_
    refine H_ret ?_
    exact ret1 (v := .bool _) rfl rfl rfl fun w' hw => ⟨ret_bool (by simp), hw.1⟩
def zRide : Value := .agg (RX.cells ⟨zRd, zPl⟩).toArray

end Go.Proofs.Rid
