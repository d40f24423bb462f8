/-
  The walk of the law Grows.
-/
import Derived.Test.YtnehidbpliknaaaPf
import Derived.Test.YtnehidbpliknaaaPm
namespace Go.Proofs.Pen
open Go Go.RowKit Go.Proofs.E

theorem numR_ok {fines : List Int} {days : Int} {vs : List V} {k : Nat} {v : V} (hc : cErr fines days vs = 0) (hv : vs[k]? = some v) : numR fines days vs (k : Int) = (num days vs v, 0) := by
  have := (List.getElem?_eq_some_iff.1 hv).1
  unfold numR
  rw [if_neg (by simpa using hc), if_neg (by omega), List.getD_eq_getElem?_getD, Int.toNat_natCast, hv]
  rfl
theorem gRun_succ {days : Int} {l : List V} {v x : V} {k : Nat} (hx : l[k]? = some x) : gRun days l v (k + 1) = gStep days l v (gRun days l v k) k x := by
  show gStep _ _ _ _ _ (l.getD k V.zero) = _
  rw [List.getD_eq_getElem?_getD, hx]; rfl
theorem numR_cases {fines : List Int} {days : Int} {vs : List V} {i : Int} : (∃ e, ¬ e = 0 ∧ numR fines days vs i = (0, e)) ∨ ∃ (k : Nat) (v : V), i = k ∧ cErr fines days vs = 0 ∧ vs[k]? = some v ∧ numR fines days vs i = (num days vs v, 0) := by
  by_cases hc : cErr fines days vs = 0
  · by_cases hi : i < 0 ∨ (vs.length : Int) ≤ i
    · exact .inl ⟨7, by decide, by unfold numR; rw [if_neg (by simpa using hc), if_pos hi]⟩
    · obtain ⟨k, rfl⟩ := Int.eq_ofNat_of_zero_le (show 0 ≤ i by omega)
      have hk : k < vs.length := by omega
      exact .inr ⟨k, vs[k], rfl, hc, List.getElem?_eq_getElem hk, numR_ok hc (List.getElem?_eq_getElem hk)⟩
  · exact .inl ⟨_, hc, numR_err rfl hc⟩

attribute [local irreducible] pErr vErr cErr numR fineR totalR sumF fine num cnt gRun before

theorem grows_w (a0 a1 a2 a3 a4 : Value) (fA : Option Addr) (fn fc : Nat) (fines : List Int) (days : Int) (A : Option Addr) (n c : Nat) (vs : List V) (i : Int) (w : World) (hf : IntsAt w fA fn fines) (hx : VsAt w A n vs) :
    Calls Try.prog 6 #[.agg #[a0, a1, a2, a3, a4, .slice fA fn fc, .int .i64 days], .slice A n c, .int .i64 i] w fun e w' => e = .returned (.bool true) ∧ Below w.heap.size w w' := by
  have hl := hx.1
  refine H_enter Try.func6 rfl Try.ntmps6 rfl ?_
  refine H_seq ?_
  refine R0 ?_
  refine X_box (v := .agg _) rfl rfl fun b3 => ?_
  refine xV (e_as (v := .bool _) (q0 rfl)) rfl rfl ?_
  refine XN ?_
  refine thenJ_normal ?_
  refine H_seq ?_
  refine H_seq ?_
  refine R0 ?_
  refine xV (e_mv (v := .slice _ _ _) (q0 rfl)) rfl rfl ?_
  refine xV (e_len Try.underlying27 (q0 rfl)) rfl rfl ?_
  refine xV (e_gt (q0 rfl) (q0 rfl)) rfl rfl ?_
  refine xV (e_mv (v := .bool _) (q0 rfl)) rfl rfl ?_
  refine xVF (e_fld Try.underlying26 rfl Try.sizeOf24 rfl (q0 rfl)) rfl rfl rfl rfl ?_
  refine xVF (e_ld Try.isAgg24 (q1 rfl) (by first | exact bx 0 rfl rfl | exact bx 1 rfl rfl | exact bx 2 rfl rfl | exact bx 3 rfl rfl | exact bx 4 rfl rfl | exact bx 5 rfl rfl | exact bx 6 rfl rfl | exact bx 7 rfl rfl | exact bx 8 rfl rfl | exact bx 9 rfl rfl | exact rc ‹_› ‹_› rfl | exact rc0 ‹_› ‹_› rfl | exact xc ‹_› ‹_›)) rfl rfl rfl rfl ?_
  refine xVF (e_len Try.underlying24 (q1 rfl)) rfl rfl rfl rfl ?_
  refine xVF (e_gt (q1 rfl) (q0 rfl)) rfl rfl rfl rfl ?_
  refine xV (e_or (q0 rfl) rfl (fun h => by first | rfl | (rw [h]; rfl))) rfl rfl ?_
  refine XN ?_
  refine thenJ_normal ?_
  refine H_cond rfl (fun hb => ?_) (fun hb => ?_)
  · refine H_seq ?_
    refine R0 ?_
    refine xC (en Try.call11 (ha0)) (fun _ w hm => awake_w w) rfl rfl ?_
    refine xV (e_as (v := .bool _) (q0 rfl)) rfl rfl ?_
    refine XN ?_
    refine thenJ_normal ?_
    refine H_ret ?_
    refine thenJ_ret ?_
    exact ret1 (v := .bool _) rfl rfl rfl fun w' hw => ⟨rfl, hw.1⟩
  · have h40 : vs.length ≤ 40 := by simp at hb; omega
    rcases numR_cases (fines := fines) (days := days) (vs := vs) (i := i) with ⟨er, her, hnr⟩ | ⟨k0, v, rfl, hc, hv, hnr⟩
    case inl =>
      refine H_skip ?_
      refine thenJ_normal ?_
      refine H_seq ?_
      refine R0 ?_
      refine xV (e_lds Try.isAgg26 Try.sizeOf26 (q0 rfl) (by first | exact bxs 0 rfl | exact bxs 1 rfl | exact bxs 2 rfl | exact bxs 3 rfl | exact bxs 4 rfl | exact bxs 5 rfl | exact bxs 6 rfl | exact bxs 7 rfl | exact bxs 8 rfl | exact bxs 9 rfl | exact rcs ‹_› ‹_›) rfl) rfl rfl ?_
      refine xV (e_mv (v := .slice _ _ _) (q0 rfl)) rfl rfl ?_
      refine xV (e_mv (v := .int _ _) (q0 rfl)) rfl rfl ?_
      refine xC (en Try.call16 (ha3 (q0 rfl) (q0 rfl) (q0 rfl))) (fun _ w hm => (by have := Number_w a0 a1 a2 a3 a4 fA fn fc fines days A n c vs i w (hf.mem hm) (hx.mem hm); rw [hnr] at this; exact this)) rfl rfl ?_
      refine xV (e_mv (q0 rfl)) rfl rfl ?_
      refine xV (e_ext (q0 rfl) rfl) rfl rfl ?_
      refine xV (e_ext (q0 rfl) rfl) rfl rfl ?_
      refine xV (e_as (v := .int _ _) (q0 rfl)) rfl rfl ?_
      refine xV (e_as (v := .int _ _) (q0 rfl)) rfl rfl ?_
      refine XN ?_
      refine thenJ_normal ?_
      refine H_seq ?_
      refine H_seq ?_
      refine R0 ?_
      refine xV (e_mv (v := .int _ _) (q0 rfl)) rfl rfl ?_
      refine xV (e_ne (q0 rfl) (q0 rfl)) rfl rfl ?_
      refine XN ?_
      refine thenJ_normal ?_
      refine H_cond rfl (fun hz => ?_) (fun hz => ?_)
      · refine H_seq ?_
        refine R0 ?_
        refine xV (e_mv (v := .int _ _) (q0 rfl)) rfl rfl ?_
        refine xV (e_eq (q0 rfl) (q0 rfl)) rfl rfl ?_
        refine xV (e_mv (v := .bool _) (q0 rfl)) rfl rfl ?_
        refine xCT (en Try.call11 (ha0)) (fun _ w hm => awake_w w) rfl rfl rfl rfl ?_
        refine xV (e_and (q0 rfl) rfl (fun h => by first | rfl | (rw [h]; rfl))) rfl rfl ?_
        refine xV (e_as (v := .bool _) (q0 rfl)) rfl rfl ?_
        refine XN ?_
        refine thenJ_normal ?_
        refine H_ret ?_
        refine thenJ_ret ?_
        exact ret1 (v := .bool _) rfl rfl rfl fun w' hw => ⟨rfl, hw.1⟩
      · exact absurd (by simpa using hz) her
    case inr =>
      have hk0 : k0 < n := by have := (List.getElem?_eq_some_iff.1 hv).1; omega
      obtain ⟨hcp, hcv⟩ := cErr_ok hc
      have htm := timely_of hcv
      have hvm := htm v (List.mem_of_getElem? hv)
      have hdy := (pErr_ok2 hcp).2.2
      refine H_skip ?_
      refine thenJ_normal ?_
      refine H_seq ?_
      refine R0 ?_
      refine xV (e_lds Try.isAgg26 Try.sizeOf26 (q0 rfl) (by first | exact bxs 0 rfl | exact bxs 1 rfl | exact bxs 2 rfl | exact bxs 3 rfl | exact bxs 4 rfl | exact bxs 5 rfl | exact bxs 6 rfl | exact bxs 7 rfl | exact bxs 8 rfl | exact bxs 9 rfl | exact rcs ‹_› ‹_›) rfl) rfl rfl ?_
      refine xV (e_mv (v := .slice _ _ _) (q0 rfl)) rfl rfl ?_
      refine xV (e_mv (v := .int _ _) (q0 rfl)) rfl rfl ?_
      refine xC (en Try.call16 (ha3 (q0 rfl) (q0 rfl) (q0 rfl))) (fun _ w hm => (by have := Number_w a0 a1 a2 a3 a4 fA fn fc fines days A n c vs k0 w (hf.mem hm) (hx.mem hm); rw [hnr] at this; exact this)) rfl rfl ?_
      refine xV (e_mv (q0 rfl)) rfl rfl ?_
      refine xV (e_ext (q0 rfl) rfl) rfl rfl ?_
      refine xV (e_ext (q0 rfl) rfl) rfl rfl ?_
      refine xV (e_as (v := .int _ _) (q0 rfl)) rfl rfl ?_
      refine xV (e_as (v := .int _ _) (q0 rfl)) rfl rfl ?_
      refine XN ?_
      refine thenJ_normal ?_
      refine H_seq ?_
      refine H_seq ?_
      refine R0 ?_
      refine xV (e_mv (v := .int _ _) (q0 rfl)) rfl rfl ?_
      refine xV (e_ne (q0 rfl) (q0 rfl)) rfl rfl ?_
      refine XN ?_
      refine thenJ_normal ?_
      refine H_cond rfl (fun hz => ?_) (fun hz => ?_)
      · simp at hz
      · refine H_skip ?_
        refine thenJ_normal ?_
        refine H_seq ?_
        refine H_seq ?_
        refine R0 ?_
        refine xV (e_mv (v := .int _ _) (q0 rfl)) rfl rfl ?_
        refine xV (e_lt (q0 rfl) (q0 rfl)) rfl rfl ?_
        refine xV (e_mv (v := .bool _) (q0 rfl)) rfl rfl ?_
        refine xVF (e_mv (v := .int _ _) (q0 rfl)) rfl rfl rfl rfl ?_
        refine xVF (e_mv (v := .slice _ _ _) (q0 rfl)) rfl rfl rfl rfl ?_
        refine xVF (e_len Try.underlying27 (q1 rfl)) rfl rfl rfl rfl ?_
        refine xVF (e_ge (q1 rfl) (q1 rfl)) rfl rfl rfl rfl ?_
        refine xV (e_or (q0 rfl) rfl (fun h => by first | rfl | (rw [h]; rfl))) rfl rfl ?_
        refine XN ?_
        refine thenJ_normal ?_
        refine H_cond rfl (fun hi => ?_) (fun hi => ?_)
        · simp at hi; omega
        · obtain ⟨b, off, v', rfl, hbl, hv', hrv⟩ := hx.at_ hk0
          obtain rfl : v = v' := by rw [hv] at hv'; exact Option.some.inj hv'
          refine H_skip ?_
          refine thenJ_normal ?_
          refine H_seq ?_
          refine H_seq ?_
          refine R0 ?_
          refine xV (e_mv (v := .slice _ _ _) (q0 rfl)) rfl rfl ?_
          refine xV (e_mv (v := .int _ _) (q0 rfl)) rfl rfl ?_
          refine xV (e_idx _ Try.underlying27 Try.sizeOf37 (q0 rfl) (q0 rfl) (fun _ => ⟨rfl, by omega⟩)) rfl rfl ?_
          refine xV (e_fld Try.underlying37 rfl Try.sizeOf3 rfl (q0 rfl)) rfl rfl ?_
          refine xV (e_ld Try.isAgg3 (q0 rfl) (by first | exact bx 0 rfl rfl | exact bx 1 rfl rfl | exact bx 2 rfl rfl | exact bx 3 rfl rfl | exact bx 4 rfl rfl | exact bx 5 rfl rfl | exact bx 6 rfl rfl | exact bx 7 rfl rfl | exact bx 8 rfl rfl | exact bx 9 rfl rfl | exact rc ‹_› ‹_› rfl | exact rc0 ‹_› ‹_› rfl | exact xc ‹_› ‹_›)) rfl rfl ?_
          refine xV (e_ne (q0 rfl) (q0 rfl)) rfl rfl ?_
          refine XN ?_
          refine thenJ_normal ?_
          refine H_cond rfl (fun hk => ?_) (fun hk => ?_)
          · have hn0 : num days vs v = 0 := by unfold num; rw [if_neg (by simpa using hk)]
            refine H_seq ?_
            refine R0 ?_
            refine xV (e_mv (v := .int _ _) (q0 rfl)) rfl rfl ?_
            refine xV (e_eq (q0 rfl) (q0 rfl)) rfl rfl ?_
            refine xV (e_mv (v := .bool _) (q0 rfl)) rfl rfl ?_
            refine xCT (en Try.call11 (ha0)) (fun _ w hm => awake_w w) rfl rfl rfl rfl ?_
            refine xV (e_and (q0 rfl) rfl (fun h => by first | rfl | (rw [h]; rfl))) rfl rfl ?_
            refine xV (e_as (v := .bool _) (q0 rfl)) rfl rfl ?_
            refine XN ?_
            refine thenJ_normal ?_
            refine H_ret ?_
            refine thenJ_ret ?_
            exact ret1 (v := .bool _) rfl rfl rfl fun w' hw => ⟨ret_bool (by simp [hn0]), hw.1⟩
          · have hk2 : v.kind = 2 := by simpa using hk
            refine H_skip ?_
            refine thenJ_normal ?_
            refine H_seq ?_
            refine R1 rfl (by decide +kernel) ?_
            refine xV (e_mv (v := .slice _ _ _) (q0 rfl)) rfl rfl ?_
            refine xV (e_mv (v := .int _ _) (q0 rfl)) rfl rfl ?_
            refine xV (e_idx _ Try.underlying27 Try.sizeOf37 (q0 rfl) (q0 rfl) (fun _ => ⟨rfl, by omega⟩)) rfl rfl ?_
            refine xV (e_fld Try.underlying37 rfl Try.sizeOf3 rfl (q0 rfl)) rfl rfl ?_
            refine xV (e_ld Try.isAgg3 (q0 rfl) (by first | exact bx 0 rfl rfl | exact bx 1 rfl rfl | exact bx 2 rfl rfl | exact bx 3 rfl rfl | exact bx 4 rfl rfl | exact bx 5 rfl rfl | exact bx 6 rfl rfl | exact bx 7 rfl rfl | exact bx 8 rfl rfl | exact bx 9 rfl rfl | exact rc ‹_› ‹_› rfl | exact rc0 ‹_› ‹_› rfl | exact xc ‹_› ‹_›)) rfl rfl ?_
            refine xV (e_quo (q0 rfl) (q0 rfl) (fun _ => by omega)) rfl rfl ?_
            refine xV (e_as (v := .int _ _) (q0 rfl)) rfl rfl ?_
            refine xV (e_as (v := .int _ _) (q0 rfl)) rfl rfl ?_
            refine xV (e_as (v := .int _ _) (q0 rfl)) rfl rfl ?_
            refine xV (e_as (v := .bool _) (q0 rfl)) rfl rfl ?_
            refine XN ?_
            refine thenJ_normal ?_
            refine H_seq ?_
            refine H_seq ?_
            refine R0 ?_
            refine xV (e_as (v := .int _ _) (q0 rfl)) rfl rfl ?_
            refine XN ?_
            refine thenJ_normal ?_
            refine H_block ?_
            refine H_loop [9, 10, 11, 12, 13, 65, 66, 67, 68, 69, 70, 71, 72, 73, 74, 75, 76, 77, 78, 79, 80, 81, 82, 83, 84, 85, 86, 87, 88, 89, 90, 91, 92, 93, 94, 95, 96, 97, 98, 99, 100, 101, 102, 103, 104, 105, 106, 107, 108, 109, 110, 111, 112, 113, 114, 115, 116, 117, 118, 119, 120, 121, 122, 123, 124, 125, 126, 127, 128, 129, 130, 131, 132, 133, 134, 135, 136, 137, 138, 139, 140, 141, 142] (fun k : Nat => [(9, .int .i64 (gRun days vs v k).last), (10, .int .i64 (gRun days vs v k).least), (11, .int .i64 (gRun days vs v k).all), (12, .bool (gRun days vs v k).inside), (13, .int .i64 k)]) (fun _ => _) (fun k => k ≤ n) (fun k => n - k) 0 ⟨by unfold gRun; rfl, by unfold gRun; rfl, by unfold gRun; rfl, by unfold gRun; rfl, rfl, trivial⟩ (fun _ h => h) rfl (Nat.zero_le _) ?_
            rintro k g hkn
            have hG := gInv (days := days) (l := vs) (v := v) hvm.1 k (by omega)
            have hall : (gRun days vs v k).all ≤ k := by
              have h1 := hG.all
              have h2 := List.length_filter_le (same v) (vs.take k)
              rw [List.length_take] at h2
              omega
            have hall0 : 0 ≤ (gRun days vs v k).all := by rw [hG.all]; omega
            have hle := hG.least0.1
            have hle0 := hG.least0.2 htm
            have hlast : (gRun days vs v k).last = -1 ∨ (0 ≤ (gRun days vs v k).last ∧ (gRun days vs v k).last < k) := by
              rcases hG.last with h | ⟨j, u, h, h2, _⟩
              · exact .inl h.1
              · exact .inr (by omega)
            refine H_seq ?_
            refine H_seq ?_
            refine R0 ?_
            refine xV (e_mv (v := .int _ _) (q0 rfl)) rfl rfl ?_
            refine xV (e_mv (v := .slice _ _ _) (q0 rfl)) rfl rfl ?_
            refine xV (e_len Try.underlying27 (q0 rfl)) rfl rfl ?_
            refine xV (e_lt (q0 rfl) (q0 rfl)) rfl rfl ?_
            refine XN ?_
            refine thenJ_normal ?_
            refine H_cond rfl (fun hlt => ?_) (fun hlt => ?_)
            · simp at hlt
              obtain ⟨x, hxk, hrx⟩ := hx.row hlt
              have hxm := htm x (List.mem_of_getElem? hxk)
              have hS := gRun_succ (days := days) (v := v) hxk
              refine H_skip ?_
              refine thenJ_normal ?_
              refine H_seq ?_
              refine H_block ?_
              refine H_seq ?_
              refine H_seq ?_
              refine R1 rfl (by decide +kernel) ?_
              refine xV (e_mv (v := .slice _ _ _) (q0 rfl)) rfl rfl ?_
              refine xV (e_mv (v := .int _ _) (q0 rfl)) rfl rfl ?_
              refine xV (e_idx _ Try.underlying27 Try.sizeOf37 (q0 rfl) (q0 rfl) (fun _ => ⟨rfl, by omega⟩)) rfl rfl ?_
              refine xV (e_fld Try.underlying37 rfl Try.sizeOf3 rfl (q0 rfl)) rfl rfl ?_
              refine xV (e_ld Try.isAgg3 (q0 rfl) (by first | exact bx 0 rfl rfl | exact bx 1 rfl rfl | exact bx 2 rfl rfl | exact bx 3 rfl rfl | exact bx 4 rfl rfl | exact bx 5 rfl rfl | exact bx 6 rfl rfl | exact bx 7 rfl rfl | exact bx 8 rfl rfl | exact bx 9 rfl rfl | exact rc ‹_› ‹_› rfl | exact rc0 ‹_› ‹_› rfl | exact xc ‹_› ‹_›)) rfl rfl ?_
              refine xV (e_ne (q0 rfl) (q0 rfl)) rfl rfl ?_
              refine xV (e_mv (v := .bool _) (q0 rfl)) rfl rfl ?_
              refine xVF (e_mv (v := .slice _ _ _) (q0 rfl)) rfl rfl rfl rfl ?_
              refine xVF (e_mv (v := .int _ _) (q0 rfl)) rfl rfl rfl rfl ?_
              refine xVF (e_idx _ Try.underlying27 Try.sizeOf37 (q1 rfl) (q1 rfl) (fun _ => ⟨rfl, by omega⟩)) rfl rfl rfl rfl ?_
              refine xVF (e_fld Try.underlying37 rfl Try.sizeOf3 rfl (q1 rfl)) rfl rfl rfl rfl ?_
              refine xVF (e_ld Try.isAgg3 (q1 rfl) (by first | exact bx 0 rfl rfl | exact bx 1 rfl rfl | exact bx 2 rfl rfl | exact bx 3 rfl rfl | exact bx 4 rfl rfl | exact bx 5 rfl rfl | exact bx 6 rfl rfl | exact bx 7 rfl rfl | exact bx 8 rfl rfl | exact bx 9 rfl rfl | exact rc ‹_› ‹_› rfl | exact rc0 ‹_› ‹_› rfl | exact xc ‹_› ‹_›)) rfl rfl rfl rfl ?_
              refine xVF (e_mv (v := .slice _ _ _) (q0 rfl)) rfl rfl rfl rfl ?_
              refine xVF (e_mv (v := .int _ _) (q0 rfl)) rfl rfl rfl rfl ?_
              refine xVF (e_idx _ Try.underlying27 Try.sizeOf37 (q1 rfl) (q1 rfl) (fun _ => ⟨rfl, by omega⟩)) rfl rfl rfl rfl ?_
              refine xVF (e_fld Try.underlying37 rfl Try.sizeOf3 rfl (q1 rfl)) rfl rfl rfl rfl ?_
              refine xVF (e_ld Try.isAgg3 (q1 rfl) (by first | exact bx 0 rfl rfl | exact bx 1 rfl rfl | exact bx 2 rfl rfl | exact bx 3 rfl rfl | exact bx 4 rfl rfl | exact bx 5 rfl rfl | exact bx 6 rfl rfl | exact bx 7 rfl rfl | exact bx 8 rfl rfl | exact bx 9 rfl rfl | exact rc ‹_› ‹_› rfl | exact rc0 ‹_› ‹_› rfl | exact xc ‹_› ‹_›)) rfl rfl rfl rfl ?_
              refine xVF (e_ne (q1 rfl) (q1 rfl)) rfl rfl rfl rfl ?_
              refine xV (e_or (q0 rfl) rfl (fun h => by first | rfl | (rw [h]; rfl))) rfl rfl ?_
              refine XN ?_
              refine thenJ_normal ?_
              refine H_cond rfl (fun hs => ?_) (fun hs => ?_)
              · have hsm : same v x = false := by
                  simp [same]; simp at hs; exact fun h => hs.elim (fun h2 => absurd h h2) id
                have hS2 : gRun days vs v (k + 1) = gRun days vs v k := by rw [hS]; unfold gStep; rw [if_pos hsm]
                refine H_exit ?_
                refine thenJ_exit ?_
                refine blockJ_hit ?_
                refine thenJ_normal ?_
                refine R0 ?_
                refine xV (e_mv (v := .int _ _) (q0 rfl)) rfl rfl ?_
                refine xV (e_add (q0 rfl) (q0 rfl) (fun _ => ⟨rfl, by omega, by omega⟩)) rfl rfl ?_
                refine xV (e_as (v := .int _ _) (q0 rfl)) rfl rfl ?_
                refine XN ?_
                exact loopJ_normal (k + 1) (by repeat (first | exact agree_self | exact agree_over | refine agree_upd rfl ?_ | refine agree_updL rfl ?_ | refine agree_over2 rfl ?_)) ⟨(congrArg (fun s => Value.int .i64 (G.last s)) hS2.symm : Value.int .i64 _ = _), (congrArg (fun s => Value.int .i64 (G.least s)) hS2.symm : Value.int .i64 _ = _), (congrArg (fun s => Value.int .i64 (G.all s)) hS2.symm : Value.int .i64 _ = _), (congrArg (fun s => Value.bool (G.inside s)) hS2.symm : Value.bool _ = _), rfl, trivial⟩ (fun _ h => h) rfl (by omega) (by show n - (k + 1) < n - k; omega)
              · have hsm : same v x = true := by simp [same]; simpa using hs
                refine H_skip ?_
                refine thenJ_normal ?_
                refine H_seq ?_
                refine R0 ?_
                refine xV (e_mv (v := .int _ _) (q0 rfl)) rfl rfl ?_
                refine xV (e_add (q0 rfl) (q0 rfl) (fun _ => ⟨rfl, by omega, by omega⟩)) rfl rfl ?_
                refine xV (e_as (v := .int _ _) (q0 rfl)) rfl rfl ?_
                refine XN ?_
                refine thenJ_normal ?_
                refine H_seq ?_
                refine H_seq ?_
                refine R1 rfl (by decide +kernel) ?_
                refine xV (e_mv (v := .slice _ _ _) (q0 rfl)) rfl rfl ?_
                refine xV (e_mv (v := .int _ _) (q0 rfl)) rfl rfl ?_
                refine xV (e_idx _ Try.underlying27 Try.sizeOf37 (q0 rfl) (q0 rfl) (fun _ => ⟨rfl, by omega⟩)) rfl rfl ?_
                refine xV (e_lds Try.isAgg37 Try.sizeOf37 (q0 rfl) (by first | exact bxs 0 rfl | exact bxs 1 rfl | exact bxs 2 rfl | exact bxs 3 rfl | exact bxs 4 rfl | exact bxs 5 rfl | exact bxs 6 rfl | exact bxs 7 rfl | exact bxs 8 rfl | exact bxs 9 rfl | exact rcs ‹_› ‹_›) rfl) rfl rfl ?_
                refine xV (e_mv (v := .slice _ _ _) (q0 rfl)) rfl rfl ?_
                refine xV (e_mv (v := .int _ _) (q0 rfl)) rfl rfl ?_
                refine xV (e_idx _ Try.underlying27 Try.sizeOf37 (q0 rfl) (q0 rfl) (fun _ => ⟨rfl, by omega⟩)) rfl rfl ?_
                refine xV (e_lds Try.isAgg37 Try.sizeOf37 (q0 rfl) (by first | exact bxs 0 rfl | exact bxs 1 rfl | exact bxs 2 rfl | exact bxs 3 rfl | exact bxs 4 rfl | exact bxs 5 rfl | exact bxs 6 rfl | exact bxs 7 rfl | exact bxs 8 rfl | exact bxs 9 rfl | exact rcs ‹_› ‹_›) rfl) rfl rfl ?_
                refine xC (en Try.call22 (ha2 (q0 rfl) (q0 rfl))) (fun _ w _ => rbefore_w x v w) rfl rfl ?_
                refine xV (e_not (q0 rfl)) rfl rfl ?_
                refine XN ?_
                refine thenJ_normal ?_
                refine H_cond rfl (fun hbx => ?_) (fun hbx => ?_)
                · have hbx' : before x v = false := by simpa using hbx
                  have hS2 : gRun days vs v (k + 1) = ⟨(gRun days vs v k).last, (gRun days vs v k).least, (gRun days vs v k).all + 1, (gRun days vs v k).inside⟩ := by rw [hS]; unfold gStep; rw [if_neg (by simp [hsm]), if_pos hbx']
                  refine H_exit ?_
                  refine thenJ_exit ?_
                  refine blockJ_hit ?_
                  refine thenJ_normal ?_
                  refine R0 ?_
                  refine xV (e_mv (v := .int _ _) (q0 rfl)) rfl rfl ?_
                  refine xV (e_add (q0 rfl) (q0 rfl) (fun _ => ⟨rfl, by omega, by omega⟩)) rfl rfl ?_
                  refine xV (e_as (v := .int _ _) (q0 rfl)) rfl rfl ?_
                  refine XN ?_
                  exact loopJ_normal (k + 1) (by repeat (first | exact agree_self | exact agree_over | refine agree_upd rfl ?_ | refine agree_updL rfl ?_ | refine agree_over2 rfl ?_)) ⟨(congrArg (fun s => Value.int .i64 (G.last s)) hS2.symm : Value.int .i64 _ = _), (congrArg (fun s => Value.int .i64 (G.least s)) hS2.symm : Value.int .i64 _ = _), (congrArg (fun s => Value.int .i64 (G.all s)) hS2.symm : Value.int .i64 _ = _), (congrArg (fun s => Value.bool (G.inside s)) hS2.symm : Value.bool _ = _), rfl, trivial⟩ (fun _ h => h) rfl (by omega) (by show n - (k + 1) < n - k; omega)
                · have hbx' : before x v = true := by simpa using hbx
                  obtain ⟨xl, hxl, hrl⟩ := hx.row (i := (gRun days vs v k).last.toNat) (by omega)
                  have hxg : vs.getD (gRun days vs v k).last.toNat V.zero = xl := by rw [List.getD_eq_getElem?_getD, hxl]; rfl
                  refine H_skip ?_
                  refine thenJ_normal ?_
                  refine H_seq ?_
                  refine R0 ?_
                  refine xV (e_mv (v := .int _ _) (q0 rfl)) rfl rfl ?_
                  refine xV (e_mv (v := .slice _ _ _) (q0 rfl)) rfl rfl ?_
                  refine xV (e_mv (v := .int _ _) (q0 rfl)) rfl rfl ?_
                  refine xV (e_idx _ Try.underlying27 Try.sizeOf37 (q0 rfl) (q0 rfl) (fun _ => ⟨rfl, by omega⟩)) rfl rfl ?_
                  refine xV (e_fld Try.underlying37 rfl Try.sizeOf3 rfl (q0 rfl)) rfl rfl ?_
                  refine xV (e_ld Try.isAgg3 (q0 rfl) (by first | exact bx 0 rfl rfl | exact bx 1 rfl rfl | exact bx 2 rfl rfl | exact bx 3 rfl rfl | exact bx 4 rfl rfl | exact bx 5 rfl rfl | exact bx 6 rfl rfl | exact bx 7 rfl rfl | exact bx 8 rfl rfl | exact bx 9 rfl rfl | exact rc ‹_› ‹_› rfl | exact rc0 ‹_› ‹_› rfl | exact xc ‹_› ‹_›)) rfl rfl ?_
                  refine xV (e_quo (q0 rfl) (q0 rfl) (fun _ => by omega)) rfl rfl ?_
                  refine xV (e_min (q0 rfl) (q0 rfl)) rfl rfl ?_
                  refine xV (e_as (v := .int _ _) (q0 rfl)) rfl rfl ?_
                  refine XN ?_
                  refine thenJ_normal ?_
                  refine H_seq ?_
                  refine R1 rfl (by decide +kernel) ?_
                  refine xV (e_mv (v := .bool _) (q0 rfl)) rfl rfl ?_
                  refine xV (e_mv (v := .bool _) (q0 rfl)) rfl rfl ?_
                  refine xVF (e_mv (v := .slice _ _ _) (q0 rfl)) rfl rfl rfl rfl ?_
                  refine xVF (e_mv (v := .int _ _) (q0 rfl)) rfl rfl rfl rfl ?_
                  refine xVF (e_idx _ Try.underlying27 Try.sizeOf37 (q1 rfl) (q1 rfl) (fun _ => ⟨rfl, by omega⟩)) rfl rfl rfl rfl ?_
                  refine xVF (e_fld Try.underlying37 rfl Try.sizeOf3 rfl (q1 rfl)) rfl rfl rfl rfl ?_
                  refine xVF (e_ld Try.isAgg3 (q1 rfl) (by first | exact bx 0 rfl rfl | exact bx 1 rfl rfl | exact bx 2 rfl rfl | exact bx 3 rfl rfl | exact bx 4 rfl rfl | exact bx 5 rfl rfl | exact bx 6 rfl rfl | exact bx 7 rfl rfl | exact bx 8 rfl rfl | exact bx 9 rfl rfl | exact rc ‹_› ‹_› rfl | exact rc0 ‹_› ‹_› rfl | exact xc ‹_› ‹_›)) rfl rfl rfl rfl ?_
                  refine xVF (e_quo (q1 rfl) (q0 rfl) (fun _ => by omega)) rfl rfl rfl rfl ?_
                  refine xVF (e_mv (v := .slice _ _ _) (q0 rfl)) rfl rfl rfl rfl ?_
                  refine xVF (e_mv (v := .int _ _) (q0 rfl)) rfl rfl rfl rfl ?_
                  refine xVF (e_idx _ Try.underlying27 Try.sizeOf37 (q1 rfl) (q1 rfl) (fun _ => ⟨rfl, by omega⟩)) rfl rfl rfl rfl ?_
                  refine xVF (e_fld Try.underlying37 rfl Try.sizeOf3 rfl (q1 rfl)) rfl rfl rfl rfl ?_
                  refine xVF (e_ld Try.isAgg3 (q1 rfl) (by first | exact bx 0 rfl rfl | exact bx 1 rfl rfl | exact bx 2 rfl rfl | exact bx 3 rfl rfl | exact bx 4 rfl rfl | exact bx 5 rfl rfl | exact bx 6 rfl rfl | exact bx 7 rfl rfl | exact bx 8 rfl rfl | exact bx 9 rfl rfl | exact rc ‹_› ‹_› rfl | exact rc0 ‹_› ‹_› rfl | exact xc ‹_› ‹_›)) rfl rfl rfl rfl ?_
                  refine xVF (e_quo (q1 rfl) (q0 rfl) (fun _ => by omega)) rfl rfl rfl rfl ?_
                  refine xVF (e_fld Try.underlying26 rfl Try.sizeOf3 rfl (q0 rfl)) rfl rfl rfl rfl ?_
                  refine xVF (e_ld Try.isAgg3 (q1 rfl) (by first | exact bx 0 rfl rfl | exact bx 1 rfl rfl | exact bx 2 rfl rfl | exact bx 3 rfl rfl | exact bx 4 rfl rfl | exact bx 5 rfl rfl | exact bx 6 rfl rfl | exact bx 7 rfl rfl | exact bx 8 rfl rfl | exact bx 9 rfl rfl | exact rc ‹_› ‹_› rfl | exact rc0 ‹_› ‹_› rfl | exact xc ‹_› ‹_›)) rfl rfl rfl rfl ?_
                  refine xVF (e_sub (q1 rfl) (q1 rfl) (fun _ => ⟨rfl, by omega, by omega⟩)) rfl rfl rfl rfl ?_
                  refine xVF (e_ge (q1 rfl) (q1 rfl)) rfl rfl rfl rfl ?_
                  refine xV (e_or (q0 rfl) rfl (fun h => by first | rfl | (rw [h]; rfl))) rfl rfl ?_
                  refine xV (e_as (v := .bool _) (q0 rfl)) rfl rfl ?_
                  refine XN ?_
                  refine thenJ_normal ?_
                  refine H_seq ?_
                  refine R1 rfl (by decide +kernel) ?_
                  refine xV (e_mv (v := .int _ _) (q0 rfl)) rfl rfl ?_
                  refine xV (e_lt (q0 rfl) (q0 rfl)) rfl rfl ?_
                  refine xV (e_mv (v := .bool _) (q0 rfl)) rfl rfl ?_
                  refine xVF (e_mv (v := .slice _ _ _) (q0 rfl)) rfl rfl rfl rfl ?_
                  refine xVF (e_mv (v := .int _ _) (q0 rfl)) rfl rfl rfl rfl ?_
                  refine xVF (e_idx (gRun days vs v k).last.toNat Try.underlying27 Try.sizeOf37 (q1 rfl) (q1 rfl) (fun h => by simp at h; omega)) rfl rfl rfl rfl ?_
                  refine xVF (e_lds Try.isAgg37 Try.sizeOf37 (q1 rfl) (by first | exact bxs 0 rfl | exact bxs 1 rfl | exact bxs 2 rfl | exact bxs 3 rfl | exact bxs 4 rfl | exact bxs 5 rfl | exact bxs 6 rfl | exact bxs 7 rfl | exact bxs 8 rfl | exact bxs 9 rfl | exact rcs ‹_› ‹_›) rfl) rfl rfl rfl rfl ?_
                  refine xVF (e_mv (v := .slice _ _ _) (q0 rfl)) rfl rfl rfl rfl ?_
                  refine xVF (e_mv (v := .int _ _) (q0 rfl)) rfl rfl rfl rfl ?_
                  refine xVF (e_idx _ Try.underlying27 Try.sizeOf37 (q1 rfl) (q1 rfl) (fun _ => ⟨rfl, by omega⟩)) rfl rfl rfl rfl ?_
                  refine xVF (e_lds Try.isAgg37 Try.sizeOf37 (q1 rfl) (by first | exact bxs 0 rfl | exact bxs 1 rfl | exact bxs 2 rfl | exact bxs 3 rfl | exact bxs 4 rfl | exact bxs 5 rfl | exact bxs 6 rfl | exact bxs 7 rfl | exact bxs 8 rfl | exact bxs 9 rfl | exact rcs ‹_› ‹_›) rfl) rfl rfl rfl rfl ?_
                  refine xCF (en Try.call22 (ha2 (q1 (v := .agg _) rfl) (q1 (v := .agg _) rfl))) (fun _ w _ => rbefore_w xl x w) rfl rfl rfl rfl ?_
                  refine xV (e_or (q0 rfl) rfl (fun h => by first | rfl | (rw [h]; rfl))) rfl rfl ?_
                  refine XN ?_
                  refine thenJ_normal ?_
                  refine H_cond rfl (fun hla => ?_) (fun hla => ?_)
                  · have hS2 : gRun days vs v (k + 1) = ⟨k, if x.moment / 86400 < (gRun days vs v k).least then x.moment / 86400 else (gRun days vs v k).least, (gRun days vs v k).all + 1, (gRun days vs v k).inside || inDays days x v⟩ := by rw [hS]; unfold gStep; rw [if_neg (by simp [hsm]), if_neg (by simp [hbx']), hxg, if_pos hla]
                    refine R0 ?_
                    refine xV (e_mv (v := .int _ _) (q0 rfl)) rfl rfl ?_
                    refine xV (e_as (v := .int _ _) (q0 rfl)) rfl rfl ?_
                    refine XN ?_
                    refine blockJ_normal ?_
                    refine thenJ_normal ?_
                    refine R0 ?_
                    refine xV (e_mv (v := .int _ _) (q0 rfl)) rfl rfl ?_
                    refine xV (e_add (q0 rfl) (q0 rfl) (fun _ => ⟨rfl, by omega, by omega⟩)) rfl rfl ?_
                    refine xV (e_as (v := .int _ _) (q0 rfl)) rfl rfl ?_
                    refine XN ?_
                    exact loopJ_normal (k + 1) (by repeat (first | exact agree_self | exact agree_over | refine agree_upd rfl ?_ | refine agree_updL rfl ?_ | refine agree_over2 rfl ?_)) ⟨(congrArg (fun s => Value.int .i64 (G.last s)) hS2.symm : Value.int .i64 _ = _), (congrArg (fun s => Value.int .i64 (G.least s)) hS2.symm : Value.int .i64 _ = _), (congrArg (fun s => Value.int .i64 (G.all s)) hS2.symm : Value.int .i64 _ = _), (congrArg (fun s => Value.bool (G.inside s)) hS2.symm : Value.bool _ = _), rfl, trivial⟩ (fun _ h => h) rfl (by omega) (by show n - (k + 1) < n - k; omega)
                  · have hS2 : gRun days vs v (k + 1) = ⟨(gRun days vs v k).last, if x.moment / 86400 < (gRun days vs v k).least then x.moment / 86400 else (gRun days vs v k).least, (gRun days vs v k).all + 1, (gRun days vs v k).inside || inDays days x v⟩ := by rw [hS]; unfold gStep; rw [if_neg (by simp [hsm]), if_neg (by simp [hbx']), hxg, if_neg (by rw [hla]; decide)]
                    refine H_skip ?_
                    refine blockJ_normal ?_
                    refine thenJ_normal ?_
                    refine R0 ?_
                    refine xV (e_mv (v := .int _ _) (q0 rfl)) rfl rfl ?_
                    refine xV (e_add (q0 rfl) (q0 rfl) (fun _ => ⟨rfl, by omega, by omega⟩)) rfl rfl ?_
                    refine xV (e_as (v := .int _ _) (q0 rfl)) rfl rfl ?_
                    refine XN ?_
                    exact loopJ_normal (k + 1) (by repeat (first | exact agree_self | exact agree_over | refine agree_upd rfl ?_ | refine agree_updL rfl ?_ | refine agree_over2 rfl ?_)) ⟨(congrArg (fun s => Value.int .i64 (G.last s)) hS2.symm : Value.int .i64 _ = _), (congrArg (fun s => Value.int .i64 (G.least s)) hS2.symm : Value.int .i64 _ = _), (congrArg (fun s => Value.int .i64 (G.all s)) hS2.symm : Value.int .i64 _ = _), (congrArg (fun s => Value.bool (G.inside s)) hS2.symm : Value.bool _ = _), rfl, trivial⟩ (fun _ h => h) rfl (by omega) (by show n - (k + 1) < n - k; omega)
            · have hkn' : vs.length ≤ k := by simp at hlt; omega
              have ha := grows_a (List.mem_of_getElem? hv) hk2 hG hkn'
              refine H_exit ?_
              refine thenJ_exit ?_
              refine loopJ_exit ?_
              refine blockJ_hit ?_
              refine thenJ_normal ?_
              refine H_seq ?_
              refine H_seq ?_
              refine R0 ?_
              refine xV (e_mv (v := .int _ _) (q0 rfl)) rfl rfl ?_
              refine xV (e_lt (q0 rfl) (q0 rfl)) rfl rfl ?_
              refine xV (e_mv (v := .bool _) (q0 rfl)) rfl rfl ?_
              refine xVF (e_mv (v := .int _ _) (q0 rfl)) rfl rfl rfl rfl ?_
              refine xVF (e_mv (v := .int _ _) (q0 rfl)) rfl rfl rfl rfl ?_
              refine xVF (e_gt (q1 rfl) (q1 rfl)) rfl rfl rfl rfl ?_
              refine xV (e_or (q0 rfl) rfl (fun h => by first | rfl | (rw [h]; rfl))) rfl rfl ?_
              refine xV (e_mv (v := .bool _) (q0 rfl)) rfl rfl ?_
              refine xVF (e_mv (v := .int _ _) (q0 rfl)) rfl rfl rfl rfl ?_
              refine xVF (e_eq (q1 rfl) (q0 rfl)) rfl rfl rfl rfl ?_
              refine xVF (e_mv (v := .bool _) (q0 rfl)) rfl rfl rfl rfl ?_
              refine xVF (e_eqb Try.underlying4 (q1 rfl) (q1 rfl)) rfl rfl rfl rfl ?_
              refine xV (e_or (q0 rfl) rfl (fun h => by first | rfl | (rw [h]; rfl))) rfl rfl ?_
              refine XN ?_
              refine thenJ_normal ?_
              refine H_cond rfl (fun hq => ?_) (fun hq => ?_)
              · rw [ha] at hq; cases hq
              · refine H_skip ?_
                refine thenJ_normal ?_
                refine H_seq ?_
                refine H_seq ?_
                refine R1 rfl (by decide +kernel) ?_
                refine xV (e_mv (v := .int _ _) (q0 rfl)) rfl rfl ?_
                refine xV (e_lt (q0 rfl) (q0 rfl)) rfl rfl ?_
                refine xV (e_mv (v := .bool _) (q0 rfl)) rfl rfl ?_
                refine xVF (e_mv (v := .slice _ _ _) (q0 rfl)) rfl rfl rfl rfl ?_
                refine xVF (e_mv (v := .int _ _) (q0 rfl)) rfl rfl rfl rfl ?_
                refine xVF (e_idx _ Try.underlying27 Try.sizeOf37 (q1 rfl) (q1 rfl) (fun _ => ⟨rfl, by omega⟩)) rfl rfl rfl rfl ?_
                refine xVF (e_fld Try.underlying37 rfl Try.sizeOf3 rfl (q1 rfl)) rfl rfl rfl rfl ?_
                refine xVF (e_ld Try.isAgg3 (q1 rfl) (by first | exact bx 0 rfl rfl | exact bx 1 rfl rfl | exact bx 2 rfl rfl | exact bx 3 rfl rfl | exact bx 4 rfl rfl | exact bx 5 rfl rfl | exact bx 6 rfl rfl | exact bx 7 rfl rfl | exact bx 8 rfl rfl | exact bx 9 rfl rfl | exact rc ‹_› ‹_› rfl | exact rc0 ‹_› ‹_› rfl | exact xc ‹_› ‹_›)) rfl rfl rfl rfl ?_
                refine xVF (e_quo (q1 rfl) (q0 rfl) (fun _ => by omega)) rfl rfl rfl rfl ?_
                refine xVF (e_mv (v := .int _ _) (q0 rfl)) rfl rfl rfl rfl ?_
                refine xVF (e_sub (q1 rfl) (q1 rfl) (fun _ => ⟨rfl, by omega, by omega⟩)) rfl rfl rfl rfl ?_
                refine xVF (e_fld Try.underlying26 rfl Try.sizeOf3 rfl (q0 rfl)) rfl rfl rfl rfl ?_
                refine xVF (e_ld Try.isAgg3 (q1 rfl) (by first | exact bx 0 rfl rfl | exact bx 1 rfl rfl | exact bx 2 rfl rfl | exact bx 3 rfl rfl | exact bx 4 rfl rfl | exact bx 5 rfl rfl | exact bx 6 rfl rfl | exact bx 7 rfl rfl | exact bx 8 rfl rfl | exact bx 9 rfl rfl | exact rc ‹_› ‹_› rfl | exact rc0 ‹_› ‹_› rfl | exact xc ‹_› ‹_›)) rfl rfl rfl rfl ?_
                refine xVF (e_gt (q1 rfl) (q1 rfl)) rfl rfl rfl rfl ?_
                refine xV (e_or (q0 rfl) rfl (fun h => by first | rfl | (rw [h]; rfl))) rfl rfl ?_
                refine XN ?_
                refine thenJ_normal ?_
                refine H_cond rfl (fun hr => ?_) (fun hr => ?_)
                · refine H_seq ?_
                  refine R0 ?_
                  refine xC (en Try.call11 (ha0)) (fun _ w hm => awake_w w) rfl rfl ?_
                  refine xV (e_as (v := .bool _) (q0 rfl)) rfl rfl ?_
                  refine XN ?_
                  refine thenJ_normal ?_
                  refine H_ret ?_
                  refine thenJ_ret ?_
                  exact ret1 (v := .bool _) rfl rfl rfl fun w' hw => ⟨rfl, hw.1⟩
                · simp only [Bool.or_eq_false_iff, decide_eq_false_iff_not] at hr
                  obtain ⟨j, u, hj, hu, hnu⟩ := grows_b hk2 hG hkn' (uniq_of hcv) hr.1 hr.2
                  have hnl := num_nonneg (days := days) (l := vs) (v := u)
                  rw [hj]
                  refine H_skip ?_
                  refine thenJ_normal ?_
                  refine H_seq ?_
                  refine R0 ?_
                  refine xV (e_lds Try.isAgg26 Try.sizeOf26 (q0 rfl) (by first | exact bxs 0 rfl | exact bxs 1 rfl | exact bxs 2 rfl | exact bxs 3 rfl | exact bxs 4 rfl | exact bxs 5 rfl | exact bxs 6 rfl | exact bxs 7 rfl | exact bxs 8 rfl | exact bxs 9 rfl | exact rcs ‹_› ‹_›) rfl) rfl rfl ?_
                  refine xV (e_mv (v := .slice _ _ _) (q0 rfl)) rfl rfl ?_
                  refine xV (e_mv (v := .int _ _) (q0 rfl)) rfl rfl ?_
                  refine xC (en Try.call16 (ha3 (q0 rfl) (q0 rfl) (q0 rfl))) (fun _ w hm => (by have := Number_w a0 a1 a2 a3 a4 fA fn fc fines days _ n c vs j w (hf.mem hm) (hx.mem hm); rw [numR_ok hc hu] at this; exact this)) rfl rfl ?_
                  refine xV (e_mv (q0 rfl)) rfl rfl ?_
                  refine xV (e_ext (q0 rfl) rfl) rfl rfl ?_
                  refine xV (e_ext (q0 rfl) rfl) rfl rfl ?_
                  refine xV (e_as (v := .int _ _) (q0 rfl)) rfl rfl ?_
                  refine xV (e_as (v := .int _ _) (q0 rfl)) rfl rfl ?_
                  refine XN ?_
                  refine thenJ_normal ?_
                  refine H_seq ?_
                  refine R0 ?_
                  refine xV (e_mv (v := .int _ _) (q0 rfl)) rfl rfl ?_
                  refine xV (e_eq (q0 rfl) (q0 rfl)) rfl rfl ?_
                  refine xV (e_mv (v := .bool _) (q0 rfl)) rfl rfl ?_
                  refine xVT (e_mv (v := .int _ _) (q0 rfl)) rfl rfl rfl rfl ?_
                  refine xVT (e_mv (v := .int _ _) (q0 rfl)) rfl rfl rfl rfl ?_
                  refine xVT (e_add (q1 rfl) (q0 rfl) (fun _ => ⟨rfl, by omega, by omega⟩)) rfl rfl rfl rfl ?_
                  refine xVT (e_eq (q1 rfl) (q1 rfl)) rfl rfl rfl rfl ?_
                  refine xV (e_and (q0 rfl) rfl (fun h => by first | rfl | (rw [h]; rfl))) rfl rfl ?_
                  refine xV (e_mv (v := .bool _) (q0 rfl)) rfl rfl ?_
                  refine xCT (en Try.call11 (ha0)) (fun _ w hm => awake_w w) rfl rfl rfl rfl ?_
                  refine xV (e_and (q0 rfl) rfl (fun h => by first | rfl | (rw [h]; rfl))) rfl rfl ?_
                  refine xV (e_as (v := .bool _) (q0 rfl)) rfl rfl ?_
                  refine XN ?_
                  refine thenJ_normal ?_
                  refine H_ret ?_
                  exact ret1 (v := .bool _) rfl rfl rfl fun w' hw => ⟨ret_bool (by simp [hnu]), hw.1⟩

end Go.Proofs.Pen
