import Derived.Test.YtbocfacfgddbcaaGreatFarEb
import Derived.Test.YtbocfacfgddbcaaGreatFarW
set_option linter.unusedVariables false
set_option linter.unusedSimpArgs false
/-
  The walks: what is paid for time; the law Time.
-/
namespace Go.Proofs.Far
open Go Go.RowKit Go.Proofs.E Go.Proofs.Cus Go.Proofs.Rid

set_option maxHeartbeats 1000000 in
set_option maxRecDepth 20000 in
theorem timed_w (A : Option Addr) (n c : Nat) (xs : List FX) (ride T : Int) (w : World) (hF : FasAt w A n xs) (hu : ∀ x ∈ xs, x.b.ride = ride → tmOf x.b.items = T) (he : ∃ x ∈ xs, x.b.ride = ride) : Calls Tryz.prog 26 #[.slice A n c, .int .i64 ride] w fun e w' => e = .returned (.int .i64 T) ∧ Bel w w' := by
  have hl := hF.1.1
  have hn := hF.1.2.1
  refine H_enter Tryz.func26 rfl Tryz.ntmps26 rfl (H_seq (R0 (xv (asI rfl) (XN (thenJ_normal (H_seq (H_seq (R0 (xv (asI rfl) ?_)))))))))
  refine XN (thenJ_normal (H_block (H_loop [4, 5, 6, 7, 8, 9, 10, 11, 12, 13, 14, 15, 16, 17, 18, 19, 20, 21, 22, 23, 24, 25, 26, 27, 28, 29, 30, 31, 32, 33, 34, 35, 36, 37, 38, 39, 40, 41, 42, 43, 44, 45, 46, 47, 48, 49, 50] (fun k : Nat => [(5, .int .i64 k)]) (fun _ => []) (fun k => k ≤ n ∧ ∀ x ∈ xs.take k, x.b.ride = ride → T = 0) (fun k => n - k) 0 ⟨rfl, trivial⟩ (fun w hw => hw) rfl ⟨Nat.zero_le _, fun x hx => by simp at hx⟩ ?_)))
  rintro k g ⟨hk, hall⟩
  refine H_seq (H_seq (R0 (xv (mvI rfl) (xv (mvS rfl) (xv (e_len Tryz.underlying38 (q0 rfl)) (xv (e_lt (q0 rfl) (q0 rfl)) (XN (thenJ_normal (H_cond rfl (fun hlt => ?_) (fun hlt => ?_))))))))))
  · have hlt' : k < n := by simpa using hlt
    obtain ⟨b, off, y, rfl, hbl, hyk, hry⟩ := hF.1.at_ hlt'
    have hym := List.mem_of_getElem? hyk
    have hyI := hF.2 y hym
    have hyu := hu y hym
    obtain ⟨yb, yA, yc⟩ := y
    simp only at hyI hyu
    have hin := hyI.2.1
    have hil := hyI.1
    refine H_skip (thenJ_normal (H_seq (H_block (H_seq (R0 (xv (asI rfl) (XN (thenJ_normal (H_block ?_)))))))))
    refine H_loop [4, 6, 13, 14, 15, 16, 17, 18, 19, 20, 21, 22, 23, 24, 25, 26, 27, 28, 29, 30, 31, 32, 33, 34, 35, 36, 37, 38, 39, 40, 41, 42, 43, 44, 45, 46, 47, 48, 49, 50] (fun j : Nat => [(6, .int .i64 j)]) (fun _ => []) (fun j => j ≤ yb.items.length ∧ ∀ i ∈ yb.items.take j, i.kind ≠ 2) (fun j => yb.items.length - j) 0 ⟨rfl, trivial⟩ (fun w hw => hw) rfl ⟨Nat.zero_le _, fun x hx => by simp at hx⟩ ?_
    rintro j g2 ⟨hj, hno⟩
    refine H_seq (H_seq (R0 (xv (mvI rfl) (xv (mvS rfl) (xv (mvI rfl) (xv (e_idx _ Tryz.underlying38 Tryz.sizeOf44 (q0 rfl) (q0 rfl) (fun _ => ⟨rfl, by omega⟩)) (xv (e_fld Tryz.underlying44 rfl Tryz.sizeOf42 rfl (q0 rfl)) (xv (e_ld (v := .slice yA yb.items.length yc) Tryz.isAgg42 (q0 rfl) (by exact rc (j := 2) hry hbl rfl)) ?_))))))))
    refine xv (e_len Tryz.underlying42 (q0 rfl)) (xv (e_lt (q0 rfl) (q0 rfl)) (xv (mvB rfl) (xt (mvS rfl) rfl rfl (xt (mvI rfl) rfl rfl (xt (e_idx k Tryz.underlying38 Tryz.sizeOf44 (q1 rfl) (q1 rfl) (fun _ => ⟨rfl, hlt'⟩)) rfl rfl (xt (e_fld Tryz.underlying44 rfl Tryz.sizeOf3 rfl (q1 rfl)) rfl rfl (xt (e_ld (v := .int .i64 yb.ride) Tryz.isAgg3 (q1 rfl) (by exact rc (j := 0) hry hbl rfl)) rfl rfl ?_)))))))
    refine xt (mvI rfl) rfl rfl (xt (e_eq (q1 rfl) (q1 rfl)) rfl rfl (xv (e_and (q0 rfl) rfl (fun h => by first | rfl | (rw [h]; rfl))) ?_))
    refine XN (thenJ_normal (H_cond rfl (fun hlt2 => ?_) (fun hlt2 => ?_)))
    · have hlt2' : j < yb.items.length ∧ yb.ride = ride := by simpa using hlt2
      obtain ⟨bi, oi, u, hA, hbi, huj, hru⟩ := hyI.at_ hlt2'.1
      subst hA
      have hT := hyu hlt2'.2
      refine H_skip (thenJ_normal (H_seq (H_block (H_seq (R0 (xv (mvS rfl) (xv (mvI rfl) (xv (e_idx _ Tryz.underlying38 Tryz.sizeOf44 (q0 rfl) (q0 rfl) (fun _ => ⟨rfl, by omega⟩)) (xv (e_fld Tryz.underlying44 rfl Tryz.sizeOf42 rfl (q0 rfl)) ?_)))))))))
      refine xv (e_ld (v := .slice (some ⟨bi, oi, none⟩) yb.items.length yc) Tryz.isAgg42 (q0 rfl) (by exact rc (j := 2) hry hbl rfl)) ?_
      refine xv (mvI rfl) (xv (e_idx j Tryz.underlying42 Tryz.sizeOf69 (q0 rfl) (q0 rfl) (fun _ => ⟨rfl, hlt2'.1⟩)) (xv (e_fld Tryz.underlying69 rfl Tryz.sizeOf3 rfl (q0 rfl)) (xv (e_ld (v := .int .i64 u.kind) Tryz.isAgg3 (q0 rfl) (by exact rc (j := 0) hru hbi rfl)) ?_)))
      refine xv (e_eq (q0 rfl) (q0 rfl)) (XN (thenJ_normal (H_cond rfl (fun h2 => ?_) (fun h2 => ?_))))
      · have h2' : u.kind = 2 := by simpa using h2
        have hTu : u.amount = T := by
          rw [← hT]
          unfold tmOf
          have hsp : yb.items = yb.items.take j ++ u :: yb.items.drop (j + 1) := by
            obtain ⟨j1, j2⟩ := List.getElem?_eq_some_iff.1 huj
            rw [← j2, List.getElem_cons_drop, List.take_append_drop]
          rw [hsp, List.find?_append, List.find?_eq_none.2 (fun i hi => by simpa using hno i hi), List.find?_cons_of_pos (by simpa using h2')]
          rfl
        refine H_seq (R0 (xv (mvS rfl) (xv (mvI rfl) (xv (e_idx _ Tryz.underlying38 Tryz.sizeOf44 (q0 rfl) (q0 rfl) (fun _ => ⟨rfl, by omega⟩)) (xv (e_fld Tryz.underlying44 rfl Tryz.sizeOf42 rfl (q0 rfl)) (xv (e_ld (v := .slice (some ⟨bi, oi, none⟩) yb.items.length yc) Tryz.isAgg42 (q0 rfl) (by exact rc (j := 2) hry hbl rfl)) ?_))))))
        refine xv (mvI rfl) (xv (e_idx j Tryz.underlying42 Tryz.sizeOf69 (q0 rfl) (q0 rfl) (fun _ => ⟨rfl, hlt2'.1⟩)) (xv (e_fld Tryz.underlying69 rfl Tryz.sizeOf3 rfl (q0 rfl)) (xv (e_ld (v := .int .i64 u.amount) Tryz.isAgg3 (q0 rfl) (by exact rc (j := 2) hru hbi rfl)) ?_)))
        refine xv (asI rfl) (XN (thenJ_normal (H_ret (blockJ_ret (thenJ_ret (loopJ_ret (blockJ_ret (blockJ_ret (thenJ_ret ?_)))))))))
        refine loopJ_ret (blockJ_ret (thenJ_ret ?_))
        exact ret1 (v := .int _ _) rfl rfl rfl fun w' hw => ⟨ret_int hTu, hw.1⟩
      · have h2' : u.kind ≠ 2 := by simpa using h2
        refine H_skip (blockJ_normal (thenJ_normal (R0 (xv (mvI rfl) (xv (e_add (q0 rfl) (q0 rfl) (fun _ => ⟨rfl, by omega, by omega⟩)) (xv (asI rfl) (XN ?_)))))))
        exact loopJ_normal (j + 1) agr ⟨rfl, trivial⟩ (fun w hw => hw) rfl ⟨by omega, fun i hi => by
          rw [snocT _ _ _ huj] at hi
          rcases List.mem_append.1 hi with hi | hi
          · exact hno i hi
          · simp at hi; subst hi; exact h2'⟩ (by show yb.items.length - (j + 1) < yb.items.length - j; omega)
    · have h0 : yb.ride = ride → T = 0 := fun hr => by
        have hjl : j = yb.items.length := by simp at hlt2; omega
        rw [hjl, List.take_length] at hno
        rw [← hyu hr]
        unfold tmOf
        rw [List.find?_eq_none.2 (fun i hi => by simpa using hno i hi)]
      refine H_exit (thenJ_exit (loopJ_exit (blockJ_hit (blockJ_normal (thenJ_normal (R0 (xv (mvI rfl) (xv (e_add (q0 rfl) (q0 rfl) (fun _ => ⟨rfl, by omega, by omega⟩)) (xv (asI rfl) ?_)))))))))
      refine XN ?_
      exact loopJ_normal (k + 1) agr ⟨rfl, trivial⟩ (fun w hw => hw) rfl ⟨by omega, fun x hx hr => by
        rw [snocT _ _ _ hyk] at hx
        rcases List.mem_append.1 hx with hx | hx
        · exact hall x hx hr
        · simp at hx; subst hx; exact h0 hr⟩ (by show n - (k + 1) < n - k; omega)
  · have hend : k = n := by simp at hlt; omega
    rw [hend, List.take_of_length_le (by omega)] at hall
    obtain ⟨x, hx, hr⟩ := he
    have hT := hall x hx hr
    refine H_exit (thenJ_exit (loopJ_exit (blockJ_hit (thenJ_normal (H_seq (R0 (xv (asI rfl) (XN (thenJ_normal ?_)))))))))
    refine H_ret ?_
    exact ret1 (v := .int _ _) rfl rfl rfl fun w' hw => ⟨ret_int hT.symm, hw.1⟩

attribute [local irreducible] allR allErr oneR fewB ridP pauP ridS pauS money atR
set_option maxHeartbeats 2000000 in
set_option maxRecDepth 20000 in
theorem timeLaw_w (f : Fl) (fa : FA) (p : Pr) (a : PrA) (A : Option Addr) (n c : Nat) (rs : List RX) (w : World) (hf : FlAt w f fa) (hp : PrAt w p a) (hr : RdsAt w A n rs) (hpl : ∀ x ∈ rs, x.r.pl ≤ 9223372036854775807) :
    Calls Tryz.prog 8 #[.agg (ctCells f fa p a).toArray, .slice A n c] w fun e w' => e = .returned (.bool true) ∧ Bel w w' := by
  have hl := hr.1.1
  refine H_enter Tryz.func8 rfl Tryz.ntmps8 rfl (H_seq (R0 (X_box (v := .agg _) rfl rfl fun b2 => (xv (asB rfl) (XN (thenJ_normal (H_seq (H_seq (R0 ?_)))))))))
  refine xv (eS Tryz.isAgg30 Tryz.sizeOf30 (q0 rfl)) ?_
  refine xv (mvS rfl) (xC (en Tryz.call11 (ha3 (q0 rfl) (q0 rfl) (q0 rfl))) (fun _ w hw => few_w f fa p a A n c rs none 0 0 w (hr.mem hw)) rfl rfl (xv (e_not (q0 rfl)) (XN (thenJ_normal (H_cond rfl (fun h1 => ?_) (fun h1 => ?_))))))
  · refine H_seq (R0 (xC (en Tryz.call14 (ha0)) (fun _ w _ => awake_w w) rfl rfl (xv (asB rfl) (XN (thenJ_normal (H_ret (thenJ_ret ?_)))))))
    exact ret1 (v := .bool _) rfl rfl rfl fun w' hw => ⟨rfl, hw.1⟩
  · have h1' : fewB n 0 fa a (rs.map (·.r)) = true := by simpa using h1
    obtain ⟨hn40, _, _⟩ := few_parts h1'
    obtain ⟨hs1, hs2⟩ := few_short h1'
    refine H_skip (thenJ_normal (H_seq (R0 (xv (e_fld Tryz.underlying30 rfl Tryz.sizeOf24 rfl (q0 rfl)) (xv (eP (vs := f.cells fa) Tryz.isAgg24 Tryz.sizeOf24 (q0 rfl) (bpv 0 rfl rfl rfl)) ?_)))))
    refine xv (e_fld Tryz.underlying30 rfl Tryz.sizeOf28 rfl (q0 rfl)) (xv (eP (vs := p.cells a) Tryz.isAgg28 Tryz.sizeOf28 (q0 rfl) (bpv 0 rfl rfl rfl)) ?_)
    refine xv (mvS rfl) (xCX (en Tryz.call15 (ha4 (q0 rfl) (q0 rfl) (q0 rfl) (q0 rfl))) (fun w hw => all_w f fa p a A n c rs none 0 0 [] w (hf.mem hw) (hp.mem hw) (hr.mem hw) hs1 (slAt_nil w 4 Pen.V.cells) hpl) rfl (fun _ => rfl) fun z1 => ?_)
    obtain ⟨⟨fs, ⟨A1, c1⟩⟩, hfs⟩ := z1
    dsimp only at hfs ⊢
    have hrl : (rs.map (·.r)).length ≤ 100000 := by rw [List.length_map]; omega
    refine xv (e_mv (q0 rfl)) (xv (e_ext (q0 rfl) rfl) (xv (e_ext (q0 rfl) rfl) (xv (asS rfl) (xv (asI rfl) (XN (thenJ_normal (H_seq (H_seq (R0 ?_)))))))))
    refine xv (mvI rfl) (xv (e_ne (q0 rfl) (q0 rfl)) (XN (thenJ_normal (H_cond rfl (fun h2 => ?_) (fun h2 => ?_)))))
    · refine H_seq (R0 (xC (en Tryz.call14 (ha0)) (fun _ w _ => awake_w w) rfl rfl (xv (asB rfl) (XN (thenJ_normal (H_ret (thenJ_ret ?_)))))))
      exact ret1 (v := .bool _) rfl rfl rfl fun w' hw => ⟨rfl, hw.1⟩
    · have h2' : allErr f p (rs.map (·.r)) [] = 0 := by simpa using h2
      obtain ⟨hpr, hrd, _⟩ := all_ok h2'
      have htf := (prErr_parts hpr).2.1
      refine H_skip (thenJ_normal (H_seq (H_seq (R0 (xv (asI rfl) (XN (thenJ_normal (H_block (H_loop [4, 7, 8, 9, 10, 11, 12, 13, 14, 15, 33, 34, 35, 36, 37, 38, 39, 40, 41, 42, 43, 44, 45, 46, 47, 48, 49, 50, 51, 52, 53, 54, 55, 56, 57, 58, 59, 60, 61, 62, 63, 64, 65, 66, 67, 68, 69, 70, 71, 72, 73, 74, 75, 76, 77, 78, 79, 80, 81, 82, 83, 84, 85, 86, 87, 88, 89, 90, 91, 92, 93, 94, 95, 96, 97, 98, 99, 100, 101, 102, 103, 104, 105, 106, 107, 108, 109] (fun k : Nat => [(7, .int .i64 k)]) (fun _ => [faRow A1 c1 fs, bag (fs.flatMap faParts), box b2 30 (ctCells f fa p a)]) (fun k => k ≤ n) (fun k => n - k) 0 ⟨rfl, trivial⟩ (fun w hw => hw) rfl (Nat.zero_le _) ?_)))))))))
      rintro k g hk
      refine H_seq (H_seq (R0 (xv (mvI rfl) (xv (mvS rfl) (xv (e_len Tryz.underlying36 (q0 rfl)) (xv (e_lt (q0 rfl) (q0 rfl)) (XN (thenJ_normal (H_cond rfl (fun hlt => ?_) (fun hlt => ?_))))))))))
      · have hlt' : k < n := by simpa using hlt
        obtain ⟨b, off, x, rfl, hbl, hxk, hrx⟩ := hr.1.at_ hlt'
        have hxr : (rs.map (·.r))[k]? = some x.r := by simp [hxk]
        have hxm := List.mem_of_getElem? hxr
        refine H_skip (thenJ_normal (H_seq (H_block (H_seq (H_seq (R0 (xv (mvS rfl) (xv (mvI rfl) (xv (e_idx _ Tryz.underlying36 Tryz.sizeOf54 (q0 rfl) (q0 rfl) (fun _ => ⟨rfl, by omega⟩)) ?_)))))))))
        refine xv (e_fld Tryz.underlying54 rfl Tryz.sizeOf4 rfl (q0 rfl)) (xv (eL Tryz.isAgg4 (q0 rfl)) ?_)
        refine XN (thenJ_normal (H_cond rfl (fun ho => ?_) (fun ho => ?_)))
        · refine H_exit (thenJ_exit (blockJ_hit (thenJ_normal (R0 (xv (mvI rfl) (xv (e_add (q0 rfl) (q0 rfl) (fun _ => ⟨rfl, by omega, by omega⟩)) (xv (asI rfl) (XN ?_))))))))
          exact loopJ_normal (k + 1) agr ⟨rfl, trivial⟩ (fun w hw => hw) rfl (by omega) (by show n - (k + 1) < n - k; omega)
        · have ho' : x.r.open_ = false := ho
          have hc : checkR x.r = 0 := (rdsErr_good hrd).ok x.r hxm
          obtain ⟨i, v, B, fc, _, _, _, _, hcm, hcr, _, _, htm, hle, _⟩ := fare_at h2' hxm ho'
          have hu : ∀ y ∈ fs, y.b.ride = x.r.id → tmOf y.b.items = ridP (verT p x.r) (ridS x.r) := fun y hy hyr => by
            have hyb : y.b ∈ allR f p (rs.map (·.r)) [] := by rw [← hfs]; exact List.mem_map.2 ⟨y, hy, rfl⟩
            have hn2 := List.pairwise_map.1 (allR_nodup h2')
            obtain ⟨i1, hi1⟩ := List.getElem?_of_mem hyb
            obtain ⟨i2, hi2⟩ := List.getElem?_of_mem hcm
            obtain ⟨j1, j2⟩ := List.getElem?_eq_some_iff.1 hi1
            obtain ⟨k1, k2⟩ := List.getElem?_eq_some_iff.1 hi2
            have : i1 = i2 := by
              rcases Nat.lt_trichotomy i1 i2 with hlt | heq | hlt
              · exact absurd (by rw [j2, k2]; omega) (List.pairwise_iff_getElem.1 hn2 i1 i2 j1 k1 hlt)
              · exact heq
              · exact absurd (by rw [j2, k2]; omega) (List.pairwise_iff_getElem.1 hn2 i2 i1 k1 j1 hlt)
            subst this
            rw [hi1] at hi2
            cases hi2
            exact htm
          have hex : ∃ y ∈ fs, y.b.ride = x.r.id := by
            rw [← hfs] at hcm
            obtain ⟨y, hy, rfl⟩ := List.mem_map.1 hcm
            exact ⟨y, hy, hcr⟩
          have hs := spOk_iff.1 (checkR_parts hc).1
          have hat : atR p.tariffs x.r.start.lo = (((verO p x.r : Nat) : Int), 0) := by unfold atR; rw [if_neg (by omega), if_neg (by omega)]; rfl
          obtain ⟨hvk, hvt⟩ := ver_ok (r := x.r) htf
          have hrs := ridS_range hc
          have hvn : verO p x.r < a.t.n := by
            have := (List.getElem?_eq_some_iff.1 hvk).1
            have := hp.tf.1
            omega
          obtain ⟨tb, toff, t0, htA, htbl, ht0, hrt⟩ := hp.tf.at_ hvn
          rw [hvk] at ht0
          cases ht0
          have hzr : ridP (verT p x.r).zero (ridS x.r) = ridP (verT p x.r) (ridS x.r) := by unfold ridP stepsP Tf.zero; rfl
          refine H_skip (thenJ_normal (H_seq (R1 rfl (by decide +kernel) (xv (e_fld Tryz.underlying30 rfl Tryz.sizeOf28 rfl (q0 rfl)) (xv (e_fld Tryz.underlying28 rfl Tryz.sizeOf25 rfl (q0 rfl)) (xv (e_ld (v := .slice a.t.A a.t.n a.t.c) Tryz.isAgg25 (q0 rfl) (bx 2 rfl rfl)) (xv (mvS rfl) (xv (mvI rfl) (xv (e_idx k Tryz.underlying36 Tryz.sizeOf54 (q0 rfl) (q0 rfl) (fun _ => ⟨rfl, hlt'⟩)) ?_)))))))))
          refine xv (e_fld Tryz.underlying54 rfl Tryz.sizeOf50 rfl (q0 rfl)) (xv (e_fld Tryz.underlying50 rfl Tryz.sizeOf3 rfl (q0 rfl)) (xv (e_ld (v := .int .i64 x.r.start.lo) Tryz.isAgg3 (q0 rfl) (by exact rc (j := 2) hrx hbl rfl)) ?_))
          refine xC (en Tryz.call23 (ha2 (q0 rfl) (q0 rfl))) (fun _ w hw => tat_w a.t.A a.t.n a.t.c p.tariffs x.r.start.lo w (hp.tf.mem hw)) rfl rfl ?_
          rw [hat]
          refine xv (e_mv (q0 rfl)) (xv (e_ext (q0 rfl) rfl) (xv (e_ext (q0 rfl) rfl) (xv (asI rfl) (xv (asI rfl) (XN (thenJ_normal (H_seq (R0 (xv (mvS rfl) ?_)))))))))
          refine xv (mvI rfl) (xv (e_idx _ Tryz.underlying36 Tryz.sizeOf54 (q0 rfl) (q0 rfl) (fun _ => ⟨rfl, by omega⟩)) (xv (e_lds (vs := x.cells) Tryz.isAgg54 Tryz.sizeOf54 (q0 rfl) (rcs hrx hbl) rfl) (xC (en Tryz.call24 (ha1 (q0 rfl))) (fun _ w hw => seconds_w x w ((hr.2 x (List.mem_of_getElem? hxk)).mem hw) hc ho') rfl rfl (xv (e_mv (q0 rfl)) (xv (e_ext (q0 rfl) rfl) (xv (e_ext (q0 rfl) rfl) (xv (e_ext (q0 rfl) rfl) (xv (asI rfl) (xv (asI rfl) ?_)))))))))
          refine xv (asI rfl) (XN (thenJ_normal (H_seq (H_seq (R0 (xv (mvI rfl) (xv (e_ne (q0 rfl) (q0 rfl)) (xv (mvB rfl) (xf (mvI rfl) rfl rfl ?_)))))))))
          refine xf (e_ne (q1 rfl) (q0 rfl)) rfl rfl (xv (e_or (q0 rfl) rfl (fun h => by first | rfl | (rw [h]; rfl))) ?_)
          refine xv (mvB rfl) (xf (mvI rfl) rfl rfl (xf (e_lt (q1 rfl) (q0 rfl)) rfl rfl (xv (e_or (q0 rfl) rfl (fun h => by first | rfl | (rw [h]; rfl))) ?_)))
          refine xv (mvB rfl) (xf (mvI rfl) rfl rfl (xf (e_fld Tryz.underlying30 rfl Tryz.sizeOf28 rfl (q0 rfl)) rfl rfl (xf (e_fld Tryz.underlying28 rfl Tryz.sizeOf25 rfl (q1 rfl)) rfl rfl (xf (e_ld (v := .slice a.t.A a.t.n a.t.c) Tryz.isAgg25 (q1 rfl) (bx 2 rfl rfl)) rfl rfl (xf (e_len Tryz.underlying25 (q1 rfl)) rfl rfl (xf (e_ge (q1 rfl) (q1 rfl)) rfl rfl (xv (e_or (q0 rfl) rfl (fun h => by first | rfl | (rw [h]; rfl))) ?_)))))))
          refine XN (thenJ_normal (H_cond rfl (fun h3 => ?_) (fun h3 => ?_)))
          · exfalso; simp at h3; omega
          · have _ht : True := trivial
            refine H_skip (thenJ_normal (H_seq (R0 (xv (e_fld Tryz.underlying30 rfl Tryz.sizeOf28 rfl (q0 rfl)) (xv (e_fld Tryz.underlying28 rfl Tryz.sizeOf25 rfl (q0 rfl)) (xv (e_ld (v := .slice (some ⟨tb, toff, none⟩) a.t.n a.t.c) Tryz.isAgg25 (q0 rfl) (by rw [← htA]; exact bx 2 rfl rfl)) (xv (mvI rfl) (xv (e_idx (verO p x.r) Tryz.underlying25 Tryz.sizeOf63 (q0 rfl) (q0 rfl) (fun _ => ⟨rfl, hvn⟩)) (xv (e_lds (vs := (verT p x.r).cells) Tryz.isAgg63 Tryz.sizeOf63 (q0 rfl) (rcs hrt htbl) rfl) ?_)))))))))
            refine X_alloc Tryz.zeroValue63 rfl fun b13 => (X_st (v := .agg _) rfl rfl Tryz.sizeOf63 ?_)
            refine XN (thenJ_normal (H_seq (R0 (xv (e_fld Tryz.underlying63 rfl Tryz.sizeOf3 rfl (q0 rfl)) (X_st (v := .int _ _) rfl rfl Tryz.sizeOf3 ?_)))))
            refine XN (thenJ_normal (H_seq (R0 (xv (eS Tryz.isAgg63 Tryz.sizeOf63 (q0 rfl)) ?_))))
            refine xv (mvI rfl) (xC (en Tryz.call25 (ha2 (q0 rfl) (q0 rfl))) (fun _ w _ => time_w (verT p x.r).zero (zero_ok hvt) (ridS x.r) hrs w) rfl rfl ?_)
            rw [hzr, money_ok (show ¬ 1000000000000 < ridP (verT p x.r) (ridS x.r) by omega)]
            refine xv (e_mv (q0 rfl)) (xv (e_ext (q0 rfl) rfl) (xv (e_ext (q0 rfl) rfl) (xv (asI rfl) (xv (asI rfl) (XN (thenJ_normal (H_seq (R0 (xv (mvI rfl) ?_)))))))))
            refine xv (e_ne (q0 rfl) (q0 rfl)) (xv (mvB rfl) (xf (mvS rfl) rfl rfl (xf (mvS rfl) rfl rfl (xf (mvI rfl) rfl rfl (xf (e_idx _ Tryz.underlying36 Tryz.sizeOf54 (q1 rfl) (q1 rfl) (fun _ => ⟨rfl, by omega⟩)) rfl rfl (xf (e_fld Tryz.underlying54 rfl Tryz.sizeOf3 rfl (q1 rfl)) rfl rfl (xf (eL Tryz.isAgg3 (q1 rfl)) rfl rfl ?_)))))))
            refine xCF (en Tryz.call26 (ha2 (q1 (v := .slice _ _ _) rfl) (q1 (v := .int _ _) rfl))) (fun _ w hw => timed_w A1 fs.length c1 fs x.r.id (ridP (verT p x.r) (ridS x.r)) w (fas_at hfs hrl hw (j := 1) (k := 2) rfl rfl) hu hex) rfl rfl rfl rfl (xf (mvI rfl) rfl rfl (xf (e_ne (q1 rfl) (q1 rfl)) rfl rfl (xv (e_or (q0 rfl) rfl (fun h => by first | rfl | (rw [h]; rfl))) ?_)))
            refine XN (thenJ_normal (H_cond rfl (fun h4 => ?_) (fun h4 => ?_)))
            · exfalso; simp at h4
            · refine H_skip (blockJ_normal (thenJ_normal (R0 (xv (mvI rfl) (xv (e_add (q0 rfl) (q0 rfl) (fun _ => ⟨rfl, by omega, by omega⟩)) (xv (asI rfl) (XN ?_)))))))
              exact loopJ_normal (k + 1) agr ⟨rfl, trivial⟩ (fun w hw => hw.tail) rfl (by omega) (by show n - (k + 1) < n - k; omega)
      · refine H_exit (thenJ_exit (loopJ_exit (blockJ_hit (thenJ_normal (H_seq (R0 (xC (en Tryz.call14 (ha0)) (fun _ w _ => awake_w w) rfl rfl (xv (asB rfl) (XN ?_)))))))))
        refine thenJ_normal (H_ret ?_)
        exact ret1 (v := .bool _) rfl rfl rfl fun w' hw => ⟨rfl, hw.1⟩

end Go.Proofs.Far
