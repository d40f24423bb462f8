import Derived.Test.YtbocfacfgddbcaaGreatFarEb
import Derived.Test.YtbocfacfgddbcaaGreatFarW
set_option linter.unusedVariables false
set_option linter.unusedSimpArgs false
/-
  The walks: the law Sums.
-/
namespace Go.Proofs.Far
open Go Go.RowKit Go.Proofs.E Go.Proofs.Cus Go.Proofs.Rid

attribute [local irreducible] allR allErr oneR fewB fitN cloN
set_option maxHeartbeats 2000000 in
set_option maxRecDepth 20000 in
theorem sumsLaw_w (f : Fl) (fa : FA) (p : Pr) (a : PrA) (A : Option Addr) (n c : Nat) (rs : List RX) (V : Option Addr) (m d : Nat) (vs : List Pen.V) (w : World) (hf : FlAt w f fa) (hp : PrAt w p a) (hr : RdsAt w A n rs) (hpl : ∀ x ∈ rs, x.r.pl ≤ 9223372036854775807) (hv : Pen.VsAt w V m vs) :
    Calls Tryz.prog 10 #[.agg (ctCells f fa p a).toArray, .slice A n c, .slice V m d] w fun e w' => e = .returned (.bool true) ∧ Bel w w' := by
  have hl := hr.1.1
  refine H_enter Tryz.func10 rfl Tryz.ntmps10 rfl (H_seq (R0 (X_box (v := .agg _) rfl rfl fun b3 => (xv (asB rfl) (XN (thenJ_normal (H_seq (H_seq (R0 ?_)))))))))
  refine xv (eS Tryz.isAgg30 Tryz.sizeOf30 (q0 rfl)) ?_
  refine xv (mvS rfl) (xv (mvS rfl) (xC (en Tryz.call11 (ha3 (q0 rfl) (q0 rfl) (q0 rfl))) (fun _ w hw => few_w f fa p a A n c rs V m d w (hr.mem hw)) rfl rfl (xv (e_not (q0 rfl)) (XN (thenJ_normal (H_cond rfl (fun h1 => ?_) (fun h1 => ?_)))))))
  · refine H_seq (R0 (xC (en Tryz.call14 (ha0)) (fun _ w _ => awake_w w) rfl rfl (xv (asB rfl) (XN (thenJ_normal (H_ret (thenJ_ret ?_)))))))
    exact ret1 (v := .bool _) rfl rfl rfl fun w' hw => ⟨rfl, hw.1⟩
  · have h1' : fewB n m fa a (rs.map (·.r)) = true := by simpa using h1
    obtain ⟨hn40, _, _⟩ := few_parts h1'
    obtain ⟨hs1, hs2⟩ := few_short h1'
    refine H_skip (thenJ_normal (H_seq (R0 (xv (e_fld Tryz.underlying30 rfl Tryz.sizeOf24 rfl (q0 rfl)) (xv (eP (vs := f.cells fa) Tryz.isAgg24 Tryz.sizeOf24 (q0 rfl) (bpv 0 rfl rfl rfl)) ?_)))))
    refine xv (e_fld Tryz.underlying30 rfl Tryz.sizeOf28 rfl (q0 rfl)) (xv (eP (vs := p.cells a) Tryz.isAgg28 Tryz.sizeOf28 (q0 rfl) (bpv 0 rfl rfl rfl)) ?_)
    refine xv (mvS rfl) (xv (mvS rfl) (xCX (en Tryz.call15 (ha4 (q0 rfl) (q0 rfl) (q0 rfl) (q0 rfl))) (fun w hw => all_w f fa p a A n c rs V m d vs w (hf.mem hw) (hp.mem hw) (hr.mem hw) hs1 (hv.mem hw) hpl) rfl (fun _ => rfl) fun z1 => ?_))
    obtain ⟨⟨fs, ⟨A1, c1⟩⟩, hfs⟩ := z1
    dsimp only at hfs ⊢
    have hrl : (rs.map (·.r)).length ≤ 100000 := by rw [List.length_map]; omega
    have hlen : fs.length = (allR f p (rs.map (·.r)) vs).length := by rw [← hfs, List.length_map]
    have hfl : fs.length ≤ 40 := by
      have := allR_count (f := f) (p := p) (rs := rs.map (·.r)) (vs := vs)
      rw [List.length_map] at this
      omega
    refine xv (e_mv (q0 rfl)) (xv (e_ext (q0 rfl) rfl) (xv (e_ext (q0 rfl) rfl) (xv (asS rfl) (xv (asI rfl) (XN (thenJ_normal (H_seq (H_seq (R0 ?_)))))))))
    refine xv (mvI rfl) (xv (e_ne (q0 rfl) (q0 rfl)) (XN (thenJ_normal (H_cond rfl (fun h2 => ?_) (fun h2 => ?_)))))
    · have h2' : allErr f p (rs.map (·.r)) vs ≠ 0 := by simpa using h2
      have hz : fs.length = 0 := by rw [hlen, allR_nil h2']; rfl
      refine H_seq (R0 (xv (mvS rfl) (xv (e_len Tryz.underlying38 (q0 rfl)) (xv (e_eq (q0 rfl) (q0 rfl)) (xv (mvB rfl) (xCT (en Tryz.call14 (ha0)) (fun _ w _ => awake_w w) rfl rfl rfl rfl (xv (e_and (q0 rfl) rfl (fun h => by first | rfl | (rw [h]; rfl))) ?_)))))))
      refine xv (asB rfl) (XN (thenJ_normal (H_ret (thenJ_ret ?_))))
      exact ret1 (v := .bool _) rfl rfl rfl fun w' hw => ⟨ret_bool (by simp [hz]), hw.1⟩
    · have h2' : allErr f p (rs.map (·.r)) vs = 0 := by simpa using h2
      refine H_rebase rfl fun w1 hw1 => ?_
      have hF : FasAt w1 A1 fs.length fs := fas_at hfs hrl hw1 (j := 0) (k := 1) rfl rfl
      have hr1 := hr.mem hw1
      refine H_skip (thenJ_normal (H_seq (R0 (xv (asI rfl) (XN (thenJ_normal (H_seq (H_seq (R0 ?_)))))))))
      refine xv (asI rfl) (XN (thenJ_normal (H_block (H_loop [6, 9, 10, 11, 12, 41, 42, 43, 44, 45, 46, 47, 48, 49, 50, 51, 52, 53, 54, 55, 56, 57, 58, 59, 60, 61, 62, 63, 64, 65, 66, 67, 68, 69, 70, 71, 72, 73, 74, 75, 76, 77, 78, 79, 80, 81, 82, 83, 84, 85, 86, 87] (fun k : Nat => [(10, .int .i64 k), (9, .int .i64 (cloN (rs.map (·.r)) k : Nat))]) (fun _ => []) (fun k => k ≤ n) (fun k => n - k) 0 ⟨rfl, by rw [cloN_zero]; rfl, trivial⟩ (fun w hw => hw) rfl (Nat.zero_le _) ?_))))
      rintro k g hk
      refine H_seq (H_seq (R0 (xv (mvI rfl) (xv (mvS rfl) (xv (e_len Tryz.underlying36 (q0 rfl)) (xv (e_lt (q0 rfl) (q0 rfl)) (XN (thenJ_normal (H_cond rfl (fun hlt => ?_) (fun hlt => ?_))))))))))
      · have hlt' : k < n := by simpa using hlt
        obtain ⟨b, off, x, rfl, hbl, hxk, hrx⟩ := hr1.1.at_ hlt'
        have hxr : (rs.map (·.r))[k]? = some x.r := by simp [hxk]
        have hst := cloN_succ hxr
        have hcl := cloN_le (rs.map (·.r)) k
        refine H_skip (thenJ_normal (H_seq (H_block (H_seq (H_seq (R0 (xv (mvS rfl) (xv (mvI rfl) (xv (e_idx _ Tryz.underlying36 Tryz.sizeOf54 (q0 rfl) (q0 rfl) (fun _ => ⟨rfl, by omega⟩)) ?_)))))))))
        refine xv (e_fld Tryz.underlying54 rfl Tryz.sizeOf4 rfl (q0 rfl)) (xv (eL Tryz.isAgg4 (q0 rfl)) ?_)
        refine XN (thenJ_normal (H_cond rfl (fun ho => ?_) (fun ho => ?_)))
        · have ho' : x.r.open_ = true := ho
          rw [if_pos ho'] at hst
          refine H_exit (thenJ_exit (blockJ_hit (thenJ_normal (R0 (xv (mvI rfl) (xv (e_add (q0 rfl) (q0 rfl) (fun _ => ⟨rfl, by omega, by omega⟩)) (xv (asI rfl) (XN ?_))))))))
          exact loopJ_normal (k + 1) agr ⟨rfl, by rw [hst]; rfl, trivial⟩ (fun w hw => hw) rfl (by omega) (by show n - (k + 1) < n - k; omega)
        · have ho' : x.r.open_ = false := ho
          rw [if_neg (by rw [ho']; decide)] at hst
          have hone := fit_one h2' (List.mem_of_getElem? hxr) ho'
          rw [← fitN_all (j := fs.length) (by rw [hlen])] at hone
          refine H_skip (thenJ_normal (H_seq (R0 (xv (mvI rfl) (xv (e_add (q0 rfl) (q0 rfl) (fun _ => ⟨rfl, by omega, by omega⟩)) (xv (asI rfl) (XN (thenJ_normal (H_seq ?_)))))))))
          refine R0 (xv (asI rfl) (XN (thenJ_normal (H_seq (H_seq (R0 (xv (asI rfl) (XN (thenJ_normal ?_)))))))))
          refine H_block (H_loop [11, 12, 54, 55, 56, 57, 58, 59, 60, 61, 62, 63, 64, 65, 66, 67, 68, 69, 70, 71, 72, 73, 74, 75, 76, 77, 78, 79, 80, 81, 82, 83, 84, 85] (fun j : Nat => [(12, .int .i64 j), (11, .int .i64 (fitN (allR f p (rs.map (·.r)) vs) x.r j : Nat))]) (fun _ => []) (fun j => j ≤ fs.length) (fun j => fs.length - j) 0 ⟨rfl, by rw [fitN_zero]; rfl, trivial⟩ (fun w hw => hw) rfl (Nat.zero_le _) ?_)
          rintro j g2 hj
          have hfn := fitN_le (allR f p (rs.map (·.r)) vs) x.r j
          refine H_seq (H_seq (R0 (xv (mvI rfl) (xv (mvS rfl) (xv (e_len Tryz.underlying38 (q0 rfl)) (xv (e_lt (q0 rfl) (q0 rfl)) (XN (thenJ_normal (H_cond rfl (fun hlt2 => ?_) (fun hlt2 => ?_))))))))))
          · have hlt2' : j < fs.length := by simpa using hlt2
            obtain ⟨b', off', y, rfl, hbl', hyj, hry⟩ := hF.1.at_ hlt2'
            have hyr : (allR f p (rs.map (·.r)) vs)[j]? = some y.b := by rw [← hfs]; simp [hyj]
            have hst2 := fitN_succ (r := x.r) hyr
            refine H_skip (thenJ_normal (H_seq (H_block (H_seq (R1 rfl (by decide +kernel) (xv (mvS rfl) (xv (mvI rfl) (xv (e_idx j Tryz.underlying38 Tryz.sizeOf44 (q0 rfl) (q0 rfl) (fun _ => ⟨rfl, hlt2'⟩)) (xv (e_fld Tryz.underlying44 rfl Tryz.sizeOf3 rfl (q0 rfl)) ?_)))))))))
            refine xv (e_ld (v := .int .i64 y.b.ride) Tryz.isAgg3 (q0 rfl) (by exact rc (j := 0) hry hbl' rfl)) ?_
            refine xv (mvS rfl) (xv (mvI rfl) (xv (e_idx k Tryz.underlying36 Tryz.sizeOf54 (q0 rfl) (q0 rfl) (fun _ => ⟨rfl, hlt'⟩)) (xv (e_fld Tryz.underlying54 rfl Tryz.sizeOf3 rfl (q0 rfl)) (xv (e_ld (v := .int .i64 x.r.id) Tryz.isAgg3 (q0 rfl) (by exact rc (j := 0) hrx hbl rfl)) ?_))))
            refine xv (e_eq (q0 rfl) (q0 rfl)) (xv (mvB rfl) (xt (mvS rfl) rfl rfl (xt (mvI rfl) rfl rfl (xt (e_idx j Tryz.underlying38 Tryz.sizeOf44 (q1 rfl) (q1 rfl) (fun _ => ⟨rfl, hlt2'⟩)) rfl rfl (xt (e_fld Tryz.underlying44 rfl Tryz.sizeOf3 rfl (q1 rfl)) rfl rfl (xt (e_ld (v := .int .i64 y.b.rider) Tryz.isAgg3 (q1 rfl) (by exact rc (j := 1) hry hbl' rfl)) rfl rfl ?_))))))
            refine xt (mvS rfl) rfl rfl (xt (mvI rfl) rfl rfl (xt (e_idx k Tryz.underlying36 Tryz.sizeOf54 (q1 rfl) (q1 rfl) (fun _ => ⟨rfl, hlt'⟩)) rfl rfl (xt (e_fld Tryz.underlying54 rfl Tryz.sizeOf3 rfl (q1 rfl)) rfl rfl (xt (e_ld (v := .int .i64 x.r.rider) Tryz.isAgg3 (q1 rfl) (by exact rc (j := 1) hrx hbl rfl)) rfl rfl ?_))))
            refine xt (e_eq (q1 rfl) (q1 rfl)) rfl rfl (xv (e_and (q0 rfl) rfl (fun h => by first | rfl | (rw [h]; rfl))) ?_)
            refine XN (thenJ_normal (H_cond rfl (fun h3 => ?_) (fun h3 => ?_)))
            · have h3' : fitsB x.r y.b = true := h3
              rw [if_pos h3'] at hst2
              refine R0 (xv (mvI rfl) (xv (e_add (q0 rfl) (q0 rfl) (fun _ => ⟨rfl, by omega, by omega⟩)) (xv (asI rfl) (XN (blockJ_normal (thenJ_normal (R0 (xv (mvI rfl) (xv (e_add (q0 rfl) (q0 rfl) (fun _ => ⟨rfl, by omega, by omega⟩)) ?_)))))))))
              refine xv (asI rfl) (XN ?_)
              exact loopJ_normal (j + 1) agr ⟨rfl, by rw [hst2]; rfl, trivial⟩ (fun w hw => hw) rfl (by omega) (by show fs.length - (j + 1) < fs.length - j; omega)
            · have h3' : fitsB x.r y.b = false := h3
              rw [if_neg (by rw [h3']; decide)] at hst2
              refine H_skip (blockJ_normal (thenJ_normal (R0 (xv (mvI rfl) (xv (e_add (q0 rfl) (q0 rfl) (fun _ => ⟨rfl, by omega, by omega⟩)) (xv (asI rfl) (XN ?_)))))))
              exact loopJ_normal (j + 1) agr ⟨rfl, by rw [hst2]; rfl, trivial⟩ (fun w hw => hw) rfl (by omega) (by show fs.length - (j + 1) < fs.length - j; omega)
          · have hend2 : j = fs.length := by simp at hlt2; omega
            rw [hend2, hone]
            refine H_exit (thenJ_exit (loopJ_exit (blockJ_hit (thenJ_normal (H_seq (R0 (xv (mvI rfl) (xv (e_ne (q0 rfl) (q0 rfl)) (XN ?_)))))))))
            refine thenJ_normal (H_cond rfl (fun h4 => ?_) (fun h4 => ?_))
            · exfalso; simp at h4
            · refine H_skip (blockJ_normal (thenJ_normal (R0 (xv (mvI rfl) (xv (e_add (q0 rfl) (q0 rfl) (fun _ => ⟨rfl, by omega, by omega⟩)) (xv (asI rfl) (XN ?_)))))))
              exact loopJ_normal (k + 1) agr ⟨rfl, by rw [hst]; rfl, trivial⟩ (fun w hw => hw) rfl (by omega) (by show n - (k + 1) < n - k; omega)
      · have hend : k = n := by simp at hlt; omega
        have hcn := cloN_all h2' (k := n) (by rw [List.length_map]; exact hl)
        rw [← hlen] at hcn
        rw [hend, hcn]
        refine H_exit (thenJ_exit (loopJ_exit (blockJ_hit (thenJ_normal (H_seq (H_seq (R0 (xv (asI rfl) (XN ?_)))))))))
        refine thenJ_normal (H_block (H_loop [6, 13, 14, 15, 16, 88, 89, 90, 91, 92, 93, 94, 95, 96, 97, 98, 99, 100, 101, 102, 103, 104, 105, 106, 107, 108, 109, 110, 111, 112, 113, 114, 115, 116, 117, 118, 119, 120, 121, 122, 123, 124, 125, 126, 127, 128, 129, 130, 131, 132, 133, 134, 135, 136, 137, 138, 139, 140, 141, 142, 143, 144, 145, 146, 147, 148, 149, 150, 151, 152, 153, 154, 155, 156, 157, 158, 159, 160, 161, 162, 163, 164, 165, 166, 167, 168, 169, 170, 171, 172, 173, 174, 175, 176, 177, 178, 179, 180, 181] (fun k : Nat => [(13, .int .i64 k)]) (fun _ => []) (fun k => k ≤ fs.length) (fun k => fs.length - k) 0 ⟨rfl, trivial⟩ (fun w hw => hw) rfl (Nat.zero_le _) ?_))
        rintro k g hk
        refine H_seq (H_seq (R0 (xv (mvI rfl) (xv (mvS rfl) (xv (e_len Tryz.underlying38 (q0 rfl)) (xv (e_lt (q0 rfl) (q0 rfl)) (XN (thenJ_normal (H_cond rfl (fun hlt3 => ?_) (fun hlt3 => ?_))))))))))
        · have hlt3' : k < fs.length := by simpa using hlt3
          obtain ⟨b, off, y, rfl, hbl, hyk, hry⟩ := hF.1.at_ hlt3'
          have hyr : (allR f p (rs.map (·.r)) vs)[k]? = some y.b := by rw [← hfs]; simp [hyk]
          have hok := fare_all (List.mem_of_getElem? hyr)
          have hyI := hF.2 y (List.mem_of_getElem? hyk)
          have hsum := sum_fare hok
          have hnn := hok.nn
          have h7l := hok.len
          obtain ⟨yb, yA, yc⟩ := y
          simp only at hyI hsum hnn h7l hok hyr
          have hS : ∀ {L : List E.Item} (w' : World), Mem w1 L w' → Calls Tryz.prog 27 #[.slice yA yb.items.length yc] w' fun e w'' => e = .returned (.tuple #[.int .i64 yb.total, .int .i64 0]) ∧ Bel w' w'' := fun w' hw => by
            have := sum_w yA yb.items.length yc yb.items w' (hyI.mem hw)
            rw [hsum] at this
            exact this
          refine H_skip (thenJ_normal (H_seq (H_block (H_seq (R0 (xv (mvS rfl) (xv (mvI rfl) (xv (e_idx _ Tryz.underlying38 Tryz.sizeOf44 (q0 rfl) (q0 rfl) (fun _ => ⟨rfl, by omega⟩)) (xv (e_fld Tryz.underlying44 rfl Tryz.sizeOf42 rfl (q0 rfl)) ?_)))))))))
          refine xv (e_ld (v := .slice yA yb.items.length yc) Tryz.isAgg42 (q0 rfl) (by exact rc (j := 2) hry hbl rfl)) ?_
          refine xC (en Tryz.call27 (ha1 (q0 rfl))) (fun _ w hw => hS w hw) rfl rfl (xv (e_mv (q0 rfl)) (xv (e_ext (q0 rfl) rfl) (xv (e_ext (q0 rfl) rfl) (xv (asI rfl) (xv (asI rfl) (XN (thenJ_normal (H_seq (H_seq ?_)))))))))
          refine H_cut [103, 104, 105, 106, 107, 108, 109, 110, 111, 112, 113, 114, 115, 116, 117, 118, 119, 120, 121, 122, 123, 124, 125, 126, 127, 128, 129, 130, 131, 132, 133, 134, 135] (fun o : Bool => [(135, .bool o)]) (fun _ => []) (fun o => o = false) ?_ ?_
          · rcases Nat.eq_zero_or_pos k with h00 | h00
            · subst h00
              refine R1 rfl (by decide +kernel) (xv (mvI rfl) (xv (e_ne (q0 rfl) (q0 rfl)) (xv (mvB rfl) (xf (mvI rfl) rfl rfl (xf (mvS rfl) rfl rfl (xf (mvI rfl) rfl rfl (xf (e_idx 0 Tryz.underlying38 Tryz.sizeOf44 (q1 rfl) (q1 rfl) (fun _ => ⟨rfl, hlt3'⟩)) rfl rfl (xf (e_fld Tryz.underlying44 rfl Tryz.sizeOf3 rfl (q1 rfl)) rfl rfl (xf (e_ld (v := .int .i64 yb.total) Tryz.isAgg3 (q1 rfl) (by exact rc (j := 3) hry hbl rfl)) rfl rfl ?_)))))))))
              refine xf (e_ne (q1 rfl) (q1 rfl)) rfl rfl (xv (e_or (q0 rfl) rfl (fun h => by first | rfl | (rw [h]; rfl))) ?_)
              refine xv (mvB rfl) (xf (mvI rfl) rfl rfl (xf (e_lt (q1 rfl) (q0 rfl)) rfl rfl (xv (e_or (q0 rfl) rfl (fun h => by first | rfl | (rw [h]; rfl))) ?_)))
              refine xv (mvB rfl) (xf (mvI rfl) rfl rfl (xf (e_gt (q1 rfl) (q0 rfl)) rfl rfl (xf (e_mv (v := .bool _) (q1 rfl)) rfl rfl (xVT2 (e_dead (v := .slice none 0 0) (by simp)) rfl rfl rfl rfl (xVT2 (e_dead (v := .int .i64 0) (by simp)) rfl rfl rfl rfl (xVT2 (e_dead (v := .int .i64 0) (by simp)) rfl rfl rfl rfl (xVT2 (e_dead (v := .pointer none) (by simp)) rfl rfl rfl rfl (xVT2 (e_dead (v := .pointer none) (by simp)) rfl rfl rfl rfl (xVT2 (e_dead (v := .int .i64 0) (by simp)) rfl rfl rfl rfl ?_)))))))))
              refine xVT2 (e_dead (v := .slice none 0 0) (by simp)) rfl rfl rfl rfl (xVT2 (e_dead (v := .int .i64 0) (by simp)) rfl rfl rfl rfl (xVT2 (e_dead (v := .pointer none) (by simp)) rfl rfl rfl rfl (xVT2 (e_dead (v := .pointer none) (by simp)) rfl rfl rfl rfl (xVT2 (e_dead (v := .int .i64 0) (by simp)) rfl rfl rfl rfl (xVT2 (e_dead (v := .bool false) (by simp)) rfl rfl rfl rfl (xf (e_and (q1 rfl) rfl (fun h => by first | rfl | (rw [h]; rfl))) rfl rfl ?_))))))
              refine xv (e_or (q0 rfl) rfl (fun h => by first | rfl | (rw [h]; rfl))) ?_
              refine XN ?_
              exact cutJ_normal _ agr ⟨rfl, trivial⟩ (fun w hw => hw) rfl (by simp; omega)
            · obtain ⟨j, rfl⟩ : ∃ j, k = j + 1 := ⟨k - 1, by omega⟩
              have hjn : j < fs.length := by omega
              obtain ⟨q, hq, hrq⟩ := hF.1.row hjn
              have hqr : (allR f p (rs.map (·.r)) vs)[j]? = some q.b := by rw [← hfs]; simp [hq]
              have hlt5 : q.b.ride < yb.ride := by
                obtain ⟨i1, i2⟩ := List.getElem?_eq_some_iff.1 hqr
                obtain ⟨i3, i4⟩ := List.getElem?_eq_some_iff.1 hyr
                have := List.pairwise_iff_getElem.1 (allR_asc (f := f) (p := p) (rs := rs.map (·.r)) (vs := vs)) j (j + 1) i1 i3 (by omega)
                rw [i2, i4] at this
                exact this
              refine R1 rfl (by decide +kernel) (xv (mvI rfl) (xv (e_ne (q0 rfl) (q0 rfl)) (xv (mvB rfl) (xf (mvI rfl) rfl rfl (xf (mvS rfl) rfl rfl (xf (mvI rfl) rfl rfl (xf (e_idx (j + 1) Tryz.underlying38 Tryz.sizeOf44 (q1 rfl) (q1 rfl) (fun _ => ⟨rfl, hlt3'⟩)) rfl rfl (xf (e_fld Tryz.underlying44 rfl Tryz.sizeOf3 rfl (q1 rfl)) rfl rfl (xf (e_ld (v := .int .i64 yb.total) Tryz.isAgg3 (q1 rfl) (by exact rc (j := 3) hry hbl rfl)) rfl rfl ?_)))))))))
              refine xf (e_ne (q1 rfl) (q1 rfl)) rfl rfl (xv (e_or (q0 rfl) rfl (fun h => by first | rfl | (rw [h]; rfl))) ?_)
              refine xv (mvB rfl) (xf (mvI rfl) rfl rfl (xf (e_lt (q1 rfl) (q0 rfl)) rfl rfl (xv (e_or (q0 rfl) rfl (fun h => by first | rfl | (rw [h]; rfl))) ?_)))
              refine xv (mvB rfl) (xf (mvI rfl) rfl rfl (xf (e_gt (q1 rfl) (q0 rfl)) rfl rfl (xf (e_mv (v := .bool _) (q1 rfl)) rfl rfl (xVT2 (mvS rfl) rfl rfl rfl rfl (xVT2 (mvI rfl) rfl rfl rfl rfl (xVT2 (e_sub (r := ((j : Nat) : Int)) (q1 rfl) (q0 rfl) (fun _ => ⟨by omega, by omega, by omega⟩)) rfl rfl rfl rfl (xVT2 (e_idx j Tryz.underlying38 Tryz.sizeOf44 (q1 rfl) (q1 rfl) (fun _ => ⟨rfl, hjn⟩)) rfl rfl rfl rfl (xVT2 (e_fld Tryz.underlying44 rfl Tryz.sizeOf3 rfl (q1 rfl)) rfl rfl rfl rfl (xVT2 (e_ld (v := .int .i64 q.b.ride) Tryz.isAgg3 (q1 rfl) (by exact rc (j := 0) hrq hbl rfl)) rfl rfl rfl rfl ?_)))))))))
              refine xVT2 (mvS rfl) rfl rfl rfl rfl (xVT2 (mvI rfl) rfl rfl rfl rfl (xVT2 (e_idx (j + 1) Tryz.underlying38 Tryz.sizeOf44 (q1 rfl) (q1 rfl) (fun _ => ⟨rfl, hlt3'⟩)) rfl rfl rfl rfl (xVT2 (e_fld Tryz.underlying44 rfl Tryz.sizeOf3 rfl (q1 rfl)) rfl rfl rfl rfl (xVT2 (e_ld (v := .int .i64 yb.ride) Tryz.isAgg3 (q1 rfl) (by exact rc (j := 0) hry hbl rfl)) rfl rfl rfl rfl ?_))))
              refine xVT2 (e_ge (q1 rfl) (q1 rfl)) rfl rfl rfl rfl (xf (e_and (q1 rfl) rfl (fun h => by first | rfl | (rw [h]; rfl))) rfl rfl ?_)
              refine xv (e_or (q0 rfl) rfl (fun h => by first | rfl | (rw [h]; rfl))) ?_
              refine XN ?_
              exact cutJ_normal _ agr ⟨rfl, trivial⟩ (fun w hw => hw) rfl (by simp; omega)
          · rintro o g2 ho
            subst ho
            refine thenJ_normal (H_cond rfl (fun h5 => ?_) (fun h5 => ?_))
            · exact absurd h5 (by decide)
            · refine H_skip (thenJ_normal (H_seq (R0 (xv (asI rfl) (XN (thenJ_normal (H_block (H_loop [6, 16, 136, 137, 138, 139, 140, 141, 142, 143, 144, 145, 146, 147, 148, 149, 150, 151, 152, 153, 154, 155, 156, 157, 158, 159, 160, 161, 162, 163, 164, 165, 166, 167, 168, 169, 170, 171, 172, 173, 174, 175, 176, 177, 178, 179, 180, 181] (fun j : Nat => [(16, .int .i64 j)]) (fun _ => []) (fun j => j ≤ yb.items.length) (fun j => yb.items.length - j) 0 ⟨rfl, trivial⟩ (fun w hw => hw) rfl (Nat.zero_le _) ?_))))))))
              rintro j g3 hj
              refine H_seq (H_seq (R0 (xv (mvI rfl) (xv (mvS rfl) (xv (mvI rfl) (xv (e_idx _ Tryz.underlying38 Tryz.sizeOf44 (q0 rfl) (q0 rfl) (fun _ => ⟨rfl, by omega⟩)) (xv (e_fld Tryz.underlying44 rfl Tryz.sizeOf42 rfl (q0 rfl)) (xv (e_ld (v := .slice yA yb.items.length yc) Tryz.isAgg42 (q0 rfl) (by exact rc (j := 2) hry hbl rfl)) ?_))))))))
              refine xv (e_len Tryz.underlying42 (q0 rfl)) (xv (e_lt (q0 rfl) (q0 rfl)) (XN (thenJ_normal (H_cond rfl (fun hlt6 => ?_) (fun hlt6 => ?_)))))
              · have hlt6' : j < yb.items.length := by simpa using hlt6
                obtain ⟨bi, oi, u, hA, hbi, huj, hru⟩ := hyI.at_ hlt6'
                subst hA
                have hu0 := (hok.kinds.all u (List.mem_of_getElem? huj)).2
                refine H_skip (thenJ_normal (H_seq (H_block (H_seq (H_cut [146, 147, 148, 149, 150, 151, 152, 153, 154, 155, 156, 157, 158, 159, 160, 161, 162, 163, 164, 165, 166, 167, 168, 169, 170, 171, 172, 173, 174, 175, 176, 177, 178, 179, 180, 181] (fun o : Bool => [(181, .bool o)]) (fun _ => []) (fun o => o = false) ?_ ?_)))))
                · rcases Nat.eq_zero_or_pos j with h00 | h00
                  · subst h00
                    refine R1 rfl (by decide +kernel) (xv (mvS rfl) (xv (mvI rfl) (xv (e_idx _ Tryz.underlying38 Tryz.sizeOf44 (q0 rfl) (q0 rfl) (fun _ => ⟨rfl, by omega⟩)) (xv (e_fld Tryz.underlying44 rfl Tryz.sizeOf42 rfl (q0 rfl)) (xv (e_ld (v := .slice (some ⟨bi, oi, none⟩) yb.items.length yc) Tryz.isAgg42 (q0 rfl) (by exact rc (j := 2) hry hbl rfl)) ?_)))))
                    refine xv (mvI rfl) (xv (e_idx 0 Tryz.underlying42 Tryz.sizeOf69 (q0 rfl) (q0 rfl) (fun _ => ⟨rfl, hlt6'⟩)) (xv (e_fld Tryz.underlying69 rfl Tryz.sizeOf3 rfl (q0 rfl)) (xv (e_ld (v := .int .i64 u.amount) Tryz.isAgg3 (q0 rfl) (by exact rc (j := 2) hru hbi rfl)) ?_)))
                    refine xv (e_eq (q0 rfl) (q0 rfl)) (xv (mvB rfl) (xf (mvI rfl) rfl rfl (xf (e_gt (q1 rfl) (q0 rfl)) rfl rfl (xf (e_mv (v := .bool _) (q1 rfl)) rfl rfl (xVT2 (e_dead (v := .slice none 0 0) (by simp)) rfl rfl rfl rfl (xVT2 (e_dead (v := .int .i64 0) (by simp)) rfl rfl rfl rfl (xVT2 (e_dead (v := .pointer none) (by simp)) rfl rfl rfl rfl (xVT2 (e_dead (v := .pointer none) (by simp)) rfl rfl rfl rfl (xVT2 (e_dead (v := .slice none 0 0) (by simp)) rfl rfl rfl rfl ?_)))))))))
                    refine xVT2 (e_dead (v := .int .i64 0) (by simp)) rfl rfl rfl rfl (xVT2 (e_dead (v := .int .i64 0) (by simp)) rfl rfl rfl rfl (xVT2 (e_dead (v := .pointer none) (by simp)) rfl rfl rfl rfl (xVT2 (e_dead (v := .pointer none) (by simp)) rfl rfl rfl rfl (xVT2 (e_dead (v := .int .i64 0) (by simp)) rfl rfl rfl rfl (xVT2 (e_dead (v := .slice none 0 0) (by simp)) rfl rfl rfl rfl (xVT2 (e_dead (v := .int .i64 0) (by simp)) rfl rfl rfl rfl (xVT2 (e_dead (v := .pointer none) (by simp)) rfl rfl rfl rfl (xVT2 (e_dead (v := .pointer none) (by simp)) rfl rfl rfl rfl (xVT2 (e_dead (v := .slice none 0 0) (by simp)) rfl rfl rfl rfl ?_)))))))))
                    refine xVT2 (e_dead (v := .int .i64 0) (by simp)) rfl rfl rfl rfl (xVT2 (e_dead (v := .pointer none) (by simp)) rfl rfl rfl rfl (xVT2 (e_dead (v := .pointer none) (by simp)) rfl rfl rfl rfl (xVT2 (e_dead (v := .int .i64 0) (by simp)) rfl rfl rfl rfl (xVT2 (e_dead (v := .bool false) (by simp)) rfl rfl rfl rfl (xf (e_and (q1 rfl) rfl (fun h => by first | rfl | (rw [h]; rfl))) rfl rfl ?_)))))
                    refine xv (e_or (q0 rfl) rfl (fun h => by first | rfl | (rw [h]; rfl))) ?_
                    refine XN ?_
                    exact cutJ_normal _ agr ⟨rfl, trivial⟩ (fun w hw => hw) rfl (by simp; omega)
                  · obtain ⟨i, rfl⟩ : ∃ i, j = i + 1 := ⟨j - 1, by omega⟩
                    have hin : i < yb.items.length := by omega
                    obtain ⟨q, hq, hrq⟩ := hyI.row hin
                    have hkk : q.kind < u.kind := by
                      obtain ⟨i1, i2⟩ := List.getElem?_eq_some_iff.1 hq
                      obtain ⟨i3, i4⟩ := List.getElem?_eq_some_iff.1 huj
                      have := List.pairwise_iff_getElem.1 hok.kinds.asc i (i + 1) i1 i3 (by omega)
                      rw [i2, i4] at this
                      exact this
                    refine R1 rfl (by decide +kernel) (xv (mvS rfl) (xv (mvI rfl) (xv (e_idx _ Tryz.underlying38 Tryz.sizeOf44 (q0 rfl) (q0 rfl) (fun _ => ⟨rfl, by omega⟩)) (xv (e_fld Tryz.underlying44 rfl Tryz.sizeOf42 rfl (q0 rfl)) (xv (e_ld (v := .slice (some ⟨bi, oi, none⟩) yb.items.length yc) Tryz.isAgg42 (q0 rfl) (by exact rc (j := 2) hry hbl rfl)) ?_)))))
                    refine xv (mvI rfl) (xv (e_idx (i + 1) Tryz.underlying42 Tryz.sizeOf69 (q0 rfl) (q0 rfl) (fun _ => ⟨rfl, hlt6'⟩)) (xv (e_fld Tryz.underlying69 rfl Tryz.sizeOf3 rfl (q0 rfl)) (xv (e_ld (v := .int .i64 u.amount) Tryz.isAgg3 (q0 rfl) (by exact rc (j := 2) hru hbi rfl)) ?_)))
                    refine xv (e_eq (q0 rfl) (q0 rfl)) (xv (mvB rfl) (xf (mvI rfl) rfl rfl (xf (e_gt (q1 rfl) (q0 rfl)) rfl rfl (xf (e_mv (v := .bool _) (q1 rfl)) rfl rfl (xVT2 (mvS rfl) rfl rfl rfl rfl (xVT2 (mvI rfl) rfl rfl rfl rfl (xVT2 (e_idx k Tryz.underlying38 Tryz.sizeOf44 (q1 rfl) (q1 rfl) (fun _ => ⟨rfl, hlt3'⟩)) rfl rfl rfl rfl (xVT2 (e_fld Tryz.underlying44 rfl Tryz.sizeOf42 rfl (q1 rfl)) rfl rfl rfl rfl (xVT2 (e_ld (v := .slice (some ⟨bi, oi, none⟩) yb.items.length yc) Tryz.isAgg42 (q1 rfl) (by exact rc (j := 2) hry hbl rfl)) rfl rfl rfl rfl ?_)))))))))
                    refine xVT2 (mvI rfl) rfl rfl rfl rfl (xVT2 (e_sub (r := ((i : Nat) : Int)) (q1 rfl) (q0 rfl) (fun _ => ⟨by omega, by omega, by omega⟩)) rfl rfl rfl rfl (xVT2 (e_idx i Tryz.underlying42 Tryz.sizeOf69 (q1 rfl) (q1 rfl) (fun _ => ⟨rfl, hin⟩)) rfl rfl rfl rfl (xVT2 (e_fld Tryz.underlying69 rfl Tryz.sizeOf3 rfl (q1 rfl)) rfl rfl rfl rfl (xVT2 (e_ld (v := .int .i64 q.kind) Tryz.isAgg3 (q1 rfl) (by exact rc (j := 0) hrq hbi rfl)) rfl rfl rfl rfl ?_))))
                    refine xVT2 (mvS rfl) rfl rfl rfl rfl (xVT2 (mvI rfl) rfl rfl rfl rfl (xVT2 (e_idx k Tryz.underlying38 Tryz.sizeOf44 (q1 rfl) (q1 rfl) (fun _ => ⟨rfl, hlt3'⟩)) rfl rfl rfl rfl (xVT2 (e_fld Tryz.underlying44 rfl Tryz.sizeOf42 rfl (q1 rfl)) rfl rfl rfl rfl (xVT2 (e_ld (v := .slice (some ⟨bi, oi, none⟩) yb.items.length yc) Tryz.isAgg42 (q1 rfl) (by exact rc (j := 2) hry hbl rfl)) rfl rfl rfl rfl ?_))))
                    refine xVT2 (mvI rfl) rfl rfl rfl rfl (xVT2 (e_idx (i + 1) Tryz.underlying42 Tryz.sizeOf69 (q1 rfl) (q1 rfl) (fun _ => ⟨rfl, hlt6'⟩)) rfl rfl rfl rfl (xVT2 (e_fld Tryz.underlying69 rfl Tryz.sizeOf3 rfl (q1 rfl)) rfl rfl rfl rfl (xVT2 (e_ld (v := .int .i64 u.kind) Tryz.isAgg3 (q1 rfl) (by exact rc (j := 0) hru hbi rfl)) rfl rfl rfl rfl ?_)))
                    refine xVT2 (e_ge (q1 rfl) (q1 rfl)) rfl rfl rfl rfl (xf (e_and (q1 rfl) rfl (fun h => by first | rfl | (rw [h]; rfl))) rfl rfl ?_)
                    refine xv (e_or (q0 rfl) rfl (fun h => by first | rfl | (rw [h]; rfl))) ?_
                    refine XN ?_
                    exact cutJ_normal _ agr ⟨rfl, trivial⟩ (fun w hw => hw) rfl (by simp; omega)
                · rintro o g4 ho
                  subst ho
                  refine thenJ_normal (H_cond rfl (fun h7 => ?_) (fun h7 => ?_))
                  · exact absurd h7 (by decide)
                  · refine H_skip (blockJ_normal (thenJ_normal (R0 (xv (mvI rfl) (xv (e_add (q0 rfl) (q0 rfl) (fun _ => ⟨rfl, by omega, by omega⟩)) (xv (asI rfl) (XN ?_)))))))
                    exact loopJ_normal (j + 1) agr ⟨rfl, trivial⟩ (fun w hw => hw) rfl (by omega) (by show yb.items.length - (j + 1) < yb.items.length - j; omega)
              · refine H_exit (thenJ_exit (loopJ_exit (blockJ_hit (blockJ_normal (thenJ_normal (R0 (xv (mvI rfl) (xv (e_add (q0 rfl) (q0 rfl) (fun _ => ⟨rfl, by omega, by omega⟩)) (xv (asI rfl) ?_)))))))))
                refine XN ?_
                exact loopJ_normal (k + 1) agr ⟨rfl, trivial⟩ (fun w hw => hw) rfl (by omega) (by show fs.length - (k + 1) < fs.length - k; omega)
        · refine H_exit (thenJ_exit (loopJ_exit (blockJ_hit (thenJ_normal (H_seq (R0 (xv (mvI rfl) (xv (mvS rfl) (xv (e_len Tryz.underlying38 (q0 rfl)) ?_)))))))))
          refine xv (e_eq (q0 rfl) (q0 rfl)) (xv (mvB rfl) (xCT (en Tryz.call14 (ha0)) (fun _ w _ => awake_w w) rfl rfl rfl rfl (xv (e_and (q0 rfl) rfl (fun h => by first | rfl | (rw [h]; rfl))) ?_)))
          refine xv (asB rfl) (XN (thenJ_normal (H_ret ?_)))
          exact ret1 (v := .bool _) rfl rfl rfl fun w' hw => ⟨ret_bool (by simp), hw1.1.trans hw.1⟩

end Go.Proofs.Far
