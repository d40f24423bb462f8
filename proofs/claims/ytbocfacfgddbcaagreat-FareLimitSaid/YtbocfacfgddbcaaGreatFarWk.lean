import Derived.Test.YtbocfacfgddbcaaGreatFarEb
import Derived.Test.YtbocfacfgddbcaaGreatFarWt
set_option linter.unusedVariables false
set_option linter.unusedSimpArgs false
/-
  The walks: what is paid apart from penalties; the law Limit.
-/
namespace Go.Proofs.Far
open Go Go.RowKit Go.Proofs.E Go.Proofs.Cus Go.Proofs.Rid

theorem pd_drop {xs : List FX} {k : Nat} {y : FX} {ride : Int} (h : xs[k]? = some y) (hn : y.b.ride ≠ ride) : pdOf ((xs.drop k).map (·.b)) ride = pdOf ((xs.drop (k + 1)).map (·.b)) ride := by
  obtain ⟨h1, h2⟩ := List.getElem?_eq_some_iff.1 h
  rw [List.drop_eq_getElem_cons h1, h2]
  unfold pdOf
  rw [List.map_cons, List.find?_cons_of_neg (by simpa using hn)]
theorem pd_here {xs : List FX} {k : Nat} {y : FX} {ride : Int} (h : xs[k]? = some y) (hn : y.b.ride = ride) : pdOf ((xs.drop k).map (·.b)) ride = y.b.total - fiA y.b.items := by
  obtain ⟨h1, h2⟩ := List.getElem?_eq_some_iff.1 h
  rw [List.drop_eq_getElem_cons h1, h2]
  unfold pdOf
  rw [List.map_cons, List.find?_cons_of_pos (by simpa using hn)]
attribute [local irreducible] pdOf fiA pdSum
set_option maxHeartbeats 1000000 in
set_option maxRecDepth 20000 in
theorem paid_w (A : Option Addr) (n c : Nat) (xs : List FX) (ride : Int) (w : World) (hF : FasAt w A n xs) (hok : ∀ x ∈ xs, FareOk x.b) : Calls Tryz.prog 22 #[.slice A n c, .int .i64 ride] w fun e w' => e = .returned (.int .i64 (pdOf (xs.map (·.b)) ride)) ∧ Bel w w' := by
  have hl := hF.1.1
  have hn := hF.1.2.1
  refine H_enter Tryz.func22 rfl Tryz.ntmps22 rfl (H_seq (R0 (xv (asI rfl) (XN (thenJ_normal (H_seq (H_seq (R0 (xv (asI rfl) ?_)))))))))
  refine XN (thenJ_normal (H_block (H_loop [4, 5, 6, 7, 8, 9, 10, 11, 12, 13, 14, 15, 16, 17, 18, 19, 20, 21, 22, 23, 24, 25, 26, 27, 28, 29, 30, 31, 32, 33, 34, 35, 36, 37, 38, 39, 40, 41, 42, 43, 44, 45, 46, 47, 48, 49, 50, 51, 52, 53, 54, 55, 56, 57] (fun k : Nat => [(5, .int .i64 k)]) (fun _ => []) (fun k => k ≤ n ∧ pdOf (xs.map (·.b)) ride = pdOf ((xs.drop k).map (·.b)) ride) (fun k => n - k) 0 ⟨rfl, trivial⟩ (fun w hw => hw) rfl ⟨Nat.zero_le _, rfl⟩ ?_)))
  rintro k g ⟨hk, hall⟩
  refine H_seq (H_seq (R0 (xv (mvI rfl) (xv (mvS rfl) (xv (e_len Tryz.underlying38 (q0 rfl)) (xv (e_lt (q0 rfl) (q0 rfl)) (XN (thenJ_normal (H_cond rfl (fun hlt => ?_) (fun hlt => ?_))))))))))
  · have hlt' : k < n := by simpa using hlt
    obtain ⟨b, off, y, rfl, hbl, hyk, hry⟩ := hF.1.at_ hlt'
    have hym := List.mem_of_getElem? hyk
    have hyI := hF.2 y hym
    have hyo := hok y hym
    have hstep := pd_drop (ride := ride) hyk
    have hhere := pd_here (ride := ride) hyk
    obtain ⟨yb, yA, yc⟩ := y
    simp only at hyI hyo hstep hhere
    have hin := hyI.2.1
    have hil := hyI.1
    have h7 := hyo.len
    have hsb := sumA_bd hyo.amounts
    rw [hyo.sums] at hsb
    have hfb := fiA_bd hyo.amounts
    have hab := hyo.amounts
    refine H_skip (thenJ_normal (H_seq (H_block (H_seq (H_seq (R0 (xv (mvS rfl) (xv (mvI rfl) (xv (e_idx _ Tryz.underlying38 Tryz.sizeOf44 (q0 rfl) (q0 rfl) (fun _ => ⟨rfl, by omega⟩)) ?_)))))))))
    refine xv (e_fld Tryz.underlying44 rfl Tryz.sizeOf3 rfl (q0 rfl)) (xv (eL Tryz.isAgg3 (q0 rfl)) ?_)
    refine xv (mvI rfl) (xv (e_ne (q0 rfl) (q0 rfl)) (XN (thenJ_normal (H_cond rfl (fun h2 => ?_) (fun h2 => ?_)))))
    · have h2' : yb.ride ≠ ride := by simpa using h2
      refine H_exit (thenJ_exit (blockJ_hit (thenJ_normal (R0 (xv (mvI rfl) (xv (e_add (q0 rfl) (q0 rfl) (fun _ => ⟨rfl, by omega, by omega⟩)) (xv (asI rfl) (XN ?_))))))))
      exact loopJ_normal (k + 1) agr ⟨rfl, trivial⟩ (fun w hw => hw) rfl ⟨by omega, hall.trans (hstep h2')⟩ (by show n - (k + 1) < n - k; omega)
    · have h2' : yb.ride = ride := by simpa using h2
      rw [hall, hhere h2']
      refine H_skip (thenJ_normal (H_seq (R0 (xv (mvS rfl) (xv (mvI rfl) (xv (e_idx _ Tryz.underlying38 Tryz.sizeOf44 (q0 rfl) (q0 rfl) (fun _ => ⟨rfl, by omega⟩)) (xv (e_fld Tryz.underlying44 rfl Tryz.sizeOf3 rfl (q0 rfl)) (xv (e_ld (v := .int .i64 yb.total) Tryz.isAgg3 (q0 rfl) (by exact rc (j := 3) hry hbl rfl)) ?_))))))))
      refine xv (asI rfl) (XN (thenJ_normal (H_seq (H_seq (R0 (xv (asI rfl) (XN (thenJ_normal (H_block ?_)))))))))
      refine H_loop [6, 7, 26, 27, 28, 29, 30, 31, 32, 33, 34, 35, 36, 37, 38, 39, 40, 41, 42, 43, 44, 45, 46, 47, 48, 49, 50, 51, 52, 53, 54, 55, 56] (fun j : Nat => [(7, .int .i64 j), (6, .int .i64 (yb.total - fiA (yb.items.take j)))]) (fun _ => []) (fun j => j ≤ yb.items.length) (fun j => yb.items.length - j) 0 ⟨rfl, by rw [show fiA (yb.items.take 0) = 0 by unfold fiA; rfl, Int.sub_zero]; rfl, trivial⟩ (fun w hw => hw) rfl (Nat.zero_le _) ?_
      rintro j g2 hj
      refine H_seq (H_seq (R0 (xv (mvI rfl) (xv (mvS rfl) (xv (mvI rfl) (xv (e_idx _ Tryz.underlying38 Tryz.sizeOf44 (q0 rfl) (q0 rfl) (fun _ => ⟨rfl, by omega⟩)) (xv (e_fld Tryz.underlying44 rfl Tryz.sizeOf42 rfl (q0 rfl)) (xv (e_ld (v := .slice yA yb.items.length yc) Tryz.isAgg42 (q0 rfl) (by exact rc (j := 2) hry hbl rfl)) ?_))))))))
      refine xv (e_len Tryz.underlying42 (q0 rfl)) (xv (e_lt (q0 rfl) (q0 rfl)) (XN (thenJ_normal (H_cond rfl (fun hlt2 => ?_) (fun hlt2 => ?_)))))
      · have hlt2' : j < yb.items.length := by simpa using hlt2
        obtain ⟨bi, oi, u, hA, hbi, huj, hru⟩ := hyI.at_ hlt2'
        subst hA
        have hst := fiA_succ huj
        have hu0 := hab u (List.mem_of_getElem? huj)
        have hf1 := hfb j hj
        have hf2 := hfb (j + 1) hlt2'
        refine H_skip (thenJ_normal (H_seq (H_block (H_seq (R0 (xv (mvS rfl) (xv (mvI rfl) (xv (e_idx _ Tryz.underlying38 Tryz.sizeOf44 (q0 rfl) (q0 rfl) (fun _ => ⟨rfl, by omega⟩)) (xv (e_fld Tryz.underlying44 rfl Tryz.sizeOf42 rfl (q0 rfl)) ?_)))))))))
        refine xv (e_ld (v := .slice (some ⟨bi, oi, none⟩) yb.items.length yc) Tryz.isAgg42 (q0 rfl) (by exact rc (j := 2) hry hbl rfl)) ?_
        refine xv (mvI rfl) (xv (e_idx j Tryz.underlying42 Tryz.sizeOf69 (q0 rfl) (q0 rfl) (fun _ => ⟨rfl, hlt2'⟩)) (xv (e_fld Tryz.underlying69 rfl Tryz.sizeOf3 rfl (q0 rfl)) (xv (e_ld (v := .int .i64 u.kind) Tryz.isAgg3 (q0 rfl) (by exact rc (j := 0) hru hbi rfl)) ?_)))
        refine xv (e_eq (q0 rfl) (q0 rfl)) (XN (thenJ_normal (H_cond rfl (fun h3 => ?_) (fun h3 => ?_))))
        · have h3' : u.kind = 7 := by simpa using h3
          rw [if_pos h3'] at hst
          refine R0 (xv (mvI rfl) (xv (mvS rfl) (xv (mvI rfl) (xv (e_idx _ Tryz.underlying38 Tryz.sizeOf44 (q0 rfl) (q0 rfl) (fun _ => ⟨rfl, by omega⟩)) (xv (e_fld Tryz.underlying44 rfl Tryz.sizeOf42 rfl (q0 rfl)) (xv (e_ld (v := .slice (some ⟨bi, oi, none⟩) yb.items.length yc) Tryz.isAgg42 (q0 rfl) (by exact rc (j := 2) hry hbl rfl)) ?_))))))
          refine xv (mvI rfl) (xv (e_idx j Tryz.underlying42 Tryz.sizeOf69 (q0 rfl) (q0 rfl) (fun _ => ⟨rfl, hlt2'⟩)) (xv (e_fld Tryz.underlying69 rfl Tryz.sizeOf3 rfl (q0 rfl)) (xv (e_ld (v := .int .i64 u.amount) Tryz.isAgg3 (q0 rfl) (by exact rc (j := 2) hru hbi rfl)) ?_)))
          refine xv (e_sub (r := yb.total - fiA (yb.items.take (j + 1))) (q0 rfl) (q0 rfl) (fun _ => ⟨by omega, by omega, by omega⟩)) (xv (asI rfl) (XN (blockJ_normal (thenJ_normal (R0 (xv (mvI rfl) (xv (e_add (q0 rfl) (q0 rfl) (fun _ => ⟨rfl, by omega, by omega⟩)) (xv (asI rfl) (XN ?_)))))))))
          exact loopJ_normal (j + 1) agr ⟨rfl, rfl, trivial⟩ (fun w hw => hw) rfl (by omega) (by show yb.items.length - (j + 1) < yb.items.length - j; omega)
        · have h3' : ¬ u.kind = 7 := by simpa using h3
          rw [if_neg h3', Int.add_zero] at hst
          refine H_skip (blockJ_normal (thenJ_normal (R0 (xv (mvI rfl) (xv (e_add (q0 rfl) (q0 rfl) (fun _ => ⟨rfl, by omega, by omega⟩)) (xv (asI rfl) (XN ?_)))))))
          exact loopJ_normal (j + 1) agr ⟨rfl, by rw [hst]; rfl, trivial⟩ (fun w hw => hw) rfl (by omega) (by show yb.items.length - (j + 1) < yb.items.length - j; omega)
      · have hend2 : j = yb.items.length := by simp at hlt2; omega
        rw [hend2, List.take_length]
        refine H_exit (thenJ_exit (loopJ_exit (blockJ_hit (thenJ_normal (H_seq (R0 (xv (mvI rfl) (xv (asI rfl) (XN ?_)))))))))
        refine thenJ_normal (H_ret (blockJ_ret (thenJ_ret (loopJ_ret (blockJ_ret (thenJ_ret ?_))))))
        exact ret1 (v := .int _ _) rfl rfl rfl fun w' hw => ⟨rfl, hw.1⟩
  · have hend : k = n := by simp at hlt; omega
    rw [hend, List.drop_of_length_le (by omega)] at hall
    rw [hall, show pdOf (([] : List FX).map (·.b)) ride = 0 by unfold pdOf; rfl]
    refine H_exit (thenJ_exit (loopJ_exit (blockJ_hit (thenJ_normal (H_seq (R0 (xv (asI rfl) (XN (thenJ_normal ?_)))))))))
    refine H_ret ?_
    exact ret1 (v := .int _ _) rfl rfl rfl fun w' hw => ⟨rfl, hw.1⟩

attribute [local irreducible] allR allErr oneR fewB ofDay
set_option maxHeartbeats 2000000 in
set_option maxRecDepth 20000 in
theorem limitLaw_w (f : Fl) (fa : FA) (p : Pr) (a : PrA) (A : Option Addr) (n c : Nat) (rs : List RX) (V : Option Addr) (m d : Nat) (vs : List Pen.V) (w : World) (hf : FlAt w f fa) (hp : PrAt w p a) (hr : RdsAt w A n rs) (hpl : ∀ x ∈ rs, x.r.pl ≤ 9223372036854775807) (hv : Pen.VsAt w V m vs) :
    Calls Tryz.prog 7 #[.agg (ctCells f fa p a).toArray, .slice A n c, .slice V m d] w fun e w' => e = .returned (.bool true) ∧ Bel w w' := by
  have hl := hr.1.1
  refine H_enter Tryz.func7 rfl Tryz.ntmps7 rfl (H_seq (R0 (X_box (v := .agg _) rfl rfl fun b3 => (xv (asB rfl) (XN (thenJ_normal (H_seq (H_seq (R0 ?_)))))))))
  refine xv (eS Tryz.isAgg30 Tryz.sizeOf30 (q0 rfl)) ?_
  refine xv (mvS rfl) (xv (mvS rfl) (xC (en Tryz.call11 (ha3 (q0 rfl) (q0 rfl) (q0 rfl))) (fun _ w hw => few_w f fa p a A n c rs V m d w (hr.mem hw)) rfl rfl (xv (e_not (q0 rfl)) (xv (mvB rfl) (xf (e_fld Tryz.underlying30 rfl Tryz.sizeOf28 rfl (q0 rfl)) rfl rfl (xf (e_fld Tryz.underlying28 rfl Tryz.sizeOf3 rfl (q1 rfl)) rfl rfl (xf (e_ld (v := .int .i64 p.cap) Tryz.isAgg3 (q1 rfl) (bx 0 rfl rfl)) rfl rfl (xf (e_le (q1 rfl) (q0 rfl)) rfl rfl (xv (e_or (q0 rfl) rfl (fun h => by first | rfl | (rw [h]; rfl))) ?_)))))))))
  refine XN (thenJ_normal (H_cond rfl (fun h1 => ?_) (fun h1 => ?_)))
  · refine H_seq (R0 (xC (en Tryz.call14 (ha0)) (fun _ w _ => awake_w w) rfl rfl (xv (asB rfl) (XN (thenJ_normal (H_ret (thenJ_ret ?_)))))))
    exact ret1 (v := .bool _) rfl rfl rfl fun w' hw => ⟨rfl, hw.1⟩
  · have h1' : fewB n m fa a (rs.map (·.r)) = true ∧ 0 < p.cap := by
      have h : (!fewB n m fa a (rs.map (·.r)) || decide (p.cap ≤ 0)) = false := h1
      simp at h
      exact h
    obtain ⟨hn40, _, _⟩ := few_parts h1'.1
    obtain ⟨hs1, hs2⟩ := few_short h1'.1
    have hcap := h1'.2
    refine H_skip (thenJ_normal (H_seq (R0 (xv (e_fld Tryz.underlying30 rfl Tryz.sizeOf24 rfl (q0 rfl)) (xv (eP (vs := f.cells fa) Tryz.isAgg24 Tryz.sizeOf24 (q0 rfl) (bpv 0 rfl rfl rfl)) ?_)))))
    refine xv (e_fld Tryz.underlying30 rfl Tryz.sizeOf28 rfl (q0 rfl)) (xv (eP (vs := p.cells a) Tryz.isAgg28 Tryz.sizeOf28 (q0 rfl) (bpv 0 rfl rfl rfl)) ?_)
    refine xv (mvS rfl) (xv (mvS rfl) (xCX (en Tryz.call15 (ha4 (q0 rfl) (q0 rfl) (q0 rfl) (q0 rfl))) (fun w hw => all_w f fa p a A n c rs V m d vs w (hf.mem hw) (hp.mem hw) (hr.mem hw) hs1 (hv.mem hw) hpl) rfl (fun _ => rfl) fun z1 => ?_))
    obtain ⟨⟨fs, ⟨A1, c1⟩⟩, hfs⟩ := z1
    dsimp only at hfs ⊢
    have hrl : (rs.map (·.r)).length ≤ 100000 := by rw [List.length_map]; omega
    refine xv (e_mv (q0 rfl)) (xv (e_ext (q0 rfl) rfl) (xv (e_ext (q0 rfl) rfl) (xv (asS rfl) (xv (asI rfl) (XN (thenJ_normal (H_seq (H_seq (R0 ?_)))))))))
    refine xv (mvI rfl) (xv (e_ne (q0 rfl) (q0 rfl)) (XN (thenJ_normal (H_cond rfl (fun h2 => ?_) (fun h2 => ?_)))))
    · refine H_seq (R0 (xC (en Tryz.call14 (ha0)) (fun _ w _ => awake_w w) rfl rfl (xv (asB rfl) (XN (thenJ_normal (H_ret (thenJ_ret ?_)))))))
      exact ret1 (v := .bool _) rfl rfl rfl fun w' hw => ⟨rfl, hw.1⟩
    · have h2' : allErr f p (rs.map (·.r)) vs = 0 := by simpa using h2
      obtain ⟨hpr, hrd, _⟩ := all_ok h2'
      have hok : ∀ x ∈ fs, FareOk x.b := fun x hx => fare_all (f := f) (p := p) (rs := rs.map (·.r)) (vs := vs) (by rw [← hfs]; exact List.mem_map.2 ⟨x, hx, rfl⟩)
      have hlo : ∀ {k : Nat} {x : RX}, rs[k]? = some x → 0 ≤ x.r.start.lo ∧ x.r.start.lo ≤ 9000000000 := fun {k x} hx => by
        have hc : checkR x.r = 0 := (rdsErr_good hrd).ok x.r (List.mem_map.2 ⟨x, List.mem_of_getElem? hx, rfl⟩)
        have hs := spOk_iff.1 (checkR_parts hc).1
        omega
      refine H_skip (thenJ_normal (H_seq (H_seq (R0 (xv (asI rfl) (XN (thenJ_normal (H_block (H_loop [6, 9, 10, 11, 37, 38, 39, 40, 41, 42, 43, 44, 45, 46, 47, 48, 49, 50, 51, 52, 53, 54, 55, 56, 57, 58, 59, 60, 61, 62, 63, 64, 65, 66, 67, 68, 69, 70, 71, 72, 73, 74, 75, 76, 77, 78, 79, 80, 81, 82, 83, 84, 85, 86, 87, 88, 89, 90] (fun k : Nat => [(9, .int .i64 k)]) (fun _ => [faRow A1 c1 fs, bag (fs.flatMap faParts), box b3 30 (ctCells f fa p a)]) (fun k => k ≤ n) (fun k => n - k) 0 ⟨rfl, trivial⟩ (fun w hw => hw) rfl (Nat.zero_le _) ?_)))))))))
      rintro i g hi
      refine H_seq (H_seq (R0 (xv (mvI rfl) (xv (mvS rfl) (xv (e_len Tryz.underlying36 (q0 rfl)) (xv (e_lt (q0 rfl) (q0 rfl)) (XN (thenJ_normal (H_cond rfl (fun hlt => ?_) (fun hlt => ?_))))))))))
      · have hlt' : i < n := by simpa using hlt
        obtain ⟨b, off, x, rfl, hbl, hxi, hrx⟩ := hr.1.at_ hlt'
        have hxl := hlo hxi
        obtain ⟨S, hS⟩ : ∃ S : Nat → Int, ∀ k, S k = pdSum (allR f p (rs.map (·.r)) vs) (rs.map (·.r)) x.r.rider (x.r.start.lo / 86400) k := ⟨_, fun _ => rfl⟩
        have hS0 : S 0 = 0 := by rw [hS, pdSum_zero]
        have hSr : ∀ k, k ≤ n → 0 ≤ S k ∧ S k ≤ 1000000000000 * (k : Int) := fun k hk => by
          rw [hS]
          exact pdSum_range h2' _ _ k (by rw [List.length_map]; omega)
        have hSn : S n ≤ p.cap := by
          rw [hS]
          exact limit_le h2' hcap _ _ (by rw [List.length_map]; exact hl)
        refine H_skip (thenJ_normal (H_seq (H_block (H_seq (R0 (xv (asI rfl) (XN (thenJ_normal (H_seq ?_)))))))))
        refine H_seq (R0 (xv (asI rfl) (XN (thenJ_normal (H_block (H_loop [10, 11, 43, 44, 45, 46, 47, 48, 49, 50, 51, 52, 53, 54, 55, 56, 57, 58, 59, 60, 61, 62, 63, 64, 65, 66, 67, 68, 69, 70, 71, 72, 73, 74, 75, 76, 77, 78, 79, 80, 81, 82, 83, 84, 85] (fun k : Nat => [(11, .int .i64 k), (10, .int .i64 (S k))]) (fun _ => [faRow A1 c1 fs, bag (fs.flatMap faParts), box b3 30 (ctCells f fa p a)]) (fun k => k ≤ n) (fun k => n - k) 0 ⟨rfl, by rw [hS0]; rfl, trivial⟩ (fun w hw => hw) rfl (Nat.zero_le _) ?_))))))
        rintro k g2 hk
        refine H_seq (H_seq (R0 (xv (mvI rfl) (xv (mvS rfl) (xv (e_len Tryz.underlying36 (q0 rfl)) (xv (e_lt (q0 rfl) (q0 rfl)) (XN (thenJ_normal (H_cond rfl (fun hlt2 => ?_) (fun hlt2 => ?_))))))))))
        · have hlt2' : k < n := by simpa using hlt2
          obtain ⟨y, hyk, hry⟩ := hr.1.row hlt2'
          have hyl := hlo hyk
          have hyr : (rs.map (·.r))[k]? = some y.r := by simp [hyk]
          have hst := pdSum_succ (l := allR f p (rs.map (·.r)) vs) (rd := x.r.rider) (d := x.r.start.lo / 86400) hyr
          rw [← hS, ← hS] at hst
          have hs1 := hSr k hk
          have hs2 := hSr (k + 1) hlt2'
          refine H_skip (thenJ_normal (H_seq (H_block (H_seq (R1 rfl (by decide +kernel) (xv (mvS rfl) (xv (mvI rfl) (xv (e_idx k Tryz.underlying36 Tryz.sizeOf54 (q0 rfl) (q0 rfl) (fun _ => ⟨rfl, hlt2'⟩)) (xv (e_fld Tryz.underlying54 rfl Tryz.sizeOf3 rfl (q0 rfl)) ?_)))))))))
          refine xv (e_ld (v := .int .i64 y.r.rider) Tryz.isAgg3 (q0 rfl) (by exact rc (j := 1) hry hbl rfl)) ?_
          refine xv (mvS rfl) (xv (mvI rfl) (xv (e_idx i Tryz.underlying36 Tryz.sizeOf54 (q0 rfl) (q0 rfl) (fun _ => ⟨rfl, hlt'⟩)) (xv (e_fld Tryz.underlying54 rfl Tryz.sizeOf3 rfl (q0 rfl)) (xv (e_ld (v := .int .i64 x.r.rider) Tryz.isAgg3 (q0 rfl) (by exact rc (j := 1) hrx hbl rfl)) ?_))))
          refine xv (e_eq (q0 rfl) (q0 rfl)) (xv (mvB rfl) (xt (mvS rfl) rfl rfl (xt (mvI rfl) rfl rfl (xt (e_idx k Tryz.underlying36 Tryz.sizeOf54 (q1 rfl) (q1 rfl) (fun _ => ⟨rfl, hlt2'⟩)) rfl rfl (xt (e_fld Tryz.underlying54 rfl Tryz.sizeOf50 rfl (q1 rfl)) rfl rfl (xt (e_fld Tryz.underlying50 rfl Tryz.sizeOf3 rfl (q1 rfl)) rfl rfl (xt (e_ld (v := .int .i64 y.r.start.lo) Tryz.isAgg3 (q1 rfl) (by exact rc (j := 2) hry hbl rfl)) rfl rfl ?_)))))))
          refine xt (e_quo (q1 rfl) (q0 rfl) (fun _ => ⟨by omega, by omega, by omega⟩)) rfl rfl (xt (mvS rfl) rfl rfl (xt (mvI rfl) rfl rfl (xt (e_idx i Tryz.underlying36 Tryz.sizeOf54 (q1 rfl) (q1 rfl) (fun _ => ⟨rfl, hlt'⟩)) rfl rfl (xt (e_fld Tryz.underlying54 rfl Tryz.sizeOf50 rfl (q1 rfl)) rfl rfl (xt (e_fld Tryz.underlying50 rfl Tryz.sizeOf3 rfl (q1 rfl)) rfl rfl (xt (e_ld (v := .int .i64 x.r.start.lo) Tryz.isAgg3 (q1 rfl) (by exact rc (j := 2) hrx hbl rfl)) rfl rfl ?_))))))
          refine xt (e_quo (q1 rfl) (q0 rfl) (fun _ => ⟨by omega, by omega, by omega⟩)) rfl rfl (xt (e_eq (q1 rfl) (q1 rfl)) rfl rfl (xv (e_and (q0 rfl) rfl (fun h => by first | rfl | (rw [h]; rfl))) ?_))
          refine XN (thenJ_normal (H_cond rfl (fun h3 => ?_) (fun h3 => ?_)))
          · have h3' : ofDay x.r.rider (x.r.start.lo / 86400) y.r = true := by unfold ofDay; exact h3
            rw [if_pos h3'] at hst
            have hP : ∀ (w' : World), Mem w [faRow A1 c1 fs, bag (fs.flatMap faParts), box b3 30 (ctCells f fa p a)] w' → Calls Tryz.prog 22 #[.slice A1 fs.length c1, .int .i64 y.r.id] w' fun e w'' => e = .returned (.int .i64 (pdOf (allR f p (rs.map (·.r)) vs) y.r.id)) ∧ Bel w' w'' := fun w' hw => by
              have h := paid_w A1 fs.length c1 fs y.r.id w' (fas_at hfs hrl hw (j := 0) (k := 1) rfl rfl) hok
              rw [hfs] at h
              exact h
            refine R0 (xv (mvI rfl) (xv (mvS rfl) (xv (mvS rfl) (xv (mvI rfl) (xv (e_idx _ Tryz.underlying36 Tryz.sizeOf54 (q0 rfl) (q0 rfl) (fun _ => ⟨rfl, by omega⟩)) (xv (e_fld Tryz.underlying54 rfl Tryz.sizeOf3 rfl (q0 rfl)) (xv (e_ld (v := .int .i64 y.r.id) Tryz.isAgg3 (q0 rfl) (by exact rc (j := 0) hry hbl rfl)) ?_)))))))
            refine xC (en Tryz.call22 (ha2 (q0 rfl) (q0 rfl))) (fun _ w hw => hP w hw) rfl rfl (xv (e_add (r := S (k + 1)) (q0 rfl) (q0 rfl) (fun _ => ⟨by omega, by omega, by omega⟩)) (xv (asI rfl) (XN (blockJ_normal (thenJ_normal (R0 (xv (mvI rfl) (xv (e_add (q0 rfl) (q0 rfl) (fun _ => ⟨rfl, by omega, by omega⟩)) (xv (asI rfl) ?_)))))))))
            refine XN ?_
            exact loopJ_normal (k + 1) agr ⟨rfl, rfl, trivial⟩ (fun w hw => hw) rfl (by omega) (by show n - (k + 1) < n - k; omega)
          · have h3' : ofDay x.r.rider (x.r.start.lo / 86400) y.r = false := by unfold ofDay; exact h3
            rw [if_neg (by rw [h3']; decide), Int.add_zero] at hst
            refine H_skip (blockJ_normal (thenJ_normal (R0 (xv (mvI rfl) (xv (e_add (q0 rfl) (q0 rfl) (fun _ => ⟨rfl, by omega, by omega⟩)) (xv (asI rfl) (XN ?_)))))))
            exact loopJ_normal (k + 1) agr ⟨rfl, by rw [hst]; rfl, trivial⟩ (fun w hw => hw) rfl (by omega) (by show n - (k + 1) < n - k; omega)
        · have hend2 : k = n := by simp at hlt2; omega
          rw [hend2]
          refine H_exit (thenJ_exit (loopJ_exit (blockJ_hit (thenJ_normal (H_seq (R0 (xv (mvI rfl) (xv (e_fld Tryz.underlying30 rfl Tryz.sizeOf28 rfl (q0 rfl)) (xv (e_fld Tryz.underlying28 rfl Tryz.sizeOf3 rfl (q0 rfl)) ?_)))))))))
          refine xv (e_ld (v := .int .i64 p.cap) Tryz.isAgg3 (q0 rfl) (bx 2 rfl rfl)) (xv (e_gt (q0 rfl) (q0 rfl)) (XN (thenJ_normal (H_cond rfl (fun h4 => ?_) (fun h4 => ?_)))))
          · exfalso; simp at h4; omega
          · refine H_skip (blockJ_normal (thenJ_normal (R0 (xv (mvI rfl) (xv (e_add (q0 rfl) (q0 rfl) (fun _ => ⟨rfl, by omega, by omega⟩)) (xv (asI rfl) (XN ?_)))))))
            exact loopJ_normal (i + 1) agr ⟨rfl, trivial⟩ (fun w hw => hw) rfl (by omega) (by show n - (i + 1) < n - i; omega)
      · refine H_exit (thenJ_exit (loopJ_exit (blockJ_hit (thenJ_normal (H_seq (R0 (xC (en Tryz.call14 (ha0)) (fun _ w _ => awake_w w) rfl rfl (xv (asB rfl) (XN ?_)))))))))
        refine thenJ_normal (H_ret ?_)
        exact ret1 (v := .bool _) rfl rfl rfl fun w' hw => ⟨rfl, hw.1⟩

end Go.Proofs.Far
