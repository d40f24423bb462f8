import Derived.Test.YtbocfacfgddbcaaGreatFarEb
import Derived.Test.YtbocfacfgddbcaaGreatFarT
import Derived.Test.YtbocfacfgddbcaaGreatFarS
import Derived.Test.YtbocfacfgddbcaaGreatFarU
set_option linter.unusedVariables false
set_option linter.unusedSimpArgs false
/-
  The walks: the reference's fare of one ride.
-/
namespace Go.Proofs.Far
open Go Go.RowKit Go.Proofs.E Go.Proofs.Cus Go.Proofs.Rid

theorem one_hit {f : Fl} {p : Pr} {rs : List Rd} {vs : List Pen.V} {id : Int} {k : Nat} {c : Bil} (h : allErr f p rs vs = 0) (hk : (allR f p rs vs)[k]? = some c) (hc : c.ride = id) (hb : ∀ j d, j < k → (allR f p rs vs)[j]? = some d → d.ride ≠ id) : oneR f p rs vs id = (c, 0) := by
  have hfd : (allR f p rs vs).find? (fun b => decide (b.ride = id)) = some c := by
    rw [List.find?_eq_some_iff_append]
    obtain ⟨h1, h2⟩ := List.getElem?_eq_some_iff.1 hk
    refine ⟨by simp [hc], (allR f p rs vs).take k, (allR f p rs vs).drop (k + 1), ?_, fun d hd => ?_⟩
    · rw [← drop_of hk, List.take_append_drop]
    · obtain ⟨j, hj⟩ := List.getElem?_of_mem hd
      have hjk : j < k := by have := (List.getElem?_eq_some_iff.1 hj).1; rw [List.length_take] at this; omega
      rw [List.getElem?_take, if_pos hjk] at hj
      simpa using hb j d hjk hj
  unfold oneR
  rw [if_neg (by omega), hfd]
theorem one_miss {f : Fl} {p : Pr} {rs : List Rd} {vs : List Pen.V} {id : Int} (h : allErr f p rs vs = 0) (hb : ∀ d ∈ allR f p rs vs, d.ride ≠ id) : oneR f p rs vs id = if (rs.any fun r => decide (r.id = id)) = true then (zBil, 26) else (zBil, 7) := by
  have hfd : (allR f p rs vs).find? (fun b => decide (b.ride = id)) = none := by
    rw [List.find?_eq_none]
    intro d hd
    simpa using hb d hd
  unfold oneR
  rw [if_neg (by omega), hfd]
attribute [local irreducible] allR allErr oneR findR
set_option maxHeartbeats 1000000 in
set_option maxRecDepth 20000 in
theorem rone_fare_w (f : Fl) (fa : FA) (p : Pr) (a : PrA) (A : Option Addr) (n c : Nat) (rs : List RX) (V : Option Addr) (vn vc : Nat) (vs : List Pen.V) (id : Int) (w : World) (hf : FlAt w f fa) (hp : PrAt w p a) (hr : RdsAt w A n rs) (hs : ∀ x ∈ rs, x.r.pauses.length ≤ 1000) (hv : Pen.VsAt w V vn vs) (hpl : ∀ x ∈ rs, x.r.pl ≤ 9223372036854775807) :
    Calls Tryz.prog 19 #[.agg (f.cells fa).toArray, .agg (p.cells a).toArray, .slice A n c, .slice V vn vc, .int .i64 id] w fun e w' => ∃ z : Option Addr × Nat, e = .returned (faVal (oneR f p (rs.map (·.r)) vs id) z) ∧ Mem w [itRow z.1 z.2 (oneR f p (rs.map (·.r)) vs id).1.items] w' := by
  have hl := hr.1.1
  have hn := hr.1.2.1
  refine H_enter Tryz.func19 rfl Tryz.ntmps19 rfl (H_seq (R0 (X_box (v := .agg _) rfl rfl fun b5 => (X_box (v := .agg _) rfl rfl fun b6 => (X_alloc Tryz.zeroValue44 rfl fun b10 => (xv (asI rfl) (XN (thenJ_normal (H_seq ?_)))))))))
  refine R0 (xv (eS Tryz.isAgg24 Tryz.sizeOf24 (q0 rfl)) ?_)
  refine xv (eS Tryz.isAgg28 Tryz.sizeOf28 (q0 rfl)) ?_
  refine xv (mvS rfl) (xv (mvS rfl) (xCX (en Tryz.call16 (ha4 (q0 rfl) (q0 rfl) (q0 rfl) (q0 rfl))) (fun w hw => rall_w f fa p a A n c rs V vn vc vs w (hf.mem hw) (hp.mem hw) (hr.mem hw) hs (hv.mem hw) hpl) rfl (fun _ => rfl) fun z => ?_))
  obtain ⟨⟨fs, ⟨fA, fc⟩⟩, hfs⟩ := z
  dsimp only at hfs ⊢
  refine xv (e_mv (q0 rfl)) (xv (e_ext (q0 rfl) rfl) (xv (e_ext (q0 rfl) rfl) (xv (asS rfl) (xv (asI rfl) (XN (thenJ_normal (H_seq (H_seq (R0 ?_)))))))))
  refine xv (mvI rfl) (xv (e_ne (q0 rfl) (q0 rfl)) (XN (thenJ_normal (H_cond rfl (fun h1 => ?_) (fun h1 => ?_)))))
  · have h1' : allErr f p (rs.map (·.r)) vs ≠ 0 := by simpa using h1
    rw [one_err h1']
    refine H_seq (R0 (xv (e_build Tryz.underlying44 fl44 Tryz.zeroValue44 E.p0 rfl) (xv (mvI rfl) (X_st (v := .agg _) rfl rfl Tryz.sizeOf44 ?_))))
    refine xv (asI rfl) (XN (thenJ_normal (H_ret (thenJ_ret ?_))))
    exact ret_of rfl (resc2 2 rfl rfl rfl Tryz.isAgg44 Tryz.sizeOf44 rfl rfl) fun w' hw => ⟨(none, 0), rfl, (mem_nil.2 hw.1).nilRow 69 3 Itm.cells rfl⟩
  · have h1' : allErr f p (rs.map (·.r)) vs = 0 := by simpa using h1
    have hfl : fs.length ≤ n := by
      have h := (allR_perm h1').length_eq
      rw [← hfs, List.length_map, List.length_map, List.length_map] at h
      have := List.length_filter_le (fun r : Rd => !r.open_) (rs.map (·.r))
      rw [List.length_map] at this
      omega
    have hget : ∀ (k : Nat) (x : FX), fs[k]? = some x → (allR f p (rs.map (·.r)) vs)[k]? = some x.b := fun k x h => by rw [← hfs, List.getElem?_map, h]; rfl
    refine H_skip (thenJ_normal (H_seq (H_seq (R0 (xv (asI rfl) (XN (thenJ_normal (H_block (H_loop [11, 14, 28, 29, 30, 31, 32, 33, 34, 35, 36, 37, 38, 39, 40, 41, 42, 43, 44] (fun k : Nat => [(14, .int .i64 k)]) (fun _ => [faRow fA fc fs, bag (fs.flatMap faParts), box b10 44 ((zBil).cells none 0), box b6 28 (p.cells a), box b5 24 (f.cells fa)]) (fun k => k ≤ fs.length ∧ ∀ (j : Nat) (x : FX), j < k → fs[j]? = some x → x.b.ride ≠ id) (fun k => fs.length - k) 0 ⟨rfl, trivial⟩ (fun w hw => hw) rfl ⟨Nat.zero_le _, fun j x hj => by omega⟩ ?_)))))))))
    rintro k g ⟨hk, hall⟩
    refine H_seq (H_seq (R0 (xv (mvI rfl) (xv (mvS rfl) (xv (e_len Tryz.underlying38 (q0 rfl)) (xv (e_lt (q0 rfl) (q0 rfl)) (XN (thenJ_normal (H_cond rfl (fun hlt => ?_) (fun hlt => ?_))))))))))
    · have hlt' : k < fs.length := by simpa using hlt
      obtain ⟨x, hxk⟩ : ∃ x, fs[k]? = some x := ⟨_, List.getElem?_eq_getElem hlt'⟩
      refine H_know (fun w hw => rowT_at (j := 0) hw rfl (by omega)) fun ⟨fb, hfb⟩ => ?_
      subst hfb
      refine H_skip (thenJ_normal (H_seq (H_block (H_seq (R0 (xv (mvS rfl) (xv (mvI rfl) (xv (e_idx k Tryz.underlying38 Tryz.sizeOf44 (q0 rfl) (q0 rfl) (fun _ => ⟨rfl, hlt'⟩)) (xv (e_fld Tryz.underlying44 rfl Tryz.sizeOf3 rfl (q0 rfl)) ?_)))))))))
      refine xv (e_ld (v := .int .i64 x.b.ride) Tryz.isAgg3 (q0 rfl) (by exact rr (r := 0) 0 rfl hxk rfl)) ?_
      refine xv (mvI rfl) (xv (e_eq (q0 rfl) (q0 rfl)) (XN (thenJ_normal (H_cond rfl (fun h2 => ?_) (fun h2 => ?_)))))
      · have h2' : x.b.ride = id := of_decide_eq_true h2
        have hone : oneR f p (rs.map (·.r)) vs id = (x.b, 0) := one_hit h1' (hget k x hxk) h2' fun j d hj hd => by
          rw [← hfs, List.getElem?_map] at hd
          cases hq : fs[j]? with
          | none => rw [hq] at hd; cases hd
          | some y => rw [hq] at hd; cases hd; exact hall j y hj hq
        rw [hone]
        refine H_seq (R0 (xv (mvS rfl) (xv (mvI rfl) (xv (e_idx k Tryz.underlying38 Tryz.sizeOf44 (q0 rfl) (q0 rfl) (fun _ => ⟨rfl, hlt'⟩)) (xv (e_lds (vs := x.cells) Tryz.isAgg44 Tryz.sizeOf44 (q0 rfl) (by exact rrs 0 rfl hxk) rfl) ?_)))))
        refine X_st (v := .agg _) rfl rfl Tryz.sizeOf44 ?_
        refine xv (asI rfl) (XN (thenJ_normal (H_ret (blockJ_ret (thenJ_ret (loopJ_ret (blockJ_ret (thenJ_ret ?_))))))))
        exact ret_of rfl (resc2 2 rfl rfl rfl Tryz.isAgg44 Tryz.sizeOf44 rfl rfl) fun w' hw => ⟨(x.A, x.c), rfl, fa_front hw hxk⟩
      · have h2' : ¬ x.b.ride = id := of_decide_eq_false h2
        refine H_skip (blockJ_normal (thenJ_normal (R0 (xv (mvI rfl) (xv (e_add (q0 rfl) (q0 rfl) (fun _ => ⟨rfl, by omega, by omega⟩)) (xv (asI rfl) (XN ?_)))))))
        exact loopJ_normal (k + 1) agr ⟨rfl, trivial⟩ (fun w hw => hw) rfl ⟨by omega, fun j y hj hy => by
          by_cases hjk : j = k
          · subst hjk; rw [hxk] at hy; cases hy; exact h2'
          · exact hall j y (by omega) hy⟩ (by show fs.length - (k + 1) < fs.length - k; omega)
    · have hend : k = fs.length := by simp at hlt; omega
      have hmiss := one_miss (id := id) h1' fun d hd => by
        rw [← hfs] at hd
        obtain ⟨x, hx, rfl⟩ := List.mem_map.1 hd
        obtain ⟨j, hj⟩ := List.getElem?_of_mem hx
        exact hall j x (by have := (List.getElem?_eq_some_iff.1 hj).1; omega) hj
      rw [hmiss]
      refine H_exit (thenJ_exit (loopJ_exit (blockJ_hit (thenJ_normal (H_seq (H_seq (R0 (xv (asI rfl) (XN ?_)))))))))
      refine thenJ_normal (H_block (H_loop [11, 15, 45, 46, 47, 48, 49, 50, 51, 52, 53, 54, 55, 56, 57, 58] (fun k : Nat => [(15, .int .i64 k)]) (fun _ => [box b10 44 ((zBil).cells none 0)]) (fun k => k ≤ n ∧ ∀ x ∈ rs.take k, x.r.id ≠ id) (fun k => n - k) 0 ⟨rfl, trivial⟩ (fun w hw => hw.pick [2] (by decide)) rfl ⟨Nat.zero_le _, fun x hx => by simp at hx⟩ ?_))
      rintro i g2 ⟨hi, hno⟩
      refine H_seq (H_seq (R0 (xv (mvI rfl) (xv (mvS rfl) (xv (e_len Tryz.underlying36 (q0 rfl)) (xv (e_lt (q0 rfl) (q0 rfl)) (XN (thenJ_normal (H_cond rfl (fun hlt2 => ?_) (fun hlt2 => ?_))))))))))
      · have hlt2' : i < n := by simpa using hlt2
        obtain ⟨b, off, x, rfl, hbl, hxi, hrx⟩ := hr.1.at_ hlt2'
        refine H_skip (thenJ_normal (H_seq (H_block (H_seq (R0 (xv (mvS rfl) (xv (mvI rfl) (xv (e_idx _ Tryz.underlying36 Tryz.sizeOf54 (q0 rfl) (q0 rfl) (fun _ => ⟨rfl, by omega⟩)) (xv (e_fld Tryz.underlying54 rfl Tryz.sizeOf3 rfl (q0 rfl)) ?_)))))))))
        refine xv (e_ld (v := .int .i64 x.r.id) Tryz.isAgg3 (q0 rfl) (by exact rc0 hrx hbl rfl)) ?_
        refine xv (mvI rfl) (xv (e_eq (q0 rfl) (q0 rfl)) (XN (thenJ_normal (H_cond rfl (fun h3 => ?_) (fun h3 => ?_)))))
        · have h3' : x.r.id = id := of_decide_eq_true h3
          have han : ((rs.map (·.r)).any fun r => decide (r.id = id)) = true := List.any_eq_true.2 ⟨x.r, List.mem_map.2 ⟨x, List.mem_of_getElem? hxi, rfl⟩, by simp [h3']⟩
          rw [if_pos han]
          refine H_seq (R0 (xv (e_build Tryz.underlying44 fl44 Tryz.zeroValue44 E.p0 rfl) (X_st (v := .agg _) rfl rfl Tryz.sizeOf44 ?_)))
          refine xv (asI rfl) (XN (thenJ_normal (H_ret (blockJ_ret (thenJ_ret (loopJ_ret (blockJ_ret (thenJ_ret ?_))))))))
          exact ret_of rfl (resc2 0 rfl rfl rfl Tryz.isAgg44 Tryz.sizeOf44 rfl rfl) fun w' hw => ⟨(none, 0), rfl, (mem_nil.2 hw.1).nilRow 69 3 Itm.cells rfl⟩
        · have h3' : ¬ x.r.id = id := of_decide_eq_false h3
          refine H_skip (blockJ_normal (thenJ_normal (R0 (xv (mvI rfl) (xv (e_add (q0 rfl) (q0 rfl) (fun _ => ⟨rfl, by omega, by omega⟩)) (xv (asI rfl) (XN ?_)))))))
          exact loopJ_normal (i + 1) agr ⟨rfl, trivial⟩ (fun w hw => hw) rfl ⟨by omega, fun y hy => by
            rw [snocT _ _ _ hxi] at hy
            rcases List.mem_append.1 hy with hy | hy
            · exact hno y hy
            · simp at hy; subst hy; exact h3'⟩ (by show n - (i + 1) < n - i; omega)
      · have hend2 : i = n := by simp at hlt2; omega
        rw [hend2, ← hl, List.take_length] at hno
        have han : ((rs.map (·.r)).any fun r => decide (r.id = id)) = false := by
          rw [List.any_eq_false]
          intro r hr
          obtain ⟨x, hx, rfl⟩ := List.mem_map.1 hr
          simpa using hno x hx
        rw [if_neg (by rw [han]; decide)]
        refine H_exit (thenJ_exit (loopJ_exit (blockJ_hit (thenJ_normal (H_seq (R0 (xv (e_build Tryz.underlying44 fl44 Tryz.zeroValue44 E.p0 rfl) (X_st (v := .agg _) rfl rfl Tryz.sizeOf44 ?_))))))))
        refine xv (asI rfl) (XN (thenJ_normal (H_ret ?_)))
        exact ret_of rfl (resc2 0 rfl rfl rfl Tryz.isAgg44 Tryz.sizeOf44 rfl rfl) fun w' hw => ⟨(none, 0), rfl, (mem_nil.2 hw.1).nilRow 69 3 Itm.cells rfl⟩


end Go.Proofs.Far

/-
  The walks: the laws Items, Ones.
-/
namespace Go.Proofs.Far
open Go Go.RowKit Go.Proofs.E Go.Proofs.Cus Go.Proofs.Rid

attribute [local irreducible] allR allErr oneR fewB
set_option maxHeartbeats 1000000 in
set_option maxRecDepth 20000 in
theorem itemsLaw_w (f : Fl) (fa : FA) (p : Pr) (a : PrA) (A : Option Addr) (n c : Nat) (rs : List RX) (V : Option Addr) (m d : Nat) (vs : List Pen.V) (w : World) (hf : FlAt w f fa) (hp : PrAt w p a) (hr : RdsAt w A n rs) (hpl : ∀ x ∈ rs, x.r.pl ≤ 9223372036854775807) (hv : Pen.VsAt w V m vs) :
    Calls Tryz.prog 4 #[.agg (ctCells f fa p a).toArray, .slice A n c, .slice V m d] w fun e w' => e = .returned (.bool true) ∧ Bel w w' := by
  have hl := hr.1.1
  refine H_enter Tryz.func4 rfl Tryz.ntmps4 rfl (H_seq (R0 (X_box (v := .agg _) rfl rfl fun b3 => (xv (asB rfl) (XN (thenJ_normal (H_seq (H_seq (R0 ?_)))))))))
  refine xv (eS Tryz.isAgg30 Tryz.sizeOf30 (q0 rfl)) ?_
  refine xv (mvS rfl) (xv (mvS rfl) (xC (en Tryz.call11 (ha3 (q0 rfl) (q0 rfl) (q0 rfl))) (fun _ w hw => few_w f fa p a A n c rs V m d w (hr.mem hw)) rfl rfl (xv (e_not (q0 rfl)) (XN (thenJ_normal (H_cond rfl (fun h1 => ?_) (fun h1 => ?_)))))))
  · refine H_seq (R0 (xC (en Tryz.call14 (ha0)) (fun _ w _ => awake_w w) rfl rfl (xv (asB rfl) (XN (thenJ_normal (H_ret (thenJ_ret ?_)))))))
    exact ret1 (v := .bool _) rfl rfl rfl fun w' hw => ⟨rfl, hw.1⟩
  · have h1' : fewB n m fa a (rs.map (·.r)) = true := by simpa using h1
    obtain ⟨hn40, _, _⟩ := few_parts h1'
    obtain ⟨hs1, hs2⟩ := few_short h1'
    refine H_skip (thenJ_normal (H_seq (R0 (xv (e_fld Tryz.underlying30 rfl Tryz.sizeOf24 rfl (q0 rfl)) (xv (eP (vs := f.cells fa) Tryz.isAgg24 Tryz.sizeOf24 (q0 rfl) (bpv 0 rfl rfl rfl)) ?_)))))
    refine xv (e_fld Tryz.underlying30 rfl Tryz.sizeOf28 rfl (q0 rfl)) (xv (eP (vs := p.cells a) Tryz.isAgg28 Tryz.sizeOf28 (q0 rfl) (bpv 0 rfl rfl rfl)) ?_)
    refine xv (mvS rfl) (xv (mvS rfl) (xCX (en Tryz.call15 (ha4 (q0 rfl) (q0 rfl) (q0 rfl) (q0 rfl))) (fun w hw => all_w f fa p a A n c rs V m d vs w (hf.mem hw) (hp.mem hw) (hr.mem hw) hs1 (hv.mem hw) hpl) rfl (fun _ => rfl) fun z1 => ?_))
    obtain ⟨⟨fs, ⟨A1, c1⟩⟩, hfs⟩ := z1
    dsimp only at hfs ⊢
    refine xv (e_mv (q0 rfl)) (xv (e_ext (q0 rfl) rfl) (xv (e_ext (q0 rfl) rfl) (xv (asS rfl) (xv (asI rfl) (XN (thenJ_normal (H_seq (R0 (xv (e_fld Tryz.underlying30 rfl Tryz.sizeOf24 rfl (q0 rfl)) ?_)))))))))
    refine xv (eP (vs := f.cells fa) Tryz.isAgg24 Tryz.sizeOf24 (q0 rfl) (bpv 2 rfl rfl rfl)) ?_
    refine xv (e_fld Tryz.underlying30 rfl Tryz.sizeOf28 rfl (q0 rfl)) (xv (eP (vs := p.cells a) Tryz.isAgg28 Tryz.sizeOf28 (q0 rfl) (bpv 2 rfl rfl rfl)) ?_)
    refine xv (mvS rfl) (xv (mvS rfl) (xCX (en Tryz.call16 (ha4 (q0 rfl) (q0 rfl) (q0 rfl) (q0 rfl))) (fun w hw => rall_w f fa p a A n c rs V m d vs w (hf.mem hw) (hp.mem hw) (hr.mem hw) hs2 (hv.mem hw) hpl) rfl (fun _ => rfl) fun z2 => ?_))
    obtain ⟨⟨gs, ⟨A2, c2⟩⟩, hgs⟩ := z2
    dsimp only at hgs ⊢
    have hrl : (rs.map (·.r)).length ≤ 100000 := by rw [List.length_map]; omega
    refine xv (e_mv (q0 rfl)) (xv (e_ext (q0 rfl) rfl) (xv (e_ext (q0 rfl) rfl) (xv (asS rfl) (xv (asI rfl) (XN (thenJ_normal (H_seq (R0 (xv (mvS rfl) ?_)))))))))
    refine xv (mvS rfl) (xC (en Tryz.call17 (ha2 (q0 rfl) (q0 rfl))) (fun _ w hw => rsame_w A1 fs.length c1 fs A2 gs.length c2 gs w (fas_at hfs hrl hw (j := 2) (k := 3) rfl rfl) (fas_at hgs hrl hw (j := 0) (k := 1) rfl rfl)) rfl rfl (xv (mvB rfl) (xt (mvI rfl) rfl rfl (xt (mvI rfl) rfl rfl (xt (e_eq (q1 rfl) (q1 rfl)) rfl rfl (xv (e_and (q0 rfl) rfl (fun h => by first | rfl | (rw [h]; rfl))) ?_))))))
    refine xv (mvB rfl) (xCT (en Tryz.call14 (ha0)) (fun _ w _ => awake_w w) rfl rfl rfl rfl (xv (e_and (q0 rfl) rfl (fun h => by first | rfl | (rw [h]; rfl))) ?_))
    refine xv (asB rfl) (XN (thenJ_normal (H_ret ?_)))
    exact ret1 (v := .bool _) rfl rfl rfl fun w' hw => ⟨ret_bool (by rw [hfs, hgs]; simp), hw.1⟩
set_option maxHeartbeats 1000000 in
set_option maxRecDepth 20000 in
theorem onesLaw_w (f : Fl) (fa : FA) (p : Pr) (a : PrA) (A : Option Addr) (n c : Nat) (rs : List RX) (id : Int) (w : World) (hf : FlAt w f fa) (hp : PrAt w p a) (hr : RdsAt w A n rs) (hpl : ∀ x ∈ rs, x.r.pl ≤ 9223372036854775807) :
    Calls Tryz.prog 5 #[.agg (ctCells f fa p a).toArray, .slice A n c, .int .i64 id] w fun e w' => e = .returned (.bool true) ∧ Bel w w' := by
  have hl := hr.1.1
  refine H_enter Tryz.func5 rfl Tryz.ntmps5 rfl (H_seq (R0 (X_box (v := .agg _) rfl rfl fun b3 => (xv (asB rfl) (XN (thenJ_normal (H_seq (H_seq (R0 ?_)))))))))
  refine xv (eS Tryz.isAgg30 Tryz.sizeOf30 (q0 rfl)) ?_
  refine xv (mvS rfl) (xC (en Tryz.call11 (ha3 (q0 rfl) (q0 rfl) (q0 rfl))) (fun _ w hw => few_w f fa p a A n c rs none 0 0 w (hr.mem hw)) rfl rfl (xv (e_not (q0 rfl)) (XN (thenJ_normal (H_cond rfl (fun h1 => ?_) (fun h1 => ?_))))))
  · refine H_seq (R0 (xC (en Tryz.call14 (ha0)) (fun _ w _ => awake_w w) rfl rfl (xv (asB rfl) (XN (thenJ_normal (H_ret (thenJ_ret ?_)))))))
    exact ret1 (v := .bool _) rfl rfl rfl fun w' hw => ⟨rfl, hw.1⟩
  · have h1' : fewB n 0 fa a (rs.map (·.r)) = true := by simpa using h1
    obtain ⟨hs1, hs2⟩ := few_short h1'
    obtain ⟨o, ho⟩ : ∃ o, o = oneR f p (rs.map (·.r)) [] id := ⟨_, rfl⟩
    have hit : o.1.items.length ≤ 7 := by rw [ho]; exact oneR_items
    have hO1 : ∀ {L : List E.Item} (w' : World), Mem w L w' → Calls Tryz.prog 18 #[.agg (f.cells fa).toArray, .agg (p.cells a).toArray, .slice A n c, .slice none 0 0, .int .i64 id] w' fun e w'' => ∃ z : Option Addr × Nat, e = .returned (.tuple #[.agg (o.1.cells z.1 z.2).toArray, .int .i64 o.2]) ∧ Mem w' [itRow z.1 z.2 o.1.items] w'' := fun w' hw => by
      have h := one_w f fa p a A n c rs none 0 0 [] id w' (hf.mem hw) (hp.mem hw) (hr.mem hw) hs1 (slAt_nil w' 4 Pen.V.cells) hpl
      rw [← ho] at h
      exact h
    have hO2 : ∀ {L : List E.Item} (w' : World), Mem w L w' → Calls Tryz.prog 19 #[.agg (f.cells fa).toArray, .agg (p.cells a).toArray, .slice A n c, .slice none 0 0, .int .i64 id] w' fun e w'' => ∃ z : Option Addr × Nat, e = .returned (.tuple #[.agg (o.1.cells z.1 z.2).toArray, .int .i64 o.2]) ∧ Mem w' [itRow z.1 z.2 o.1.items] w'' := fun w' hw => by
      have h := rone_fare_w f fa p a A n c rs none 0 0 [] id w' (hf.mem hw) (hp.mem hw) (hr.mem hw) hs2 (slAt_nil w' 4 Pen.V.cells) hpl
      rw [← ho] at h
      exact h
    clear ho
    obtain ⟨ob, oe⟩ := o
    simp only at hit hO1 hO2
    refine H_skip (thenJ_normal (H_seq (R0 (xv (e_fld Tryz.underlying30 rfl Tryz.sizeOf24 rfl (q0 rfl)) (xv (eP (vs := f.cells fa) Tryz.isAgg24 Tryz.sizeOf24 (q0 rfl) (bpv 0 rfl rfl rfl)) ?_)))))
    refine xv (e_fld Tryz.underlying30 rfl Tryz.sizeOf28 rfl (q0 rfl)) (xv (eP (vs := p.cells a) Tryz.isAgg28 Tryz.sizeOf28 (q0 rfl) (bpv 0 rfl rfl rfl)) ?_)
    refine xv (mvS rfl) (xv (mvI rfl) (xCX (en (al := [.agg (f.cells fa).toArray, .agg (p.cells a).toArray, .slice A n c, .slice none 0 0, .int .i64 id]) Tryz.call18 (fun _ => rfl)) (fun w hw => hO1 w hw) rfl (fun _ => rfl) fun z1 => (xv (e_mv (q0 rfl)) (xv (e_ext (q0 rfl) rfl) (xv (e_ext (q0 rfl) rfl) (X_alloc Tryz.zeroValue44 rfl fun b7 => (X_st (v := .agg _) rfl rfl Tryz.sizeOf44 ?_)))))))
    refine xv (asI rfl) (XN (thenJ_normal (H_seq (R0 (xv (e_fld Tryz.underlying30 rfl Tryz.sizeOf24 rfl (q0 rfl)) (xv (eP (vs := f.cells fa) Tryz.isAgg24 Tryz.sizeOf24 (q0 rfl) (bpv 2 rfl rfl rfl)) ?_))))))
    refine xv (e_fld Tryz.underlying30 rfl Tryz.sizeOf28 rfl (q0 rfl)) (xv (eP (vs := p.cells a) Tryz.isAgg28 Tryz.sizeOf28 (q0 rfl) (bpv 2 rfl rfl rfl)) ?_)
    refine xv (mvS rfl) (xv (mvI rfl) (xCX (en (al := [.agg (f.cells fa).toArray, .agg (p.cells a).toArray, .slice A n c, .slice none 0 0, .int .i64 id]) Tryz.call19 (fun _ => rfl)) (fun w hw => hO2 w hw) rfl (fun _ => rfl) fun z2 => (xv (e_mv (q0 rfl)) (xv (e_ext (q0 rfl) rfl) (xv (e_ext (q0 rfl) rfl) (X_alloc Tryz.zeroValue44 rfl fun b9 => (X_st (v := .agg _) rfl rfl Tryz.sizeOf44 ?_)))))))
    refine xv (asI rfl) (XN (thenJ_normal (H_seq (H_mem (L' := [box b9 44 (ob.cells z2.1 z2.2), itRow z2.1 z2.2 ob.items, box b7 44 (ob.cells z1.1 z1.2), itRow z1.1 z1.2 ob.items]) (fun w hw => hw.pick [0, 1, 2, 3] (by decide)) rfl (R0 (xv (e_lds (vs := ob.cells z1.1 z1.2) Tryz.isAgg44 Tryz.sizeOf44 (q0 rfl) (bxs 2 rfl) rfl) (xv (e_lds (vs := ob.cells z2.1 z2.2) Tryz.isAgg44 Tryz.sizeOf44 (q0 rfl) (bxs 0 rfl) rfl) (xC (en Tryz.call20 (ha2 (q0 rfl) (q0 rfl))) (fun _ w hw => same_t ob z1.1 z2.1 z1.2 z2.2 w (slAt_row hw (j := 3) rfl (fun _ => rfl) (by omega)) (slAt_row hw (j := 1) rfl (fun _ => rfl) (by omega))) rfl rfl (xv (mvB rfl) ?_)))))))))
    refine xt (mvI rfl) rfl rfl (xt (mvI rfl) rfl rfl (xt (e_eq (q1 rfl) (q1 rfl)) rfl rfl (xv (e_and (q0 rfl) rfl (fun h => by first | rfl | (rw [h]; rfl))) ?_)))
    refine xv (mvB rfl) (xCT (en Tryz.call14 (ha0)) (fun _ w _ => awake_w w) rfl rfl rfl rfl (xv (e_and (q0 rfl) rfl (fun h => by first | rfl | (rw [h]; rfl))) ?_))
    refine xv (asB rfl) (XN (thenJ_normal (H_ret ?_)))
    exact ret1 (v := .bool _) rfl rfl rfl fun w' hw => ⟨ret_bool (by simp), hw.1⟩

end Go.Proofs.Far
