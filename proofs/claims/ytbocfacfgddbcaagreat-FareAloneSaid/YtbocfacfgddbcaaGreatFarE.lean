import Derived.Test.YtbocfacfgddbcaaGreatFarEb
import Derived.Test.YtbocfacfgddbcaaGreatFarD
import Derived.Test.YtbocfacfgddbcaaGreatFarC
import Derived.Test.YtbocfacfgddbcaaGreatFarB
import Derived.Test.YtbocfacfgddbcaaGreatFarA
set_option linter.unusedVariables false
set_option linter.unusedSimpArgs false
/-
  The walks: what pass.Use checks; the pass that is valid for a ride.
-/
namespace Go.Proofs.Far
open Go Go.RowKit Go.Proofs.E Go.Proofs.Cus Go.Proofs.Rid

/-- rides that are right, each with its own number -/
structure Good (rs : List Rd) : Prop where
  ok : ∀ r ∈ rs, checkR r = 0
  ids : twiceI [] (rs.map (·.id)) = false
  few : rs.length ≤ 256
theorem len_ok {r : Rd} (h : checkR r = 0) : r.legs.length ≤ 1000000 ∧ r.pauses.length ≤ 1000000 := by
  have := checkR_parts h
  omega
set_option maxHeartbeats 1000000 in
set_option maxRecDepth 20000 in
theorem pchecked_w (A : Option Addr) (n c : Nat) (ps : List Pas) (B : Option Addr) (m d : Nat) (rs : List RX) (w : World) (hp : PassAt w A n ps) (hr : RdsAt w B m rs) (hpe : pasErr ps = 0) (hg : Good (rs.map (·.r))) : Calls Tryz.prog 90 #[.slice A n c, .slice B m d] w fun e w' => e = .returned (.int .i64 0) ∧ Bel w w' := by
  have hl := hr.1.1
  have hn := hr.1.2.1
  have hfew := hg.few
  rw [List.length_map] at hfew
  refine H_enter Tryz.func90 rfl Tryz.ntmps90 rfl (H_seq (R0 (xv (asI rfl) (XN (thenJ_normal (H_seq (H_seq (R0 (xv (mvS rfl) ?_)))))))))
  refine xC (en Tryz.call31 (ha1 (q0 rfl))) (fun _ w hw => pcheck_w A n c ps w (hp.mem hw)) rfl rfl ?_
  rw [hpe]
  refine xv (asI rfl) (XN (thenJ_normal (H_seq (R0 (xv (mvI rfl) (xv (e_ne (q0 rfl) (q0 rfl)) (XN (thenJ_normal (H_cond rfl (fun h1 => ?_) (fun h1 => ?_))))))))))
  · exfalso; simp at h1
  · refine H_skip (thenJ_normal (H_seq (H_seq (R0 (xv (mvS rfl) (xv (e_len Tryz.underlying36 (q0 rfl)) (xv (e_gt (q0 rfl) (q0 rfl)) (XN (thenJ_normal ?_)))))))))
    refine H_cond rfl (fun h2 => ?_) (fun h2 => ?_)
    · exfalso; simp at h2; omega
    · refine H_skip (thenJ_normal (H_seq (H_seq (R0 (xv (mvS rfl) (xv (e_len Tryz.underlying36 (q0 rfl)) (xv (mvI rfl) (XN (thenJ_normal ?_)))))))))
      refine H_block (H_loop [4, 7, 8, 22, 23, 24, 25, 26, 27, 28, 29, 30, 31] (fun k : Nat => [(22, .int .i64 k)]) (fun _ => []) (fun k => k ≤ m) (fun k => m - k) 0 ⟨rfl, trivial⟩ (fun w hw => hw) rfl (Nat.zero_le _) ?_)
      rintro k g hk
      refine H_seq (R0 (xv (e_lt (q0 rfl) (q0 rfl)) (XN (thenJ_normal (H_seq (H_cond rfl (fun hlt => ?_) (fun hlt => ?_)))))))
      · have hlt' : k < m := by simpa using hlt
        obtain ⟨b, off, x, rfl, hbl, hxk, hrx⟩ := hr.1.at_ hlt'
        have hxm := List.mem_of_getElem? hxk
        have hc : checkR x.r = 0 := hg.ok x.r (List.mem_map.2 ⟨x, hxm, rfl⟩)
        refine H_skip (thenJ_normal (H_seq (H_block (H_seq (R0 (xv (e_idx _ Tryz.underlying36 Tryz.sizeOf54 (q0 rfl) (q0 rfl) (fun _ => ⟨rfl, by omega⟩)) (xv (eS Tryz.isAgg54 Tryz.sizeOf54 (q0 rfl)) ?_)))))))
        refine X_alloc Tryz.zeroValue54 rfl fun b7 => (X_st (v := .agg _) rfl rfl Tryz.sizeOf54 ?_)
        refine XN (thenJ_normal (H_seq (R0 (xv (eS Tryz.isAgg54 Tryz.sizeOf54 (q0 rfl)) ?_))))
        refine xC (en Tryz.call86 (ha1 (q0 rfl))) (fun _ w hw => rcheck_w x w ((hr.2 x hxm).mem hw) (len_ok hc).1 (len_ok hc).2) rfl rfl ?_
        rw [hc]
        refine xv (asI rfl) (XN (thenJ_normal (H_seq (R0 (xv (mvI rfl) (xv (e_ne (q0 rfl) (q0 rfl)) (XN (thenJ_normal (H_cond rfl (fun h3 => ?_) (fun h3 => ?_))))))))))
        · exfalso; simp at h3
        · refine H_skip (blockJ_normal (thenJ_normal (R0 (xv (e_add (q0 rfl) (q0 rfl) (fun _ => ⟨rfl, by omega, by omega⟩)) (xv (mvI rfl) (XN ?_))))))
          exact loopJ_normal (k + 1) agr ⟨rfl, trivial⟩ (fun w hw => hw.tail) rfl (by show k + 1 ≤ m; omega) (by show m - (k + 1) < m - k; omega)
      · obtain ⟨ids, hids⟩ : ∃ ids : List Int, ids = (rs.map (·.r)).map (·.id) := ⟨_, rfl⟩
        have hidl : ids.length = m := by rw [hids, List.length_map, List.length_map, hl]
        have htw : twiceI (ids.take 0) (ids.drop 0) = false := by rw [hids]; exact hg.ids
        refine H_exit (thenJ_exit (loopJ_exit (blockJ_hit (thenJ_normal (H_seq (R0 (X_makeMap rfl fun bm => (xv (e_as (v := .map _) (q0 rfl)) (XN ?_)))))))))
        refine thenJ_normal (H_seq (H_seq (R0 (xv (mvS rfl) (xv (e_len Tryz.underlying36 (q0 rfl)) (xv (mvI rfl) (XN (thenJ_normal (H_block ?_)))))))))
        refine H_loop [4, 11, 35, 36, 37, 38, 39, 40, 41, 42, 43, 44, 45, 46] (fun k : Nat => [(35, .int .i64 k)]) (fun k => [imap bm (keysI (ids.take k))]) (fun k => k ≤ m ∧ twiceI (ids.take 0) (ids.drop 0) = twiceI (ids.take k) (ids.drop k)) (fun k => m - k) 0 ⟨rfl, trivial⟩ (fun _ h => h) rfl ⟨Nat.zero_le _, rfl⟩ ?_
        rintro k2 g2 ⟨hk2, hp2⟩
        refine H_seq (R0 (xv (e_lt (q0 rfl) (q0 rfl)) (XN (thenJ_normal (H_seq (H_cond rfl (fun hlt2 => ?_) (fun hlt2 => ?_)))))))
        · have hlt2' : k2 < m := by simpa using hlt2
          obtain ⟨b, off, x, rfl, hbl, hxk, hrx⟩ := hr.1.at_ hlt2'
          have hik : ids[k2]? = some x.r.id := by rw [hids]; simp [hxk]
          refine H_skip (thenJ_normal (H_seq (H_block (H_seq (R0 (xv (e_idx _ Tryz.underlying36 Tryz.sizeOf54 (q0 rfl) (q0 rfl) (fun _ => ⟨rfl, by omega⟩)) (xv (eS Tryz.isAgg54 Tryz.sizeOf54 (q0 rfl)) ?_)))))))
          refine X_alloc Tryz.zeroValue54 rfl fun b11 => (X_st (v := .agg _) rfl rfl Tryz.sizeOf54 ?_)
          refine XN (thenJ_normal (H_seq (H_seq (R0 (xv (e_mv (v := .map _) (q0 rfl)) (xv (e_fld Tryz.underlying54 rfl Tryz.sizeOf3 rfl (q0 rfl)) (xv (eL Tryz.isAgg3 (q0 rfl)) ?_)))))))
          refine xv (e_look 1 Tryz.underlying129 Tryz.underlying3 Tryz.zeroValue4 (q0 rfl) (q0 rfl) rfl (fun _ => look_keysI _ _)) (XN (thenJ_normal (H_cond rfl (fun h4 => ?_) (fun h4 => ?_))))
          · exfalso
            rw [htw, twice_yes hik h4] at hp2
            cases hp2
          · have hst := twice_next hik h4
            refine H_skip (thenJ_normal (R0 (xv (e_mv (v := .map _) (q0 rfl)) (xv (e_fld Tryz.underlying54 rfl Tryz.sizeOf3 rfl (q0 rfl)) (xv (eL Tryz.isAgg3 (q0 rfl)) ?_)))))
            refine X_mapset 1 Tryz.underlying129 Tryz.underlying3 rfl rfl rfl rfl (XN (blockJ_normal (thenJ_normal (R0 (xv (e_add (q0 rfl) (q0 rfl) (fun _ => ⟨rfl, by omega, by omega⟩)) (xv (mvI rfl) (XN (loopJ_normal (k2 + 1) agr ⟨rfl, trivial⟩ (fun w hw => ?_) rfl ⟨by omega, by rw [hp2, hst]⟩ (by show m - (k2 + 1) < m - k2; omega)))))))))
            have := hw.tail
            rw [snocT _ _ _ hik, ← mput_keysI _ _ h4]
            exact this
        · refine H_exit (thenJ_exit (loopJ_exit (blockJ_hit (thenJ_normal (H_seq (R0 (xv (asI rfl) (XN (thenJ_normal ?_)))))))))
          refine H_ret ?_
          exact ret1 (v := .int _ _) rfl rfl rfl fun w' hw => ⟨rfl, hw.1⟩

/-! which pass -/
def reqR (r : Rd) : Rq := ⟨r.rider, r.start.lo / 86400⟩
theorem pday_w (x : RX) (w : World) (h : checkR x.r = 0) : Calls Tryz.prog 142 #[.agg x.cells.toArray] w fun e w' => e = .returned (.int .i64 (x.r.start.lo / 86400)) ∧ Bel w w' := by
  have hs := spOk_iff.1 (checkR_parts h).1
  refine H_enter Tryz.func142 rfl Tryz.ntmps142 rfl (H_seq (R0 (X_box (v := .agg _) rfl rfl fun b1 => (xv (asI rfl) (XN (thenJ_normal (H_seq (R0 (xv (e_fld Tryz.underlying54 rfl Tryz.sizeOf50 rfl (q0 rfl)) ?_)))))))))
  refine xv (e_fld Tryz.underlying50 rfl Tryz.sizeOf3 rfl (q0 rfl)) (xv (eL Tryz.isAgg3 (q0 rfl)) ?_)
  refine xv (e_quo (q0 rfl) (q0 rfl) (fun _ => ⟨by omega, by omega, by omega⟩)) (xv (asI rfl) (XN (thenJ_normal (H_ret ?_))))
  exact ret1 (v := .int _ _) rfl rfl rfl fun w' hw => ⟨rfl, hw.1⟩
theorem pvalid_w (p : Pas) (d : Int) (w : World) : Calls Tryz.prog 141 #[.agg p.cells.toArray, .int .i64 d] w fun e w' => e = .returned (.bool (decide (p.from_ ≤ d) && decide (d < p.to_))) ∧ Bel w w' := by
  refine H_enter Tryz.func141 rfl Tryz.ntmps141 rfl (H_seq (R0 (X_box (v := .agg _) rfl rfl fun b2 => (xv (asB rfl) (XN (thenJ_normal (H_seq (R0 (xv (e_fld Tryz.underlying81 rfl Tryz.sizeOf79 rfl (q0 rfl)) ?_)))))))))
  refine xv (e_fld Tryz.underlying79 rfl Tryz.sizeOf3 rfl (q0 rfl)) (xv (eL Tryz.isAgg3 (q0 rfl)) ?_)
  refine xv (mvI rfl) (xv (e_le (q0 rfl) (q0 rfl)) (xv (mvB rfl) (xt (mvI rfl) rfl rfl (xt (e_fld Tryz.underlying81 rfl Tryz.sizeOf79 rfl (q0 rfl)) rfl rfl (xt (e_fld Tryz.underlying79 rfl Tryz.sizeOf3 rfl (q1 rfl)) rfl rfl (xt (eL Tryz.isAgg3 (q1 rfl)) rfl rfl ?_))))))
  refine xt (e_lt (q1 rfl) (q1 rfl)) rfl rfl (xv (e_and (q0 rfl) rfl (fun h => by first | rfl | (rw [h]; rfl))) ?_)
  refine xv (asB rfl) (XN (thenJ_normal (H_ret ?_)))
  exact ret1 (v := .bool _) rfl rfl rfl fun w' hw => ⟨rfl, hw.1⟩
set_option maxRecDepth 20000 in
theorem use2_w (p : Pas) (x : RX) (b : Nat) (w : World) (hb : RowAt w b 0 x.cells) (hbl : b < w.heap.size) (h : checkR x.r = 0) : Calls Tryz.prog 140 #[.agg p.cells.toArray, .pointer (some ⟨b, 0, none⟩)] w fun e w' => e = .returned (.bool (validP p (reqR x.r))) ∧ Bel w w' := by
  refine H_enter Tryz.func140 rfl Tryz.ntmps140 rfl (H_seq (R0 (X_box (v := .agg _) rfl rfl fun b2 => (xv (asB rfl) (XN (thenJ_normal (H_seq (R1 rfl (by decide +kernel) (xv (e_fld Tryz.underlying81 rfl Tryz.sizeOf3 rfl (q0 rfl)) ?_)))))))))
  refine xv (eL Tryz.isAgg3 (q0 rfl)) ?_
  refine xv (e_fld Tryz.underlying54 rfl Tryz.sizeOf3 rfl (q0 rfl)) (xv (e_ld (v := .int .i64 x.r.rider) Tryz.isAgg3 (q0 rfl) (rc (j := 1) hb hbl rfl)) (xv (e_eq (q0 rfl) (q0 rfl)) (xv (mvB rfl) (xt (eS Tryz.isAgg81 Tryz.sizeOf81 (q0 rfl)) rfl rfl ?_))))
  refine xt (e_lds (vs := x.cells) Tryz.isAgg54 Tryz.sizeOf54 (q0 rfl) (fun _ w hw j u hu => by have := rcs (w0 := _) hb hbl rfl w hw j u hu; exact this) rfl) rfl rfl (xCT (en Tryz.call142 (ha1 (q1 (v := .agg _) rfl))) (fun _ w _ => pday_w x w h) rfl rfl rfl rfl (xCT (en Tryz.call141 (ha2 (q1 (v := .agg _) rfl) (q1 (v := .int _ _) rfl))) (fun _ w _ => pvalid_w p (x.r.start.lo / 86400) w) rfl rfl rfl rfl (xv (e_and (q0 rfl) rfl (fun h => by first | rfl | (rw [h]; rfl))) ?_)))
  refine xv (asB rfl) (XN (thenJ_normal (H_ret ?_)))
  exact ret1 (v := .bool _) rfl rfl rfl fun w' hw => ⟨rfl, hw.1⟩
theorem pindex_w (A : Option Addr) (n c : Nat) (ps : List Pas) (x : RX) (b : Nat) (w : World) (hx : PassAt w A n ps) (hb : RowAt w b 0 x.cells) (hbl : b < w.heap.size) (h : checkR x.r = 0) : Calls Tryz.prog 139 #[.slice A n c, .func (.func 140) #[] #[.pointer (some ⟨b, 0, none⟩)]] w fun e w' => e = .returned (.int .i64 (firstV ps (reqR x.r))) ∧ Bel w w' := by
  have hl := hx.1
  have hn := hx.2.1
  refine H_enter Tryz.func139 rfl Tryz.ntmps139 rfl (H_seq (R0 (xv (asI rfl) (XN (thenJ_normal (H_seq (H_seq (R0 (xv (mvS rfl) ?_)))))))))
  refine xv (e_len Tryz.underlying26 (q0 rfl)) (xv (mvI rfl) (XN (thenJ_normal (H_block (H_loop [4, 5, 8, 9, 10, 11, 12, 13, 14, 15, 16, 17, 18] (fun k : Nat => [(8, .int .i64 k)]) (fun _ => []) (fun k => k ≤ n ∧ (List.range k).find? (fun k => validP (ps.getD k default) (reqR x.r)) = none) (fun k => n - k) 0 ⟨rfl, trivial⟩ (fun w hw => hw) rfl ⟨Nat.zero_le _, rfl⟩ ?_)))))
  rintro k g ⟨hk, hall⟩
  refine H_seq (R0 (xv (e_lt (q0 rfl) (q0 rfl)) (XN (thenJ_normal (H_seq (H_cond rfl (fun hlt => ?_) (fun hlt => ?_)))))))
  · have hlt' : k < n := by simpa using hlt
    obtain ⟨pb, off, p, rfl, hpbl, hpk, hrp⟩ := hx.at_ hlt'
    have hpd : ps.getD k default = p := by rw [List.getD_eq_getElem?_getD, hpk]; rfl
    refine H_skip (thenJ_normal (H_seq (H_block (H_seq (R0 (xv (mvI rfl) (xv (asI rfl) (XN (thenJ_normal ?_)))))))))
    refine H_seq (R0 (xv (e_mv (q0 rfl)) (xv (mvS rfl) (xv (mvI rfl) (xv (e_idx _ Tryz.underlying26 Tryz.sizeOf81 (q0 rfl) (q0 rfl) (fun _ => ⟨rfl, by omega⟩)) (xv (eS Tryz.isAgg81 Tryz.sizeOf81 (q0 rfl)) ?_))))))
    refine xC (enV (cap := [.pointer (some ⟨b, 0, none⟩)]) (al := [.agg p.cells.toArray, .pointer (some ⟨b, 0, none⟩)]) Tryz.call140 (q0 rfl) (fun hg => by rw [ha1 (q0 (v := .agg _) rfl) hg]; rfl)) (fun _ w hw => use2_w p x b w (fun j u hu => rcs hb hbl rfl w hw j u hu) (Nat.lt_of_lt_of_le hbl hw.1.size) h) rfl rfl (XN (thenJ_normal (H_cond rfl (fun hv => ?_) (fun hv => ?_))))
    · have hv' : validP p (reqR x.r) = true := hv
      have hf : (List.range n).find? (fun k => validP (ps.getD k default) (reqR x.r)) = some k := by
        obtain ⟨j, rfl⟩ : ∃ j, n = k + 1 + j := ⟨n - (k + 1), by omega⟩
        rw [List.range_add, List.range_succ, List.find?_append, List.find?_append, hall]
        simp [hpk, hv']
      rw [show firstV ps (reqR x.r) = (k : Int) by unfold firstV; rw [hl, hf]]
      refine H_seq (R0 (xv (mvI rfl) (xv (asI rfl) (XN (thenJ_normal (H_ret (blockJ_ret (thenJ_ret (loopJ_ret ?_)))))))))
      refine blockJ_ret (thenJ_ret ?_)
      exact ret1 (v := .int _ _) rfl rfl rfl fun w' hw => ⟨rfl, hw.1⟩
    · have hv' : validP p (reqR x.r) = false := hv
      refine H_skip (blockJ_normal (thenJ_normal (R0 (xv (e_add (q0 rfl) (q0 rfl) (fun _ => ⟨rfl, by omega, by omega⟩)) (xv (mvI rfl) (XN ?_))))))
      exact loopJ_normal (k + 1) agr ⟨rfl, trivial⟩ (fun w hw => hw) rfl ⟨by omega, by rw [List.range_succ, List.find?_append, hall]; simp [hpk, hv']⟩ (by show n - (k + 1) < n - k; omega)
  · have hend : k = n := by simp at hlt; omega
    subst hend
    rw [show firstV ps (reqR x.r) = -1 by unfold firstV; rw [hl, hall]]
    refine H_exit (thenJ_exit (loopJ_exit (blockJ_hit (thenJ_normal (H_seq (R0 (xv (asI rfl) (XN (thenJ_normal ?_)))))))))
    refine H_ret ?_
    exact ret1 (v := .int _ _) rfl rfl rfl fun w' hw => ⟨rfl, hw.1⟩

end Go.Proofs.Far

/-
  The walks: pass.Use of rides that are in their order.
-/
namespace Go.Proofs.Far
open Go Go.RowKit Go.Proofs.E Go.Proofs.Cus Go.Proofs.Rid

theorem fl183 {fs : Array Field} (h : Tryz.prog.underlying 183 = some (.struct fs) := by exact Tryz.underlying183) : FieldsLie Tryz.prog fs [(0, 1), (1, 1)] := by
  rw [Tryz.underlying183] at h
  cases h
  intro w
  kernel_rfl
theorem keyT : KeyK Tryz.prog 183 := KeyK.struct Tryz.underlying183 (by kernel_rfl) ⟨by decide, rfl, Tryz.isAgg3, ⟨_, Tryz.underlying3⟩, by decide, rfl, Tryz.isAgg3, ⟨_, Tryz.underlying3⟩, trivial⟩ rfl
def mkI (n k : Nat) : List Int := idl k ++ List.replicate (n - k) 0
theorem mkI_zero (n : Nat) : mkI n 0 = List.replicate n 0 := rfl
theorem mkI_full (n : Nat) : mkI n n = idl n := by unfold mkI; simp
theorem idl_succ (k : Nat) : idl (k + 1) = idl k ++ [(k : Int)] := by unfold idl; rw [List.range_succ, List.map_append]; rfl
theorem mkI_len {n k : Nat} (h : k ≤ n) : (mkI n k).length = n := by unfold mkI; rw [List.length_append, idl_len, List.length_replicate]; omega
theorem mkI_get {n k : Nat} (h : k < n) : (mkI n k)[k]? = some 0 := by
  unfold mkI
  rw [List.getElem?_append_right (by rw [idl_len]; exact Nat.le_refl _), idl_len, Nat.sub_self, List.getElem?_replicate, if_pos (by omega)]
theorem mkI_set {n k : Nat} (h : k < n) : (mkI n k).set k (k : Int) = mkI n (k + 1) := by
  unfold mkI
  rw [List.set_append_right _ _ (by rw [idl_len]; exact Nat.le_refl _), idl_len, Nat.sub_self]
  obtain ⟨m, hm⟩ : ∃ m, n - k = m + 1 := ⟨n - k - 1, by omega⟩
  rw [hm, List.replicate_succ, List.set_cons_zero, show n - (k + 1) = m by omega, idl_succ]
  simp
attribute [local irreducible] mkI OU US
set_option maxHeartbeats 2000000 in
set_option maxRecDepth 20000 in
theorem puse_w (A : Option Addr) (n c : Nat) (l : List Pas) (B : Option Addr) (m d : Nat) (rs : List RX) (w : World) (hp : PassAt w A n l) (hr : RdsAt w B m rs) (hpe : pasErr l = 0) (hg : Good (rs.map (·.r))) (hs : rs.Pairwise fun x y => rideLt x.r y.r = true) :
    Calls Tryz.prog 91 #[.slice A n c, .slice B m d] w fun e w' => ∃ z : Nat, e = .returned (.slice (some ⟨z, 0, none⟩) m m) ∧ Mem w [intRow (some ⟨z, 0, none⟩) m (useS l (rs.map fun x => reqR x.r)).1] w' := by
  have hpl := hp.1
  have hl := hr.1.1
  have hfew := hg.few
  rw [List.length_map] at hfew
  have hn64 : n ≤ 64 := by
    unfold pasErr at hpe
    split at hpe
    · cases hpe
    · omega
  obtain ⟨qs, hqs⟩ : ∃ qs : List Rq, qs = rs.map fun x => reqR x.r := ⟨_, rfl⟩
  have hql : qs.length = m := by rw [hqs, List.length_map, hl]
  rw [← hqs]
  refine H_enter Tryz.func91 rfl Tryz.ntmps91 rfl (H_seq (R0 (X_box (v := .slice _ _ _) rfl rfl fun b3 => (xv (asS rfl) (XN (thenJ_normal (H_seq (R0 (xv (eL Tryz.isAgg36 (q0 rfl)) ?_)))))))))
  refine xv (e_len Tryz.underlying36 (q0 rfl)) (X_eff (f_make (i := Tryz.t3) (k := 1) (n := m) (m := m) encInt (0 : Int) Tryz.underlying22 (by kernel_rfl) rfl rfl rfl rfl rfl ⟨⟨Nat.le_refl _, by omega⟩, by decide⟩ rfl fun b16 => (xv (asS rfl) (XN (thenJ_normal (H_seq (H_seq (R0 (xv (mvS rfl) (xv (e_len Tryz.underlying22 (q0 rfl)) ?_))))))))))
  refine xv (mvI rfl) (XN (thenJ_normal (H_block (H_loop [6, 19, 20, 21, 22, 23, 24, 25, 26] (fun k : Nat => [(19, .int .i64 k)]) (fun k => [intRow (some ⟨b16, 0, none⟩) m (mkI m k), box b3 36 [.slice B m d]]) (fun k => k ≤ m) (fun k => m - k) 0 ⟨rfl, trivial⟩ (fun w hw => by rw [mkI_zero]; exact hw) rfl (Nat.zero_le _) ?_))))
  rintro k g hk
  refine H_seq (R0 (xv (e_lt (q0 rfl) (q0 rfl)) (XN (thenJ_normal (H_seq (H_cond rfl (fun hlt => ?_) (fun hlt => ?_)))))))
  · have hlt' : k < m := by
      have h : (k : Int) < (((List.replicate m (0 : Int)).length : Nat) : Int) := by first | exact of_decide_eq_true hlt | (simp at hlt ⊢; omega)
      simp at h; omega
    have hget := mkI_get hlt'
    have hml := mkI_len (n := m) hk
    refine H_skip (thenJ_normal (H_seq (H_block (H_seq (R0 (xv (mvI rfl) (xv (asI rfl) (XN (thenJ_normal ?_)))))))))
    refine R0 (xv (mvS rfl) (xv (mvI rfl) (xv (mvI rfl) (xv (e_idx k Tryz.underlying22 Tryz.sizeOf3 (q0 rfl) (q0 rfl) (fun _ => ⟨rfl, by first | exact hlt' | (simp; omega)⟩)) ?_))))
    refine X_eff (f_storeR0 0 (k := 1) (enc := encInt) (k : Int) rfl rfl Tryz.sizeOf3 rfl rfl rfl hget rfl rfl (XN (blockJ_normal (thenJ_normal (R0 (xv (e_add (q0 rfl) (q0 rfl) (fun _ => ⟨rfl, by omega, by omega⟩)) (xv (mvI rfl) (XN ?_))))))))
    exact loopJ_normal (k + 1) agr ⟨rfl, trivial⟩ (fun w hw => by rw [← mkI_set hlt']; exact hw) rfl (by show k + 1 ≤ m; omega) (by show m - (k + 1) < m - k; omega)
  · have hend : k = m := by
      have h : ¬ (k : Int) < (m : Int) := by first | exact of_decide_eq_false hlt | (simp at hlt ⊢; omega)
      omega
    subst hend
    rw [mkI_full]
    refine H_exit (thenJ_exit (loopJ_exit (blockJ_hit (thenJ_normal (H_seq (R0 (xv (mvS rfl) (xV e_fn rfl rfl (X_eff (f_callM (en Tryz.call137 (ha2 (q0 rfl) (q0 rfl))) (fun w hw => sortId_w hw (j := 0) (q := 1) rfl rfl (by decide) hr hs (by omega)) rfl (fun _ => rfl) fun u => ?_))))))))))
    refine XN (thenJ_normal (H_seq (R0 (xv (eL Tryz.isAgg36 (q0 rfl)) ?_))))
    refine xv (e_len Tryz.underlying36 (q0 rfl)) (X_eff (f_make (i := Tryz.t3) (k := 1) (n := k) (m := k) encInt (0 : Int) Tryz.underlying22 (by kernel_rfl) rfl rfl rfl rfl rfl ⟨⟨Nat.le_refl _, by omega⟩, by decide⟩ rfl fun b32 => (X_eff (f_makeK rfl fun mb => (xv (asS rfl) (xv (e_as (v := .map _) (q0 rfl)) (XN (thenJ_normal (H_seq (H_seq (R0 ?_)))))))))))
    refine xv (mvS rfl) (xv (e_len Tryz.underlying22 (q0 rfl)) (xv (mvI rfl) (XN (thenJ_normal (H_block (H_loop [10, 11, 12, 13, 36, 37, 38, 39, 40, 41, 42, 43, 44, 45, 46, 47, 48, 49, 50, 51, 52, 53, 54, 55, 56, 57, 58, 59, 60, 61, 62, 63, 64, 65, 66, 67, 68, 69, 70, 71, 72, 73, 74, 75, 76, 77, 78, 79, 80, 81, 82, 83, 84, 85, 86, 87, 88, 89, 90, 91, 92, 93, 94, 95, 96, 97, 98, 99, 100, 101, 102, 103, 104, 105, 106, 107, 108, 109, 110, 111, 112, 113, 114] (fun q : Nat × List ((Int × Int) × Value) => [(36, .int .i64 q.1)]) (fun q => [kmap mb q.2, intRow (some ⟨b32, 0, none⟩) k (OU l qs q.1), intRow (some ⟨b16, 0, none⟩) k (idl k), box b3 36 [.slice B k d]]) (fun q => q.1 ≤ k ∧ MP q.2 (US l qs q.1).2) (fun q => k - q.1) (0, []) ⟨rfl, trivial⟩ (fun w hw => by unfold OU US; rw [hql]; exact hw) rfl ⟨Nat.zero_le _, by unfold US; exact MP.nil⟩ ?_))))))
    rintro ⟨i, mps⟩ g2 ⟨hi, hMP⟩
    simp only at hi hMP
    refine H_seq (R0 (xv (e_lt (q0 rfl) (q0 rfl)) (XN (thenJ_normal (H_seq (H_cond rfl (fun hlt2 => ?_) (fun hlt2 => ?_)))))))
    · have hlt2' : i < k := by
        have h : (i : Int) < (k : Int) := by first | exact of_decide_eq_true hlt2 | (simp at hlt2 ⊢; omega)
        omega
      obtain ⟨rb, off, x, rfl, hrbl, hxi, hrx⟩ := hr.1.at_ hlt2'
      have hxm := List.mem_of_getElem? hxi
      have hc : checkR x.r = 0 := hg.ok x.r (List.mem_map.2 ⟨x, hxm, rfl⟩)
      have hqi : qs[i]? = some (reqR x.r) := by rw [hqs]; simp [hxi]
      have hidg := idl_get hlt2'
      have hog := OU_get (l := l) (qs := qs) (k := i) (by omega)
      have hol := OU_len (l := l) (qs := qs) (k := i) (by omega)
      have hset := OU_set (l := l) (k := i) (by omega) hqi
      have hsucc := US_succ (l := l) hqi
      have hus := US_snd l qs i
      obtain ⟨fv, hfv⟩ : ∃ fv, fv = firstV l (reqR x.r) := ⟨_, rfl⟩
      have hcs := firstV_cases l (reqR x.r)
      rw [← hfv] at hcs
      refine H_skip (thenJ_normal (H_seq (H_block (H_seq (R0 (xv (e_idx i Tryz.underlying22 Tryz.sizeOf3 (q0 rfl) (q0 rfl) (fun _ => ⟨rfl, by first | exact hlt2' | (simp; omega)⟩)) ?_))))))
      refine xv (e_ld (v := .int .i64 i) Tryz.isAgg3 (q0 rfl) (by exact rr0 2 (k := 1) (enc := encInt) rfl hidg rfl)) ?_
      refine xv (asI rfl) (XN (thenJ_normal (H_seq (R0 (xv (eL Tryz.isAgg36 (q0 rfl)) ?_)))))
      refine xv (mvI rfl) (xv (e_idx i Tryz.underlying36 Tryz.sizeOf54 (q0 rfl) (q0 rfl) (fun _ => ⟨rfl, hlt2'⟩)) (xv (e_lds (vs := x.cells) Tryz.isAgg54 Tryz.sizeOf54 (q0 rfl) (rcs hrx hrbl) rfl) (X_alloc Tryz.zeroValue54 rfl fun b11 => (X_st (v := .agg _) rfl rfl Tryz.sizeOf54 ?_))))
      refine XN (thenJ_normal (H_seq (R0 (xv (mvS rfl) (xv (mvI rfl) (xv (mvS rfl) (xV e_fn rfl rfl (xC (v := .int .i64 fv) (en (al := [.slice A n c, .func (.func 140) #[] #[.pointer (some ⟨b11, 0, none⟩)]]) Tryz.call139 (ha2 (q0 (v := .slice _ _ _) rfl) (q0 rfl))) (fun _ w hw => by rw [hfv]; exact pindex_w A n c l x b11 w (hp.mem hw) (fun j u hu => by rw [Nat.zero_add]; exact box_cell hw (k := 0) rfl hu) (hw.itemLt (k := 0) rfl rfl).2 hc) rfl rfl (xv (e_idx i Tryz.underlying22 Tryz.sizeOf3 (q0 rfl) (q0 rfl) (fun _ => ⟨rfl, by first | exact hlt2' | (simp; omega)⟩)) ?_)))))))))
      refine X_eff (f_storeR0 2 (k := 1) (enc := encInt) fv rfl rfl Tryz.sizeOf3 rfl rfl rfl hog rfl rfl (XN (thenJ_normal (H_seq (R0 (xv (mvS rfl) (xv (mvI rfl) (xv (e_idx i Tryz.underlying22 Tryz.sizeOf3 (q0 rfl) (q0 rfl) (fun _ => ⟨rfl, by first | exact hlt2' | (simp; omega)⟩)) ?_))))))))
      refine xv (e_ld (v := .int .i64 fv) Tryz.isAgg3 (q0 rfl) (by exact rr0 2 (k := 1) (enc := encInt) rfl (List.getElem?_set_self (by first | omega | (simp only; omega))) rfl)) ?_
      refine xv (asI rfl) (XN (thenJ_normal (H_cut [12, 13, 54, 55, 56, 57, 58, 59, 60, 61, 62, 63, 64, 65, 66, 67, 68, 69, 70, 71, 72, 73, 74, 75, 76, 77, 78, 79, 80, 81, 82, 83, 84, 85, 86, 87, 88, 89, 90, 91, 92, 93, 94, 95, 96, 97, 98, 99, 100, 101, 102, 103, 104, 105, 106, 107, 108, 109, 110, 111, 112, 113] (fun _ : List ((Int × Int) × Value) => []) (fun ps => [box b11 54 x.cells, kmap mb ps, intRow (some ⟨b32, 0, none⟩) k (OU l qs (i + 1)), intRow (some ⟨b16, 0, none⟩) k (idl k), box b3 36 [.slice (some ⟨rb, off, none⟩) k d]]) (fun ps => MP ps (US l qs (i + 1)).2) ?_ ?_)))
      · refine H_block ?_
        refine H_loop [12, 13, 54, 55, 56, 57, 58, 59, 60, 61, 62, 63, 64, 65, 66, 67, 68, 69, 70, 71, 72, 73, 74, 75, 76, 77, 78, 79, 80, 81, 82, 83, 84, 85, 86, 87, 88, 89, 90, 91, 92, 93, 94, 95, 96, 97, 98, 99, 100, 101, 102, 103, 104, 105, 106, 107, 108, 109, 110, 111, 112, 113] (fun v : Int => [(12, .int .i64 v)]) (fun v => [box b11 54 x.cells, kmap mb mps, intRow (some ⟨b32, 0, none⟩) k ((OU l qs i).set i (if v = (n : Int) then -1 else fv)), intRow (some ⟨b16, 0, none⟩) k (idl k), box b3 36 [.slice (some ⟨rb, off, none⟩) k d]]) (fun v => (v = -1 ∧ fv = -1 ∧ ∀ j, j < l.length → condP l (US l qs i).2 (reqR x.r) j = false) ∨ ∃ j : Nat, v = (j : Int) ∧ j ≤ n ∧ ∀ j', j' < j → condP l (US l qs i).2 (reqR x.r) j' = false) (fun v => n - v.toNat) fv ⟨rfl, trivial⟩ (fun w hw => by
          have hne : ¬ fv = (n : Int) := by rcases hcs with ⟨h, _⟩ | ⟨j, hj, h, _⟩ <;> omega
          rw [if_neg hne]; exact hw) rfl (by
          rcases hcs with ⟨h, hh⟩ | ⟨j, hj, h, hh⟩
          · exact .inl ⟨h, h, fun q hq => cond_invalid (hh q hq)⟩
          · exact .inr ⟨j, h, by omega, fun q hq => cond_invalid (hh q hq)⟩) ?_
        rintro v g3 hv
        refine H_seq (H_seq (R0 (xv (mvI rfl) (xv (e_ge (q0 rfl) (q0 rfl)) (xv (mvB rfl) (xt (mvI rfl) rfl rfl (xt (mvS rfl) rfl rfl (xt (e_len Tryz.underlying26 (q1 rfl)) rfl rfl (xt (e_lt (q1 rfl) (q1 rfl)) rfl rfl ?_)))))))))
        refine xv (e_and (q0 rfl) rfl (fun h => by first | rfl | (rw [h]; rfl))) ?_
        refine XN (thenJ_normal (H_cond rfl (fun h3 => ?_) (fun h3 => ?_)))
        · have h3' : 0 ≤ v ∧ v < n := by
            have h : (decide ((0 : Int) ≤ v) && decide (v < (n : Int))) = true := h3
            simpa using h
          obtain ⟨j, rfl, hjn, hjb⟩ : ∃ j : Nat, v = (j : Int) ∧ j ≤ n ∧ ∀ j', j' < j → condP l (US l qs i).2 (reqR x.r) j' = false := by
            rcases hv with ⟨h, _⟩ | h
            · omega
            · exact h
          have hjn' : j < n := by omega
          rw [if_neg (by omega)]
          obtain ⟨pb, poff, p, rfl, hpbl, hpj, hrp⟩ := hp.at_ hjn'
          have hpd : l.getD j default = p := by rw [List.getD_eq_getElem?_getD, hpj]; rfl
          have hlk := hMP j (x.r.start.lo / 86400)
          have hcond : condP l (US l qs i).2 (reqR x.r) j = ((decide (p.rider = x.r.rider) && (decide (p.from_ ≤ x.r.start.lo / 86400) && decide (x.r.start.lo / 86400 < p.to_))) && decide (((paidN (US l qs i).2 j (x.r.start.lo / 86400) : Nat) : Int) < p.perDay)) := by
            unfold condP; rw [hpd]; rfl
          have hpn := paidN_le (US l qs i).2 j (x.r.start.lo / 86400)
          refine H_skip (thenJ_normal (H_seq (H_block (H_seq (R0 (xv (mvI rfl) (xv (eS Tryz.isAgg54 Tryz.sizeOf54 (q0 rfl)) ?_)))))))
          refine xC (en Tryz.call142 (ha1 (q0 rfl))) (fun _ w _ => pday_w x w hc) rfl rfl (xv (e_build Tryz.underlying183 fl183 Tryz.zeroValue183 (pt (v := .int _ _) rfl (pt (v := .int _ _) rfl E.p0)) rfl) (X_alloc Tryz.zeroValue183 rfl fun b13 => (X_st (v := .agg _) rfl rfl Tryz.sizeOf183 ?_)))
          refine XN (thenJ_normal (H_seq (H_seq (R1 rfl (by decide +kernel) (xv (mvS rfl) (xv (mvI rfl) (xv (e_idx j Tryz.underlying26 Tryz.sizeOf81 (q0 rfl) (q0 rfl) (fun _ => ⟨rfl, hjn'⟩)) (xv (e_fld Tryz.underlying81 rfl Tryz.sizeOf3 rfl (q0 rfl)) (xv (e_ld (v := .int .i64 p.rider) Tryz.isAgg3 (q0 rfl) (by exact rc (j := 1) hrp hpbl rfl)) ?_)))))))))
          refine xv (e_fld Tryz.underlying54 rfl Tryz.sizeOf3 rfl (q0 rfl)) (xv (eL Tryz.isAgg3 (q0 rfl)) ?_)
          refine xv (e_eq (q0 rfl) (q0 rfl)) (xv (mvB rfl) (xt (mvS rfl) rfl rfl (xt (mvI rfl) rfl rfl (xt (e_idx j Tryz.underlying26 Tryz.sizeOf81 (q1 rfl) (q1 rfl) (fun _ => ⟨rfl, hjn'⟩)) rfl rfl (xt (e_lds (vs := p.cells) Tryz.isAgg81 Tryz.sizeOf81 (q1 rfl) (rcs hrp hpbl) rfl) rfl rfl (xt (e_fld Tryz.underlying183 rfl Tryz.sizeOf3 rfl (q0 rfl)) rfl rfl (xt (eL Tryz.isAgg3 (q1 rfl)) rfl rfl ?_)))))))
          refine xCT (en Tryz.call141 (ha2 (q1 (v := .agg _) rfl) (q1 (v := .int _ _) rfl))) (fun _ w _ => pvalid_w p (x.r.start.lo / 86400) w) rfl rfl rfl rfl (xv (e_and (q0 rfl) rfl (fun h => by first | rfl | (rw [h]; rfl))) ?_)
          refine xv (mvB rfl) (xt (e_mv (v := .map _) (q0 rfl)) rfl rfl (xt (eS Tryz.isAgg183 Tryz.sizeOf183 (q0 rfl)) rfl rfl ?_))
          refine xt (e_lookK (key := ((j : Int), x.r.start.lo / 86400)) 2 keyT Tryz.underlying178 Tryz.zeroValue3 (q1 rfl) (q1 rfl) rfl (fun _ => hlk)) rfl rfl (xt (mvS rfl) rfl rfl (xt (mvI rfl) rfl rfl (xt (e_idx j Tryz.underlying26 Tryz.sizeOf81 (q1 rfl) (q1 rfl) (fun _ => ⟨rfl, hjn'⟩)) rfl rfl (xt (e_fld Tryz.underlying81 rfl Tryz.sizeOf3 rfl (q1 rfl)) rfl rfl (xt (e_ld (v := .int .i64 p.perDay) Tryz.isAgg3 (q1 rfl) (by exact rc (j := 4) hrp hpbl rfl)) rfl rfl ?_)))))
          refine xt (e_lt (q1 rfl) (q1 rfl)) rfl rfl (xv (e_and (q0 rfl) rfl (fun h => by first | rfl | (rw [h]; rfl))) ?_)
          refine XN (thenJ_normal (H_cond rfl (fun h4 => ?_) (fun h4 => ?_)))
          · have h4' : condP l (US l qs i).2 (reqR x.r) j = true := by rw [hcond]; exact h4
            have hpick := pick_at (by omega) h4' hjb
            refine H_seq (H_mem (L' := [kmap mb mps, box b13 183 [.int .i64 j, .int .i64 (x.r.start.lo / 86400)], box b11 54 x.cells, intRow (some ⟨b32, 0, none⟩) k ((OU l qs i).set i fv), intRow (some ⟨b16, 0, none⟩) k (idl k), box b3 36 [.slice (some ⟨rb, off, none⟩) k d]]) (fun w hw => hw.pick [2, 0, 1, 3, 4, 5] (by decide)) rfl (H_cut [96, 97, 98, 99, 100, 101] (fun _ : Unit => []) (fun _ => [kmap mb (kput mps ((j : Int), x.r.start.lo / 86400) (.int .i64 (((paidN (US l qs i).2 j (x.r.start.lo / 86400) : Nat) : Int) + 1))), box b13 183 [.int .i64 j, .int .i64 (x.r.start.lo / 86400)], box b11 54 x.cells, intRow (some ⟨b32, 0, none⟩) k ((OU l qs i).set i fv), intRow (some ⟨b16, 0, none⟩) k (idl k), box b3 36 [.slice (some ⟨rb, off, none⟩) k d]]) (fun _ => True) ?_ ?_))
            · refine RAd 1 rfl (by decide +kernel) (aV 0 (by decide +kernel) rfl (e_mv (v := .map _) (q0 rfl)) rfl (aV 1 (by decide +kernel) rfl (eS Tryz.isAgg183 Tryz.sizeOf183 (q0 rfl)) rfl ?_))
              refine rdy2 (i := 2) (j := 4) (by decide +kernel) (sub_drop 1) ?_ ?_
              · (first | refine aL rfl (f_ev (e_lookK (key := ((j : Int), x.r.start.lo / 86400)) 0 keyT Tryz.underlying178 Tryz.zeroValue3 (q0 rfl) (q0 rfl) rfl (fun _ => hlk)) rfl rfl ?_) | refine aL rfl (f_ev (e_lookKP (key := ((j : Int), x.r.start.lo / 86400)) 0 keyT Tryz.underlying178 Tryz.zeroValue3 (q0 rfl) (q0 rfl) rfl (fun _ => (hpz.trans hlk))) rfl rfl ?_))
                refine aV 3 (by decide +kernel) rfl (e_add (r := ((paidN (US l qs i).2 j (x.r.start.lo / 86400) : Nat) : Int) + 1) (q0 rfl) (q0 rfl) (fun _ => ⟨rfl, by omega, by omega⟩)) rfl (rdy1 (i := 4) (by decide +kernel) (sub_drop 1) (aL rfl (f_entryK (key := ((j : Int), x.r.start.lo / 86400)) 0 keyT Tryz.underlying178 Tryz.zeroValue3 rfl rfl rfl rfl fun born ps' hps hpz => (aV 5 (by decide +kernel) rfl (e_ext (q0 rfl) rfl) rfl (rdy1 (i := 6) (by decide +kernel) (sub_drop 1) (aL rfl (f_storeK 0 rfl rfl rfl rfl hps (aZ (by decide +kernel) (sub_drop 1) ?_))))))))
                exact cutJ_normal () agr trivial (fun w hw => hw) rfl trivial
              · refine aL rfl (f_entryK (key := ((j : Int), x.r.start.lo / 86400)) 0 keyT Tryz.underlying178 Tryz.zeroValue3 rfl rfl rfl rfl fun born ps' hps hpz => (aV 5 (by decide +kernel) rfl (e_ext (q0 rfl) rfl) rfl (rdy1 (i := 2) (by decide +kernel) (sub_drop 1) ?_)))
                (first | refine aL rfl (f_ev (e_lookK (key := ((j : Int), x.r.start.lo / 86400)) 0 keyT Tryz.underlying178 Tryz.zeroValue3 (q0 rfl) (q0 rfl) rfl (fun _ => hlk)) rfl rfl ?_) | refine aL rfl (f_ev (e_lookKP (key := ((j : Int), x.r.start.lo / 86400)) 0 keyT Tryz.underlying178 Tryz.zeroValue3 (q0 rfl) (q0 rfl) rfl (fun _ => (hpz.trans hlk))) rfl rfl ?_))
                refine aV 3 (by decide +kernel) rfl (e_add (r := ((paidN (US l qs i).2 j (x.r.start.lo / 86400) : Nat) : Int) + 1) (q0 rfl) (q0 rfl) (fun _ => ⟨rfl, by omega, by omega⟩)) rfl (rdy1 (i := 6) (by decide +kernel) (sub_drop 1) (aL rfl (f_storeK 0 rfl rfl rfl rfl hps (aZ (by decide +kernel) (sub_drop 1) ?_))))
                exact cutJ_normal () agr trivial (fun w hw => hw) rfl trivial
            · intro _ g5 _
              refine thenJ_normal (H_seq (R0 (xv (mvS rfl) (xv (mvI rfl) (xv (mvI rfl) (xv (e_idx i Tryz.underlying22 Tryz.sizeOf3 (q0 rfl) (q0 rfl) (fun _ => ⟨rfl, by first | exact hlt2' | (simp; omega)⟩)) ?_))))))
              refine X_eff (f_storeR0 3 (k := 1) (enc := encInt) (j : Int) rfl rfl Tryz.sizeOf3 rfl rfl rfl (List.getElem?_set_self (by omega)) rfl rfl ?_)
              refine XN (thenJ_normal (H_exit (thenJ_exit (blockJ_pass rfl (thenJ_exit (loopJ_exit (blockJ_hit ?_)))))))
              obtain ⟨ps2, hps2⟩ : ∃ ps2, ps2 = kput mps ((j : Int), x.r.start.lo / 86400) (.int .i64 (((paidN (US l qs i).2 j (x.r.start.lo / 86400) : Nat) : Int) + 1)) := ⟨_, rfl⟩
              rw [← hps2]
              refine cutJ_normal ps2 agr trivial (fun w hw => ?_) rfl ?_
              · have h6 := hw.pick [2, 0, 3, 4, 5] (by decide)
                rw [hpick] at hset
                rw [← hset, ← set_set_same fv]
                exact h6
              · rw [hsucc]
                unfold useStep
                rw [hpick, if_pos (by omega), hps2]
                exact hMP.put _ _
          · have h4' : condP l (US l qs i).2 (reqR x.r) j = false := by rw [hcond]; exact h4
            have hinv : ∀ j', j' < j + 1 → condP l (US l qs i).2 (reqR x.r) j' = false := fun j' hj' => by
              rcases Nat.lt_succ_iff_lt_or_eq.1 hj' with h | h
              · exact hjb j' h
              · rw [h]; exact h4'
            refine H_skip (thenJ_normal (H_seq (R0 (xv (mvI rfl) (xv (mvS rfl) (xv (e_len Tryz.underlying26 (q0 rfl)) (xv (e_sub (q0 rfl) (q0 rfl) (fun _ => ⟨rfl, by omega, by omega⟩)) (xv (e_eq (q0 rfl) (q0 rfl)) (XN ?_)))))))))
            refine thenJ_normal (H_cond rfl (fun h5 => ?_) (fun h5 => ?_))
            · have h5' : j + 1 = n := by
                have h : ((j : Nat) : Int) = ((n : Nat) : Int) - 1 := of_decide_eq_true h5
                omega
              refine R0 (xv (mvS rfl) (xv (mvI rfl) (xv (e_idx i Tryz.underlying22 Tryz.sizeOf3 (q0 rfl) (q0 rfl) (fun _ => ⟨rfl, by first | exact hlt2' | (simp; omega)⟩)) ?_)))
              refine X_eff (f_storeR0 3 (k := 1) (enc := encInt) (-1) rfl rfl Tryz.sizeOf3 rfl rfl rfl (List.getElem?_set_self (by omega)) rfl rfl ?_)
              refine XN (blockJ_normal (thenJ_normal (R0 (xv (mvI rfl) (xv (e_add (q0 rfl) (q0 rfl) (fun _ => ⟨rfl, by omega, by omega⟩)) (xv (asI rfl) (XN (loopJ_normal (((j + 1 : Nat) : Int)) agr ⟨rfl, trivial⟩ (fun w hw => ?_) rfl (.inr ⟨j + 1, rfl, by omega, hinv⟩) (by show n - ((j + 1 : Nat) : Int).toNat < n - ((j : Nat) : Int).toNat; omega)))))))))
              rw [if_pos (by rw [h5']), ← set_set_same fv]
              exact hw.tail
            · have h5' : ¬ j + 1 = n := by
                have h : ¬ ((j : Nat) : Int) = ((n : Nat) : Int) - 1 := of_decide_eq_false h5
                omega
              refine H_skip (blockJ_normal (thenJ_normal (R0 (xv (mvI rfl) (xv (e_add (q0 rfl) (q0 rfl) (fun _ => ⟨rfl, by omega, by omega⟩)) (xv (asI rfl) (XN (loopJ_normal (((j + 1 : Nat) : Int)) agr ⟨rfl, trivial⟩ (fun w hw => ?_) rfl (.inr ⟨j + 1, rfl, by omega, hinv⟩) (by show n - ((j + 1 : Nat) : Int).toNat < n - ((j : Nat) : Int).toNat; omega)))))))))
              rw [if_neg (by omega)]
              exact hw.tail
        · have hpick : pickP l (US l qs i).2 (reqR x.r) = -1 ∧ (if v = (n : Int) then -1 else fv) = -1 := by
            have h3' : ¬ (0 ≤ v ∧ v < n) := by
              have h : (decide ((0 : Int) ≤ v) && decide (v < (n : Int))) = false := h3
              simpa using h
            rcases hv with ⟨h, h5, h6⟩ | ⟨j, h, h5, h6⟩
            · exact ⟨pick_none h6, by rw [if_neg (by omega)]; exact h5⟩
            · have : j = n := by omega
              subst this
              exact ⟨pick_none fun q hq => h6 q (by omega), by rw [if_pos h]⟩
          refine H_exit (thenJ_exit (loopJ_exit (blockJ_hit (cutJ_normal mps agr trivial (fun w hw => ?_) rfl ?_))))
          · rw [hpick.2] at hw
            rw [hpick.1] at hset
            rw [← hset]; exact hw
          · rw [hsucc]
            unfold useStep
            rw [hpick.1]
            exact hMP
      · rintro ps2 g4 hMP2
        refine blockJ_normal (thenJ_normal (R0 (xv (e_add (q0 rfl) (q0 rfl) (fun _ => ⟨rfl, by omega, by omega⟩)) (xv (mvI rfl) (XN ?_)))))
        exact loopJ_normal (i + 1, ps2) agr ⟨rfl, trivial⟩ (fun w hw => hw.tail) rfl ⟨by simp only; omega, hMP2⟩ (by simp only; omega)
    · have hend2 : i = k := by
        have h : ¬ (i : Int) < (k : Int) := by first | exact of_decide_eq_false hlt2 | (simp at hlt2 ⊢; omega)
        omega
      subst hend2
      have hfull : OU l qs i = (useS l qs).1 := by
        unfold OU US
        rw [hql, Nat.sub_self, List.take_of_length_le (by omega)]; simp
      rw [hfull]
      refine H_exit (thenJ_exit (loopJ_exit (blockJ_hit (thenJ_normal (H_seq (R0 (xv (mvS rfl) (xv (asS rfl) (XN ?_)))))))))
      refine thenJ_normal (H_ret ?_)
      exact ret1 (v := .slice _ _ _) rfl rfl rfl fun w' hw => ⟨b32, rfl, hw.pick [1] (by decide)⟩

end Go.Proofs.Far

/-
  Plain functions: what is paid of a day's amounts, step by step; its bounds.
-/
namespace Go.Proofs.Far
open Go Go.Proofs.E

def dayStep (limit : Int) (l : List (Dy × Int)) (x : Dy) : List (Dy × Int) := l ++ [(x, payD limit l x)]
theorem dayS_eq (limit : Int) (xs : List Dy) : dayS limit xs = xs.foldl (dayStep limit) [] := rfl
def DS (limit : Int) (xs : List Dy) (k : Nat) : List (Dy × Int) := (xs.take k).foldl (dayStep limit) []
theorem DS_succ {limit : Int} {xs : List Dy} {k : Nat} {x : Dy} (h : xs[k]? = some x) : DS limit xs (k + 1) = DS limit xs k ++ [(x, payD limit (DS limit xs k) x)] := by
  unfold DS
  rw [List.take_add_one, h, List.foldl_append]; rfl
theorem DS_len (limit : Int) (xs : List Dy) : ∀ k, k ≤ xs.length → (DS limit xs k).length = k
  | 0, _ => rfl
  | k + 1, h => by
    obtain ⟨x, hx⟩ : ∃ x, xs[k]? = some x := ⟨_, List.getElem?_eq_getElem (by omega)⟩
    rw [DS_succ hx, List.length_append, DS_len limit xs k (by omega)]; rfl
theorem sumD_snoc (l : List (Dy × Int)) (x : Dy) (p r d : Int) : sumD (l ++ [(x, p)]) r d = sumD l r d + if x.rider = r ∧ x.day = d then p else 0 := by
  unfold sumD
  rw [List.filter_append, List.map_append, List.sum_append]
  by_cases h : x.rider = r ∧ x.day = d
  · rw [if_pos h]
    have : (x.rider == r && x.day == d) = true := by simp [h]
    simp [this]
  · rw [if_neg h]
    have : (x.rider == r && x.day == d) = false := by
      cases hb : (x.rider == r && x.day == d) with
      | false => rfl
      | true => simp at hb; exact absurd hb h
    simp [this]
structure DOk (limit : Int) (l : List (Dy × Int)) : Prop where
  pay : ∀ y ∈ l, 0 ≤ y.2 ∧ y.2 ≤ y.1.amount
  most : 0 < limit → ∀ r d, sumD l r d ≤ limit
  sum : ∀ r d, 0 ≤ sumD l r d ∧ sumD l r d ≤ 1000000000000 * (l.length : Int)
theorem DOk.nil {limit : Int} (h : 0 ≤ limit) : DOk limit [] := ⟨fun y hy => (by cases hy), fun _ r d => by unfold sumD; simpa using h, fun r d => by unfold sumD; simp⟩
theorem payD_range {limit : Int} {l : List (Dy × Int)} (h : DOk limit l) {x : Dy} (hx : 0 ≤ x.amount ∧ x.amount ≤ 1000000000000) : 0 ≤ payD limit l x ∧ payD limit l x ≤ x.amount ∧ (0 < limit → payD limit l x ≤ limit - sumD l x.rider x.day) := by
  unfold payD
  by_cases hl : 0 < limit
  · rw [if_pos hl]
    have := h.most hl x.rider x.day
    omega
  · rw [if_neg hl]; omega
theorem DOk.step {limit : Int} {l : List (Dy × Int)} (h : DOk limit l) {x : Dy} (hx : 0 ≤ x.amount ∧ x.amount ≤ 1000000000000) : DOk limit (l ++ [(x, payD limit l x)]) := by
  obtain ⟨h1, h2, h3⟩ := payD_range h hx
  refine ⟨fun y hy => ?_, fun hl r d => ?_, fun r d => ?_⟩
  · rcases List.mem_append.1 hy with hy | hy
    · exact h.pay y hy
    · simp at hy; subst hy; exact ⟨h1, h2⟩
  · rw [sumD_snoc]
    split
    · rename_i hb
      obtain ⟨rfl, rfl⟩ := hb
      have := h3 hl
      omega
    · have := h.most hl r d; omega
  · rw [sumD_snoc, List.length_append]
    have := h.sum r d
    simp only [List.length_cons, List.length_nil]
    split <;> omega
theorem DS_ok {limit : Int} {xs : List Dy} (hl : 0 ≤ limit) (hx : ∀ x ∈ xs, 0 ≤ x.amount ∧ x.amount ≤ 1000000000000) : ∀ k, k ≤ xs.length → DOk limit (DS limit xs k)
  | 0, _ => DOk.nil hl
  | k + 1, h => by
    obtain ⟨x, hxk⟩ : ∃ x, xs[k]? = some x := ⟨_, List.getElem?_eq_getElem (by omega)⟩
    rw [DS_succ hxk]
    exact (DS_ok hl hx k (by omega)).step (hx x (List.mem_of_getElem? hxk))
/-- the map of what was paid -/
def DP (ps : List ((Int × Int) × Value)) (l : List (Dy × Int)) : Prop := ∀ r d : Int, (klook ps (r, d)).getD (.int .i64 0) = .int .i64 (sumD l r d)
theorem DP.nil : DP [] [] := fun _ _ => rfl
theorem DP.put {ps : List ((Int × Int) × Value)} {l : List (Dy × Int)} (h : DP ps l) (x : Dy) (p : Int) : DP (kput ps (x.rider, x.day) (.int .i64 (sumD l x.rider x.day + p))) (l ++ [(x, p)]) := fun r d => by
  rw [klook_put, sumD_snoc]
  by_cases he : (x.rider, x.day) = (r, d)
  · rw [if_pos he]
    cases he
    simp
  · rw [if_neg he, h r d, if_neg (fun hh => he (by rw [hh.1, hh.2])), Int.add_zero]

end Go.Proofs.Far

/-
  The walks: pass.Use, daycap.Apply.
-/
namespace Go.Proofs.Far
open Go Go.RowKit Go.Proofs.E Go.Proofs.Cus Go.Proofs.Rid

theorem pUse_w (A : Option Addr) (n c : Nat) (l : List Pas) (B : Option Addr) (m d : Nat) (rs : List RX) (w : World) (hp : PassAt w A n l) (hr : RdsAt w B m rs) (hpe : pasErr l = 0) (hg : Good (rs.map (·.r))) (hs : rs.Pairwise fun x y => rideLt x.r y.r = true) :
    Calls Tryz.prog 47 #[.slice A n c, .slice B m d] w fun e w' => ∃ z : Nat, e = .returned (.tuple #[.slice (some ⟨z, 0, none⟩) m m, .int .i64 0]) ∧ Mem w [intRow (some ⟨z, 0, none⟩) m (useS l (rs.map fun x => reqR x.r)).1] w' := by
  refine H_enter Tryz.func47 rfl Tryz.ntmps47 rfl (H_seq (R0 (xv (asS rfl) (xv (asI rfl) (XN (thenJ_normal (H_seq (H_seq (R0 ?_)))))))))
  refine xv (mvS rfl) (xv (mvS rfl) (xC (en Tryz.call90 (ha2 (q0 rfl) (q0 rfl))) (fun _ w hw => pchecked_w A n c l B m d rs w (hp.mem hw) (hr.mem hw) hpe hg) rfl rfl (xv (asI rfl) (XN (thenJ_normal (H_seq (R0 (xv (mvI rfl) (xv (e_ne (q0 rfl) (q0 rfl)) ?_)))))))))
  refine XN (thenJ_normal (H_cond rfl (fun h1 => ?_) (fun h1 => ?_)))
  · exfalso; simp at h1
  · refine H_skip (thenJ_normal (H_seq (R0 (xv (mvS rfl) (xv (mvS rfl) (xCX (en Tryz.call91 (ha2 (q0 rfl) (q0 rfl))) (fun w hw => puse_w A n c l B m d rs w (hp.mem hw) (hr.mem hw) hpe hg hs) rfl (fun _ => rfl) fun z => (xv (asS rfl) (xv (asI rfl) (XN ?_)))))))))
    refine thenJ_normal (H_ret ?_)
    exact ret2 (v := .slice _ _ _) (x := .int _ _) rfl rfl rfl rfl fun w' hw => ⟨z, rfl, hw⟩
theorem din_w (n lo hi : Int) (w : World) : Calls Tryz.prog 144 #[.int .i64 n, .int .i64 lo, .int .i64 hi] w fun e w' => e = .returned (.bool (inI n lo hi)) ∧ Bel w w' := by
  refine H_enter Tryz.func144 rfl Tryz.ntmps144 rfl (H_seq (R0 (xv (asB rfl) (XN (thenJ_normal (H_seq (R0 (xv (mvI rfl) (xv (mvI rfl) ?_)))))))))
  refine xv (e_le (q0 rfl) (q0 rfl)) (xv (mvB rfl) (xt (mvI rfl) rfl rfl (xt (mvI rfl) rfl rfl (xt (e_le (q1 rfl) (q1 rfl)) rfl rfl (xv (e_and (q0 rfl) rfl (fun h => by first | rfl | (rw [h]; rfl))) ?_)))))
  refine xv (asB rfl) (XN (thenJ_normal (H_ret ?_)))
  exact ret1 (v := .bool _) rfl rfl rfl fun w' hw => ⟨rfl, hw.1⟩
/-- three lists that are the parts of one -/
structure DyAt (w : World) (A B C : Option Addr) (n : Nat) (xs : List Dy) : Prop where
  r : IntsAt w A n (xs.map (·.rider))
  d : IntsAt w B n (xs.map (·.day))
  a : IntsAt w C n (xs.map (·.amount))
theorem DyAt.mem {w0 w : World} {L : List E.Item} {A B C : Option Addr} {n : Nat} {xs : List Dy} (h : DyAt w0 A B C n xs) (hm : Mem w0 L w) : DyAt w A B C n xs := ⟨h.r.mem hm, h.d.mem hm, h.a.mem hm⟩
theorem dyErr_parts {limit : Int} {xs : List Dy} (h : dyErr limit xs = 0) : (0 ≤ limit ∧ limit ≤ 1000000000000) ∧ xs.length ≤ 256 ∧ ∀ x ∈ xs, dyBad x = false := by
  unfold dyErr at h
  split at h
  · cases h
  · rename_i h1
    split at h
    · cases h
    · split at h
      · cases h
      · rename_i h3
        refine ⟨inI_iff.1 (by simpa using h1), by omega, fun x hx => ?_⟩
        have h4 : xs.any dyBad = false := by simpa using h3
        rw [List.any_eq_false] at h4
        simpa using h4 x hx
theorem dyBad_parts {x : Dy} (h : dyBad x = false) : (0 ≤ x.rider ∧ x.rider ≤ 127) ∧ (0 ≤ x.day ∧ x.day ≤ 49709) ∧ (0 ≤ x.amount ∧ x.amount ≤ 1000000000000) := by
  unfold dyBad at h
  simp only [Bool.or_eq_false_iff, Bool.not_eq_false', inI_iff] at h
  exact ⟨h.1.1, h.1.2, h.2⟩
set_option maxHeartbeats 1000000 in
set_option maxRecDepth 20000 in
theorem dcheck_w (limit : Int) (A : Option Addr) (a : Nat) (B : Option Addr) (b : Nat) (C : Option Addr) (c n : Nat) (xs : List Dy) (w : World) (hx : DyAt w A B C n xs) (he : dyErr limit xs = 0) : Calls Tryz.prog 94 #[.int .i64 limit, .slice A n a, .slice B n b, .slice C n c] w fun e w' => e = .returned (.int .i64 0) ∧ Bel w w' := by
  obtain ⟨hlim, hlen, hgood⟩ := dyErr_parts he
  have hl : xs.length = n := by have := hx.r.1; rw [List.length_map] at this; exact this
  have hin : inI limit 0 1000000000000 = true := inI_iff.2 hlim
  refine H_enter Tryz.func94 rfl Tryz.ntmps94 rfl (H_seq (R0 (xv (asI rfl) (XN (thenJ_normal (H_seq (H_block (H_seq (R0 ?_)))))))))
  refine xv (mvI rfl) (xC (en Tryz.call144 (ha3 (q0 rfl) (q0 rfl) (q0 rfl))) (fun _ w _ => din_w limit 0 1000000000000 w) rfl rfl ?_)
  rw [hin]
  refine xv (e_not (q0 rfl)) (xv (asB rfl) (XN (thenJ_normal (H_cond rfl (fun h1 => ?_) (fun h1 => ?_)))))
  · exfalso; cases h1
  · refine H_seq (R0 (xv (mvS rfl) (xv (e_len Tryz.underlying22 (q0 rfl)) (xv (mvS rfl) (xv (e_len Tryz.underlying22 (q0 rfl)) (xv (e_ne (q0 rfl) (q0 rfl)) (xv (mvB rfl) (xf (mvS rfl) rfl rfl (xf (e_len Tryz.underlying22 (q1 rfl)) rfl rfl ?_)))))))))
    refine xf (mvS rfl) rfl rfl (xf (e_len Tryz.underlying22 (q1 rfl)) rfl rfl (xf (e_ne (q1 rfl) (q1 rfl)) rfl rfl (xv (e_or (q0 rfl) rfl (fun h => by first | rfl | (rw [h]; rfl))) ?_)))
    refine xv (asB rfl) (XN (thenJ_normal (H_cond rfl (fun h2 => ?_) (fun h2 => ?_))))
    · exfalso; simp at h2
    · refine H_seq (R0 (xv (mvS rfl) (xv (e_len Tryz.underlying22 (q0 rfl)) (xv (e_gt (q0 rfl) (q0 rfl)) (xv (asB rfl) (XN (thenJ_normal (H_cond rfl (fun h3 => ?_) (fun h3 => ?_)))))))))
      · exfalso; simp at h3; omega
      · refine H_skip (blockJ_normal (thenJ_normal (H_seq (H_seq (R0 (xv (mvS rfl) (xv (e_len Tryz.underlying22 (q0 rfl)) (xv (mvI rfl) (XN ?_)))))))))
        refine thenJ_normal (H_block (H_loop [8, 9, 33, 34, 35, 36, 37, 38, 39, 40, 41, 42, 43, 44, 45, 46, 47, 48, 49, 50, 51, 52, 53, 54, 55, 56, 57, 58] (fun k : Nat => [(33, .int .i64 k)]) (fun _ => []) (fun k => k ≤ n) (fun k => n - k) 0 ⟨rfl, trivial⟩ (fun w hw => hw) rfl (Nat.zero_le _) ?_))
        rintro k g hk
        refine H_seq (R0 (xv (e_lt (q0 rfl) (q0 rfl)) (XN (thenJ_normal (H_seq (H_cond rfl (fun hlt => ?_) (fun hlt => ?_)))))))
        · have hlt' : k < n := by simpa using hlt
          obtain ⟨x, hxk⟩ : ∃ x, xs[k]? = some x := ⟨_, List.getElem?_eq_getElem (by omega)⟩
          have hb := dyBad_parts (hgood x (List.mem_of_getElem? hxk))
          obtain ⟨ab, aoff, v1, rfl, habl, hv1, hra⟩ := hx.r.at_ hlt'
          obtain ⟨bb, boff, v2, rfl, hbbl, hv2, hrb⟩ := hx.d.at_ hlt'
          obtain ⟨cb, coff, v3, rfl, hcbl, hv3, hrc⟩ := hx.a.at_ hlt'
          have e1 : v1 = x.rider := by simpa [hxk] using hv1.symm
          have e2 : v2 = x.day := by simpa [hxk] using hv2.symm
          have e3 : v3 = x.amount := by simpa [hxk] using hv3.symm
          subst e1 e2 e3
          have i1 : inI x.rider 0 127 = true := inI_iff.2 hb.1
          have i2 : inI x.day 0 49709 = true := inI_iff.2 hb.2.1
          have i3 : inI x.amount 0 1000000000000 = true := inI_iff.2 hb.2.2
          refine H_skip (thenJ_normal (H_seq (H_block (H_seq (R0 (xv (mvI rfl) (xv (asI rfl) (XN (thenJ_normal ?_)))))))))
          refine H_seq (R0 (xv (mvS rfl) (xv (mvI rfl) (xv (e_idx _ Tryz.underlying22 Tryz.sizeOf3 (q0 rfl) (q0 rfl) (fun _ => ⟨rfl, by omega⟩)) (xv (e_ld (v := .int .i64 x.rider) Tryz.isAgg3 (q0 rfl) (by exact rc0 hra habl rfl)) ?_)))))
          refine xC (en Tryz.call144 (ha3 (q0 rfl) (q0 rfl) (q0 rfl))) (fun _ w _ => din_w x.rider 0 127 w) rfl rfl (xv (e_not (q0 rfl)) (xv (mvB rfl) (xf (mvS rfl) rfl rfl (xf (mvI rfl) rfl rfl (xf (e_idx _ Tryz.underlying22 Tryz.sizeOf3 (q1 rfl) (q1 rfl) (fun _ => ⟨rfl, by omega⟩)) rfl rfl (xf (e_ld (v := .int .i64 x.day) Tryz.isAgg3 (q1 rfl) (by exact rc0 hrb hbbl rfl)) rfl rfl ?_))))))
          refine xCF (en Tryz.call144 (ha3 (q1 (v := .int _ _) rfl) (q0 rfl) (q0 rfl))) (fun _ w _ => din_w x.day 0 49709 w) rfl rfl rfl rfl (xf (e_not (q1 rfl)) rfl rfl (xv (e_or (q0 rfl) rfl (fun h => by first | rfl | (rw [h]; rfl))) ?_))
          refine xv (mvB rfl) (xf (mvS rfl) rfl rfl (xf (mvI rfl) rfl rfl (xf (e_idx _ Tryz.underlying22 Tryz.sizeOf3 (q1 rfl) (q1 rfl) (fun _ => ⟨rfl, by omega⟩)) rfl rfl (xf (e_ld (v := .int .i64 x.amount) Tryz.isAgg3 (q1 rfl) (by exact rc0 hrc hcbl rfl)) rfl rfl ?_))))
          refine xCF (en Tryz.call144 (ha3 (q1 (v := .int _ _) rfl) (q0 rfl) (q0 rfl))) (fun _ w _ => din_w x.amount 0 1000000000000 w) rfl rfl rfl rfl (xf (e_not (q1 rfl)) rfl rfl (xv (e_or (q0 rfl) rfl (fun h => by first | rfl | (rw [h]; rfl))) ?_))
          refine XN (thenJ_normal (H_cond rfl (fun h5 => ?_) (fun h5 => ?_)))
          · exfalso
            have h : ((!inI x.rider 0 127) || (!inI x.day 0 49709)) || (!inI x.amount 0 1000000000000) = true := by simpa using h5
            rw [i1, i2, i3] at h
            simp at h
          · refine H_skip (blockJ_normal (thenJ_normal (R0 (xv (e_add (q0 rfl) (q0 rfl) (fun _ => ⟨rfl, by omega, by omega⟩)) (xv (mvI rfl) (XN ?_))))))
            exact loopJ_normal (k + 1) agr ⟨rfl, trivial⟩ (fun w hw => hw) rfl (by show k + 1 ≤ n; omega) (by show n - (k + 1) < n - k; omega)
        · refine H_exit (thenJ_exit (loopJ_exit (blockJ_hit (thenJ_normal (H_seq (R0 (xv (asI rfl) (XN (thenJ_normal ?_)))))))))
          refine H_ret ?_
          exact ret1 (v := .int _ _) rfl rfl rfl fun w' hw => ⟨rfl, hw.1⟩
theorem keyA : KeyK Tryz.prog 184 := KeyK.array (i := Tryz.t3) Tryz.underlying184 Tryz.underlying3 Tryz.isAgg3 (by kernel_rfl) rfl
attribute [local irreducible] DS payD sumD
set_option maxHeartbeats 1000000 in
set_option maxRecDepth 20000 in
theorem dapply_w (limit : Int) (A : Option Addr) (a : Nat) (B : Option Addr) (b : Nat) (C : Option Addr) (c n : Nat) (xs : List Dy) (w : World) (hx : DyAt w A B C n xs) (he : dyErr limit xs = 0) : Calls Tryz.prog 95 #[.int .i64 limit, .slice A n a, .slice B n b, .slice C n c] w fun e w' => ∃ z : (Option Addr × Nat) × (Nat × List ((Int × Int) × Value)), e = .returned (.tuple #[.slice z.1.1 ((dayS limit xs).map (·.2)).length z.1.2, .map (some z.2.1)]) ∧ Mem w [intRow z.1.1 z.1.2 ((dayS limit xs).map (·.2)), kmap z.2.1 z.2.2] w' := by
  obtain ⟨hlim, hlen, hgood⟩ := dyErr_parts he
  have hl : xs.length = n := by have := hx.r.1; rw [List.length_map] at this; exact this
  have hok := DS_ok hlim.1 (fun x hx => (dyBad_parts (hgood x hx)).2.2)
  have hdl := DS_len limit xs
  refine H_enter Tryz.func95 rfl Tryz.ntmps95 rfl (H_seq (R0 (xv (asS rfl) (xv (e_as (v := .map _) (q0 rfl)) (XN (thenJ_normal (H_seq (H_mem (L' := [intRow none 0 []]) (fun w hw => hw.nilRow 3 1 encInt rfl) rfl (R0 ?_)))))))))
  refine xv (asS rfl) (XN (thenJ_normal (H_seq (R0 (X_eff (f_makeK rfl fun mb => (xv (e_as (v := .map _) (q0 rfl)) (XN (thenJ_normal (H_seq ?_))))))))))
  refine H_seq (R0 (xv (mvS rfl) (xv (e_len Tryz.underlying22 (q0 rfl)) (xv (mvI rfl) (XN (thenJ_normal (H_block (H_loop [10, 12, 13, 14, 18, 19, 20, 21, 22, 23, 24, 25, 26, 27, 28, 29, 30, 31, 32, 33, 34, 35, 36, 37, 38, 39, 40, 41, 42, 43, 44, 45, 46, 47, 48, 49, 50, 51, 52] (fun q : Nat × (Option Addr × Nat) × List ((Int × Int) × Value) => [(18, .int .i64 q.1), (10, .slice q.2.1.1 ((DS limit xs q.1).map (·.2)).length q.2.1.2)]) (fun q => [kmap mb q.2.2, intRow q.2.1.1 q.2.1.2 ((DS limit xs q.1).map (·.2))]) (fun q => q.1 ≤ n ∧ DP q.2.2 (DS limit xs q.1)) (fun q => n - q.1) (0, (none, 0), []) ⟨rfl, by unfold DS; rfl, trivial⟩ (fun w hw => by unfold DS; exact hw) rfl ⟨Nat.zero_le _, by unfold DS; exact DP.nil⟩ ?_))))))))
  rintro ⟨k, ⟨oA, oc⟩, mps⟩ g ⟨hk, hDP⟩
  simp only at hk hDP
  refine H_seq (R0 (xv (e_lt (q0 rfl) (q0 rfl)) (XN (thenJ_normal (H_seq (H_cond rfl (fun hlt => ?_) (fun hlt => ?_)))))))
  · have hlt' : k < n := by simpa using hlt
    obtain ⟨x, hxk⟩ : ∃ x, xs[k]? = some x := ⟨_, List.getElem?_eq_getElem (by omega)⟩
    have hb := dyBad_parts (hgood x (List.mem_of_getElem? hxk))
    obtain ⟨ab, aoff, v1, rfl, habl, hv1, hra⟩ := hx.r.at_ hlt'
    obtain ⟨bb, boff, v2, rfl, hbbl, hv2, hrb⟩ := hx.d.at_ hlt'
    obtain ⟨cb, coff, v3, rfl, hcbl, hv3, hrc⟩ := hx.a.at_ hlt'
    have e1 : v1 = x.rider := by simpa [hxk] using hv1.symm
    have e2 : v2 = x.day := by simpa [hxk] using hv2.symm
    have e3 : v3 = x.amount := by simpa [hxk] using hv3.symm
    subst e1 e2 e3
    have hsucc := DS_succ (limit := limit) hxk
    have hO := hok k (by omega)
    have hpr := payD_range hO hb.2.2
    have hsr := hO.sum x.rider x.day
    have hkl := hdl k (by omega)
    have hlk := hDP x.rider x.day
    rw [hkl] at hsr
    have hml : ((DS limit xs k).map (·.2)).length = k := by rw [List.length_map, hkl]
    refine H_skip (thenJ_normal (H_seq (H_block (H_seq (R0 (xv (mvI rfl) (xv (e_idx _ Tryz.underlying22 Tryz.sizeOf3 (q0 rfl) (q0 rfl) (fun _ => ⟨rfl, by omega⟩)) (xv (e_ld (v := .int .i64 x.amount) Tryz.isAgg3 (q0 rfl) (by exact rc0 hrc hcbl rfl)) ?_))))))))
    refine xv (asI rfl) (xv (asI rfl) (XN (thenJ_normal (H_seq (RA rfl (by decide +kernel) (aV 0 (by decide +kernel) rfl (mvS rfl) rfl (aV 1 (by decide +kernel) rfl (mvI rfl) rfl (aV 2 (by decide +kernel) rfl (e_idx _ Tryz.underlying22 Tryz.sizeOf3 (q0 rfl) (q0 rfl) (fun _ => ⟨rfl, by omega⟩)) rfl (aV 3 (by decide +kernel) rfl (e_ld (v := .int .i64 x.rider) Tryz.isAgg3 (q0 rfl) (by exact rc0 hra habl rfl)) rfl ?_)))))))))
    refine aV 4 (by decide +kernel) rfl (mvS rfl) rfl (aV 5 (by decide +kernel) rfl (mvI rfl) rfl (aV 6 (by decide +kernel) rfl (e_idx _ Tryz.underlying22 Tryz.sizeOf3 (q0 rfl) (q0 rfl) (fun _ => ⟨rfl, by omega⟩)) rfl (aV 7 (by decide +kernel) rfl (e_ld (v := .int .i64 x.day) Tryz.isAgg3 (q0 rfl) (by exact rc0 hrb hbbl rfl)) rfl ?_)))
    refine aV 8 (by decide +kernel) rfl (e_buildA Tryz.underlying184 Tryz.sizeOf3 Tryz.zeroValue184 (pt (v := .int _ _) rfl (pt (v := .int _ _) rfl E.p0)) rfl) rfl (rdy1 (i := 9) (by decide +kernel) (sub_drop 0) (aL rfl (f_alloc Tryz.zeroValue184 rfl fun b14 => (rdy1 (i := 10) (by decide +kernel) (sub_drop 1) (aL rfl (f_st (v := .agg _) rfl rfl Tryz.sizeOf184 ?_))))))
    refine aZ (by decide +kernel) (sub_drop 1) (thenJ_normal (H_seq (H_seq (R0 (xv (mvI rfl) (xv (e_gt (q0 rfl) (q0 rfl)) (XN (thenJ_normal (H_cut [13, 34, 35, 36, 37, 38, 39, 40] (fun _ : Unit => [(13, .int .i64 (payD limit (DS limit xs k) x))]) (fun _ => [kmap mb mps, box b14 184 [.int .i64 x.rider, .int .i64 x.day], intRow oA oc ((DS limit xs k).map (·.2))]) (fun _ => True) ?_ ?_)))))))))
    · refine H_cond rfl (fun h2 => ?_) (fun h2 => ?_)
      · have h2' : 0 < limit := of_decide_eq_true h2
        have hpay : payD limit (DS limit xs k) x = min x.amount (limit - sumD (DS limit xs k) x.rider x.day) := by unfold payD; rw [if_pos h2']
        refine R0 (xv (mvI rfl) (xv (mvI rfl) (xv (e_mv (v := .map _) (q0 rfl)) (xv (eS Tryz.isAgg184 Tryz.sizeOf184 (q0 rfl)) ?_))))
        refine xv (e_lookK (key := (x.rider, x.day)) 1 keyA Tryz.underlying145 Tryz.zeroValue3 (q0 rfl) (q0 rfl) rfl (fun _ => hlk)) (xv (e_sub (r := limit - sumD (DS limit xs k) x.rider x.day) (q0 rfl) (q0 rfl) (fun _ => ⟨rfl, by omega, by omega⟩)) (xv (e_minM (q0 rfl) (q0 rfl)) (xv (asI rfl) (XN ?_))))
        exact cutJ_normal () agr ⟨by rw [hpay]; rfl, trivial⟩ (fun w hw => hw.pick [1, 0, 2] (by decide)) rfl trivial
      · have h2' : ¬ 0 < limit := of_decide_eq_false h2
        have hpay : payD limit (DS limit xs k) x = x.amount := by unfold payD; rw [if_neg h2']
        refine H_skip ?_
        exact cutJ_normal () agr ⟨by rw [hpay]; rfl, trivial⟩ (fun w hw => hw.pick [1, 0, 2] (by decide)) rfl trivial
    · intro _ g5 _
      refine thenJ_normal (H_seq (H_cut [41, 42, 43, 44, 45, 46, 47] (fun _ : Unit => []) (fun _ => [kmap mb (kput mps (x.rider, x.day) (.int .i64 (sumD (DS limit xs k) x.rider x.day + payD limit (DS limit xs k) x))), box b14 184 [.int .i64 x.rider, .int .i64 x.day], intRow oA oc ((DS limit xs k).map (·.2))]) (fun _ => True) ?_ ?_))
      · refine RAd 1 rfl (by decide +kernel) (aV 0 (by decide +kernel) rfl (e_mv (v := .map _) (q0 rfl)) rfl (aV 1 (by decide +kernel) rfl (eS Tryz.isAgg184 Tryz.sizeOf184 (q0 rfl)) rfl ?_))
        refine aV 3 (by decide +kernel) rfl (mvI rfl) rfl (rdy2 (i := 2) (j := 5) (by decide +kernel) (sub_drop 1) ?_ ?_)
        · (first | refine aL rfl (f_ev (e_lookK (key := (x.rider, x.day)) 0 keyA Tryz.underlying145 Tryz.zeroValue3 (q0 rfl) (q0 rfl) rfl (fun _ => hlk)) rfl rfl ?_) | refine aL rfl (f_ev (e_lookKP (key := (x.rider, x.day)) 0 keyA Tryz.underlying145 Tryz.zeroValue3 (q0 rfl) (q0 rfl) rfl (fun _ => (hpz.trans hlk))) rfl rfl ?_))
          refine aV 4 (by decide +kernel) rfl (e_add (r := sumD (DS limit xs k) x.rider x.day + payD limit (DS limit xs k) x) (q0 rfl) (q0 rfl) (fun _ => ⟨rfl, by omega, by omega⟩)) rfl (rdy1 (i := 5) (by decide +kernel) (sub_drop 1) (aL rfl (f_entryK (key := (x.rider, x.day)) 0 keyA Tryz.underlying145 Tryz.zeroValue3 rfl rfl rfl rfl fun born ps' hps hpz => (aV 6 (by decide +kernel) rfl (e_ext (q0 rfl) rfl) rfl (rdy1 (i := 7) (by decide +kernel) (sub_drop 1) (aL rfl (f_storeK 0 rfl rfl rfl rfl hps (aZ (by decide +kernel) (sub_drop 1) ?_))))))))
          exact cutJ_normal () agr trivial (fun w hw => hw) rfl trivial
        · refine aL rfl (f_entryK (key := (x.rider, x.day)) 0 keyA Tryz.underlying145 Tryz.zeroValue3 rfl rfl rfl rfl fun born ps' hps hpz => (aV 6 (by decide +kernel) rfl (e_ext (q0 rfl) rfl) rfl (rdy1 (i := 2) (by decide +kernel) (sub_drop 1) ?_)))
          (first | refine aL rfl (f_ev (e_lookK (key := (x.rider, x.day)) 0 keyA Tryz.underlying145 Tryz.zeroValue3 (q0 rfl) (q0 rfl) rfl (fun _ => hlk)) rfl rfl ?_) | refine aL rfl (f_ev (e_lookKP (key := (x.rider, x.day)) 0 keyA Tryz.underlying145 Tryz.zeroValue3 (q0 rfl) (q0 rfl) rfl (fun _ => (hpz.trans hlk))) rfl rfl ?_))
          refine aV 4 (by decide +kernel) rfl (e_add (r := sumD (DS limit xs k) x.rider x.day + payD limit (DS limit xs k) x) (q0 rfl) (q0 rfl) (fun _ => ⟨rfl, by omega, by omega⟩)) rfl (rdy1 (i := 7) (by decide +kernel) (sub_drop 1) (aL rfl (f_storeK 0 rfl rfl rfl rfl hps (aZ (by decide +kernel) (sub_drop 1) ?_))))
          exact cutJ_normal () agr trivial (fun w hw => hw) rfl trivial
      · intro _ g6 _
        refine thenJ_normal (R0 (xv (mvS rfl) (xv (mvI rfl) (X_push (k := 1) (i := Tryz.t3) 2 ((payD limit (DS limit xs k) x)) Tryz.underlying22 (by kernel_rfl) rfl rfl rfl rfl Tryz.sizeOf3 Tryz.zeroValue3 rfl rfl rfl rfl rfl rfl ⟨by simp only; omega, by decide⟩ rfl rfl fun B0 A1 c1 => (xv (asS rfl) (XN (blockJ_normal (thenJ_normal (R0 ?_)))))))))
        refine xv (e_add (q0 rfl) (q0 rfl) (fun _ => ⟨rfl, by omega, by omega⟩)) (xv (mvI rfl) (XN ?_))
        obtain ⟨ps2, hps2⟩ : ∃ ps2, ps2 = kput mps (x.rider, x.day) (.int .i64 (sumD (DS limit xs k) x.rider x.day + payD limit (DS limit xs k) x)) := ⟨_, rfl⟩
        rw [← hps2]
        have hmap : (DS limit xs (k + 1)).map (·.2) = (DS limit xs k).map (·.2) ++ [payD limit (DS limit xs k) x] := by rw [hsucc, List.map_append]; rfl
        refine loopJ_normal (k + 1, (A1, c1), ps2) agr ⟨rfl, by rw [hmap]; rfl, trivial⟩ (fun w hw => by rw [hmap]; exact hw.pick [0, 2] (by decide)) rfl ⟨by simp only; omega, ?_⟩ (by simp only; omega)
        simp only
        rw [hsucc, hps2]
        exact hDP.put x _
  · have hend : k = n := by simp at hlt; omega
    have hfull : DS limit xs k = dayS limit xs := by unfold DS; rw [List.take_of_length_le (by omega)]; rfl
    rw [hfull]
    refine H_exit (thenJ_exit (loopJ_exit (blockJ_hit (thenJ_normal (H_seq (R0 (xv (mvS rfl) (xv (e_mv (v := .map _) (q0 rfl)) (xv (asS rfl) ?_)))))))))
    refine xv (e_as (v := .map _) (q0 rfl)) (XN (thenJ_normal (H_ret ?_)))
    exact ret2 (v := .slice _ _ _) (x := .map _) rfl rfl rfl rfl fun w' hw => ⟨((oA, oc), (mb, mps)), rfl, hw.pick [1, 0] (by decide)⟩
set_option maxRecDepth 20000 in
theorem dApply_w (limit : Int) (A : Option Addr) (a : Nat) (B : Option Addr) (b : Nat) (C : Option Addr) (c n : Nat) (xs : List Dy) (w : World) (hx : DyAt w A B C n xs) (he : dyErr limit xs = 0) : Calls Tryz.prog 49 #[.int .i64 limit, .slice A n a, .slice B n b, .slice C n c] w fun e w' => ∃ z : Option Addr × Nat, e = .returned (.tuple #[.slice z.1 ((dayS limit xs).map (·.2)).length z.2, .int .i64 0]) ∧ Mem w [intRow z.1 z.2 ((dayS limit xs).map (·.2))] w' := by
  refine H_enter Tryz.func49 rfl Tryz.ntmps49 rfl (H_seq (R0 (xv (asS rfl) (xv (asI rfl) (XN (thenJ_normal (H_seq (H_seq (R0 ?_)))))))))
  refine xv (mvI rfl) (xv (mvS rfl) (xv (mvS rfl) (xv (mvS rfl) (xC (en Tryz.call94 (ha4 (q0 rfl) (q0 rfl) (q0 rfl) (q0 rfl))) (fun _ w hw => dcheck_w limit A a B b C c n xs w (hx.mem hw) he) rfl rfl (xv (asI rfl) (XN (thenJ_normal (H_seq (R0 ?_)))))))))
  refine xv (mvI rfl) (xv (e_ne (q0 rfl) (q0 rfl)) (XN (thenJ_normal (H_cond rfl (fun h1 => ?_) (fun h1 => ?_)))))
  · exfalso; simp at h1
  · refine H_skip (thenJ_normal (H_seq (R0 (xv (mvI rfl) (xv (mvS rfl) (xv (mvS rfl) (xv (mvS rfl) (xCX (en Tryz.call95 (ha4 (q0 rfl) (q0 rfl) (q0 rfl) (q0 rfl))) (fun w hw => dapply_w limit A a B b C c n xs w (hx.mem hw) he) rfl (fun _ => rfl) fun z => (xv (e_mv (q0 rfl)) ?_)))))))))
    refine xv (e_ext (q0 rfl) rfl) (xv (e_ext (q0 rfl) rfl) (xv (asS rfl) (xv (e_as (v := .map _) (q0 rfl)) (XN (thenJ_normal (H_seq (R0 (xv (mvS rfl) (xv (asS rfl) ?_)))))))))
    refine xv (asI rfl) (XN (thenJ_normal (H_ret ?_)))
    exact ret2 (v := .slice _ _ _) (x := .int _ _) rfl rfl rfl rfl fun w' hw => ⟨z.1, rfl, hw.pick [0] (by decide)⟩

end Go.Proofs.Far

/-
  Plain functions: the fare of a ride, item by item.
-/
namespace Go.Proofs.Far
open Go.Proofs.Cus Go.Proofs.Rid

structure Itm where
  kind : Int
  ref : Int
  amount : Int
deriving DecidableEq, Inhabited
structure Bil where
  ride : Int
  rider : Int
  items : List Itm
  total : Int
deriving DecidableEq, Inhabited
def addB (b : Bil) (k r a : Int) : Bil := if a = 0 then b else { b with items := b.items ++ [⟨k, r, a⟩], total := b.total + a }
theorem addB_total (b : Bil) (k r a : Int) : (addB b k r a).total = b.total + a := by
  unfold addB
  split
  · omega
  · rfl
theorem addB_ride (b : Bil) (k r a : Int) : (addB b k r a).ride = b.ride ∧ (addB b k r a).rider = b.rider := by
  unfold addB
  split <;> exact ⟨rfl, rfl⟩
theorem addB_len (b : Bil) (k r a : Int) : (addB b k r a).items.length ≤ b.items.length + 1 := by
  unfold addB
  split
  · omega
  · simp
/-- the fee of the place and its number -/
def placeP (p : Pr) (r : Rd) : Int × Int :=
  if r.wh = 2 ∧ 0 ≤ r.pl ∧ r.pl < p.places.length then (p.places.getD r.pl.toNat 0, r.pl)
  else if r.wh = 1 ∧ 0 ≤ r.pl ∧ r.pl / 32 < p.docks.length then (p.docks.getD (r.pl / 32).toNat 0, 64 + r.pl / 32)
  else (0, 0)
def verO (p : Pr) (r : Rd) : Nat := atP p.tariffs r.start.lo
def verT (p : Pr) (r : Rd) : Tf := p.tariffs.getD (verO p r) default
def baseB (p : Pr) (r : Rd) : Bil := addB (addB (addB ⟨r.id, r.rider, [], 0⟩ 1 (verO p r) (verT p r).unlock) 2 (verO p r) (ridP (verT p r) (ridS r))) 3 (verO p r) (pauP (verT p r) (pauS r))
def plcB (p : Pr) (r : Rd) : Bil := addB (baseB p r) 4 (placeP p r).2 (max (placeP p r).1 (-(baseB p r).total))
def partP (p : Pr) (r : Rd) (by_ : Int) : Int := ridP (verT p r) (min (ridS r) (p.passes.getD by_.toNat default).secs)
def passB (p : Pr) (r : Rd) (by_ : Int) : Bil := if 0 ≤ by_ then addB (plcB p r) 5 by_ (-(min (plcB p r).total ((verT p r).unlock + partP p r by_))) else plcB p r
/-- the items before the limit of the day; none: too much -/
def firstP (p : Pr) (r : Rd) (by_ : Int) : Option Bil :=
  if 1000000000000 < ridP (verT p r) (ridS r) then none
  else if 1000000000000 < pauP (verT p r) (pauS r) then none
  else if 0 ≤ by_ ∧ 1000000000000 < partP p r by_ then none
  else if 1000000000000 < (passB p r by_).total then none
  else some (passB p r by_)

/-! prices that are right -/
theorem prErr_parts {f : Fl} {p : Pr} (h : prErr f p = 0) : flErr f = 0 ∧ tfErr p.tariffs = 0 ∧ pasErr p.passes = 0 ∧ p.docks.length = f.docks.length ∧ p.places.length ≤ 64 ∧ (∀ x ∈ p.places ++ p.docks, feeBad x = false) ∧ 0 ≤ p.cap ∧ p.cap ≤ 1000000000000 ∧ Pen.pErr p.fines p.days = 0 := by
  unfold prErr at h
  split at h
  · omega
  · split at h
    · omega
    · split at h
      · omega
      · split at h
        · omega
        · split at h
          · omega
          · split at h
            · omega
            · rename_i h1 h2 h3 h4 h5 h6
              refine ⟨by omega, by omega, by omega, by omega, by omega, fun x hx => ?_, by omega, by omega, h⟩
              have h7 : (p.places ++ p.docks).any feeBad = false := by simpa using h5
              rw [List.any_eq_false] at h7
              simpa using h7 x hx
theorem ver_ok {p : Pr} {r : Rd} (h : tfErr p.tariffs = 0) : p.tariffs[verO p r]? = some (verT p r) ∧ tfOk (verT p r) = true := by
  obtain ⟨h1, h2, h3⟩ := tfErr_ok h
  have hlt := atP_lt h1 r.start.lo
  have : p.tariffs[verO p r]? = some (verT p r) := by
    unfold verT verO
    rw [List.getD_eq_getElem?_getD, List.getElem?_eq_getElem hlt]; rfl
  exact ⟨this, h3 _ (List.mem_of_getElem? this)⟩
theorem steps_nn {t : Tf} (h : tfOk t = true) {s : Int} (hs : s ≤ 4294944000) : 0 ≤ stepsP t s ∧ stepsP t s ≤ 4294944000 := steps_le (tfOk_iff.1 h).2.2.2.2.1 hs
theorem ridP_nn {t : Tf} (h : tfOk t = true) {s : Int} (hs : s ≤ 4294944000) : 0 ≤ ridP t s := by
  have h2 := tfOk_iff.1 h
  have h3 := steps_nn h (s := s - t.free) (by omega)
  unfold ridP
  exact Int.mul_nonneg h2.2.2.1.1 h3.1
theorem pauP_nn {t : Tf} (h : tfOk t = true) {s : Int} (hs : s ≤ 4294944000) : 0 ≤ pauP t s := by
  have h2 := tfOk_iff.1 h
  have h3 := steps_nn h (s := s) hs
  unfold pauP
  exact Int.mul_nonneg h2.2.2.2.1.1 h3.1
theorem place_fee {f : Fl} {p : Pr} (h : prErr f p = 0) (r : Rd) : -1000000 ≤ (placeP p r).1 ∧ (placeP p r).1 ≤ 1000000 := by
  have hp := (prErr_parts h).2.2.2.2.2.1
  have key : ∀ (l : List Int) (k : Nat), (∀ x ∈ l, feeBad x = false) → -1000000 ≤ l.getD k 0 ∧ l.getD k 0 ≤ 1000000 := by
    intro l k hl
    rw [List.getD_eq_getElem?_getD]
    cases hk : l[k]? with
    | none => simp
    | some x =>
      have := hl x (List.mem_of_getElem? hk)
      unfold feeBad at this
      simp at this
      simp only [Option.getD_some]
      omega
  unfold placeP
  split
  · exact key _ _ fun x hx => hp x (List.mem_append.2 (.inl hx))
  · split
    · exact key _ _ fun x hx => hp x (List.mem_append.2 (.inr hx))
    · simp
theorem base_total (p : Pr) (r : Rd) : (baseB p r).total = (verT p r).unlock + ridP (verT p r) (ridS r) + pauP (verT p r) (pauS r) := by
  unfold baseB
  rw [addB_total, addB_total, addB_total]
  simp
theorem plc_total (p : Pr) (r : Rd) : (plcB p r).total = (baseB p r).total + max (placeP p r).1 (-(baseB p r).total) := by unfold plcB; rw [addB_total]
theorem pass_total (p : Pr) (r : Rd) (by_ : Int) : (passB p r by_).total = if 0 ≤ by_ then (plcB p r).total - min (plcB p r).total ((verT p r).unlock + partP p r by_) else (plcB p r).total := by
  unfold passB
  split
  · rw [addB_total]; omega
  · rfl

end Go.Proofs.Far

/-
  The walks: rides checked; the place's fee; an item added.
-/
namespace Go.Proofs.Far
open Go Go.RowKit Go.Proofs.E Go.Proofs.Cus Go.Proofs.Rid

theorem fl69 {fs : Array Field} (h : Tryz.prog.underlying 69 = some (.struct fs) := by exact Tryz.underlying69) : FieldsLie Tryz.prog fs [(0, 1), (1, 1), (2, 1)] := by
  rw [Tryz.underlying69] at h
  cases h
  intro w
  kernel_rfl
theorem fl44 {fs : Array Field} (h : Tryz.prog.underlying 44 = some (.struct fs) := by exact Tryz.underlying44) : FieldsLie Tryz.prog fs [(0, 1), (1, 1), (2, 1), (3, 1)] := by
  rw [Tryz.underlying44] at h
  cases h
  intro w
  kernel_rfl
theorem fl97 {fs : Array Field} (h : Tryz.prog.underlying 97 = some (.struct fs) := by exact Tryz.underlying97) : FieldsLie Tryz.prog fs [(0, 4)] := by
  rw [Tryz.underlying97] at h
  cases h
  intro w
  kernel_rfl
section
variable {c : Cx} {w0 : World} {L : List E.Item} {f : Fr} {ty t : TypeId} {x : Operand} {g : Bool} {m : Int}
theorem e_neg (hx : OpV g f x (.int .i64 m)) {r : Int} (hr : g = true → -m = r ∧ -9223372036854775808 ≤ r ∧ r ≤ 9223372036854775807) : EvG g c w0 L f (.unOp .neg t x) ty (.int .i64 r) := fun e _ _ _ _ w _ => by
  obtain ⟨rfl, h1, h2⟩ := hr e
  have h3 : IntKind.i64.wrap (0 - m) = -m := by rw [Int.zero_sub]; exact IntWalk.i64_in _ ⟨h1, h2⟩
  have h4 : IntKind.i64.wrap (-m) = -m := IntWalk.i64_in _ ⟨h1, h2⟩
  simp [execOp, hx e, Op.unary, Op.intArith, h3, h4]
end
/-! the rides -/
def rdsErrL : List Rd → Int
  | [] => 0
  | r :: l => if checkR r ≠ 0 then checkR r else rdsErrL l
def rdsErr (rs : List Rd) : Int := if 256 < rs.length then 8 else if rdsErrL rs ≠ 0 then rdsErrL rs else if twiceI [] (rs.map (·.id)) = true then 6 else 0
theorem rdsErrL_ok : ∀ {l : List Rd}, rdsErrL l = 0 → ∀ r ∈ l, checkR r = 0
  | [], _, r, hr => by cases hr
  | x :: l, h, r, hr => by
    unfold rdsErrL at h
    split at h
    · omega
    · rcases List.mem_cons.1 hr with rfl | hr
      · rename_i h2; simpa using h2
      · exact rdsErrL_ok h r hr
theorem rdsErr_good {rs : List Rd} (h : rdsErr rs = 0) : Good rs := by
  unfold rdsErr at h
  split at h
  · cases h
  · split at h
    · omega
    · split at h
      · cases h
      · rename_i h1 h2 h3
        exact ⟨rdsErrL_ok (by simpa using h2), by simpa using h3, by omega⟩
/-- has a number come twice among the first k -/
def tw (ids : List Int) (k : Nat) : Bool := twiceI [] (ids.take k)
theorem tw_snoc : ∀ (l seen : List Int) (x : Int), twiceI seen (l ++ [x]) = (twiceI seen l || hasI (seen ++ l) x)
  | [], seen, x => by unfold twiceI hasI; simp [twiceI]
  | y :: l, seen, x => by
    rw [List.cons_append]
    unfold twiceI
    rw [tw_snoc l (seen ++ [y]) x, List.append_assoc, Bool.or_assoc]; rfl
theorem tw_succ {ids : List Int} {k : Nat} {x : Int} (h : ids[k]? = some x) : tw ids (k + 1) = (tw ids k || hasI (ids.take k) x) := by
  unfold tw
  rw [snocT _ _ _ h, tw_snoc]; rfl
/-- the keys that were met, each once -/
def keyU (ids : List Int) : List Int := ids.foldl (fun l x => if hasI l x then l else l ++ [x]) []
theorem hasI_keyU_go (ids : List Int) : ∀ (l : List Int) (x : Int), hasI (ids.foldl (fun l x => if hasI l x then l else l ++ [x]) l) x = (hasI l x || hasI ids x) := by
  induction ids with
  | nil => intro l x; unfold hasI; simp
  | cons y ids ih =>
    intro l x
    rw [List.foldl_cons, ih]
    by_cases hy : hasI l y = true
    · rw [if_pos hy]
      have : hasI (y :: ids) x = ((y == x) || hasI ids x) := rfl
      rw [this]
      by_cases hx : y = x
      · subst hx; rw [hy]; simp
      · have : (y == x) = false := beq_eq_false_iff_ne.2 hx
        rw [this, Bool.false_or]
    · rw [if_neg hy]
      have h1 : hasI (l ++ [y]) x = (hasI l x || (y == x)) := by unfold hasI; rw [List.any_append]; simp
      have h2 : hasI (y :: ids) x = ((y == x) || hasI ids x) := rfl
      rw [h1, h2, Bool.or_assoc]
theorem hasI_keyU (ids : List Int) (x : Int) : hasI (keyU ids) x = hasI ids x := by
  unfold keyU
  rw [hasI_keyU_go]; rfl
theorem mput_has : ∀ (l : List Int) (x : Int), hasI l x = true → mput (keysI l) x (.bool true) = keysI l
  | [], x, h => by cases h
  | y :: l, x, h => by
    by_cases hy : y = x
    · subst hy
      simp [keysI, mput]
    · have h2 : (y == x) = false := beq_eq_false_iff_ne.2 hy
      have h3 : hasI l x = true := by
        have : hasI (y :: l) x = ((y == x) || hasI l x) := rfl
        rw [this, h2, Bool.false_or] at h
        exact h
      have ih := mput_has l x h3
      simp only [keysI, List.map_cons, mput, h2, Bool.false_eq_true, if_false] at ih ⊢
      rw [ih]
theorem mput_keyU {ids : List Int} {k : Nat} {x : Int} (h : ids[k]? = some x) : mput (keysI (keyU (ids.take k))) x (.bool true) = keysI (keyU (ids.take (k + 1))) := by
  have hs : keyU (ids.take (k + 1)) = if hasI (keyU (ids.take k)) x then keyU (ids.take k) else keyU (ids.take k) ++ [x] := by
    unfold keyU
    rw [snocT _ _ _ h, List.foldl_append]; rfl
  rw [hs]
  by_cases hx : hasI (keyU (ids.take k)) x = true
  · rw [if_pos hx, mput_has _ _ hx]
  · rw [if_neg hx]
    exact mput_keysI _ _ (by simpa using hx)
theorem rdsErrL_at {l : List Rd} {k : Nat} {r : Rd} (h : l[k]? = some r) : rdsErrL (l.drop k) = if checkR r ≠ 0 then checkR r else rdsErrL (l.drop (k + 1)) := by
  rw [drop_of h]; rfl
attribute [local irreducible] keyU tw
set_option maxHeartbeats 1000000 in
set_option maxRecDepth 20000 in
theorem rides_w (A : Option Addr) (n c : Nat) (rs : List RX) (w : World) (hr : RdsAt w A n rs) (hshort : Short rs) : Calls Tryz.prog 41 #[.slice A n c] w fun e w' => e = .returned (.int .i64 (rdsErr (rs.map (·.r)))) ∧ Bel w w' := by
  have hl := hr.1.1
  have hn := hr.1.2.1
  obtain ⟨ids, hids⟩ : ∃ ids : List Int, ids = (rs.map (·.r)).map (·.id) := ⟨_, rfl⟩
  have hidl : ids.length = n := by rw [hids, List.length_map, List.length_map, hl]
  have hrl : (rs.map (·.r)).length = n := by rw [List.length_map, hl]
  refine H_enter Tryz.func41 rfl Tryz.ntmps41 rfl (H_seq (R0 (xv (asI rfl) (XN (thenJ_normal (H_seq (H_seq (R0 (xv (mvS rfl) ?_)))))))))
  refine xv (e_len Tryz.underlying36 (q0 rfl)) (xv (e_gt (q0 rfl) (q0 rfl)) (XN (thenJ_normal (H_cond rfl (fun h1 => ?_) (fun h1 => ?_)))))
  · have h1' : 256 < n := by
      have h : (256 : Int) < (n : Int) := of_decide_eq_true h1
      omega
    refine H_seq (R0 (xv (asI rfl) (XN (thenJ_normal (H_ret (thenJ_ret ?_))))))
    exact ret1 (v := .int _ _) rfl rfl rfl fun w' hw => ⟨ret_int (by unfold rdsErr; rw [if_pos (by omega)]), hw.1⟩
  · have h1' : ¬ 256 < n := by
      have h : ¬ (256 : Int) < (n : Int) := of_decide_eq_false h1
      omega
    have herr : rdsErr (rs.map (·.r)) = if rdsErrL (rs.map (·.r)) ≠ 0 then rdsErrL (rs.map (·.r)) else if tw ids n = true then 6 else 0 := by
      unfold rdsErr tw
      rw [if_neg (by omega), hids, List.take_of_length_le (by rw [List.length_map]; omega)]
    rw [herr]
    refine H_skip (thenJ_normal (H_seq (R0 (X_makeMap rfl fun bm => (xv (e_as (v := .map _) (q0 rfl)) (XN (thenJ_normal (H_seq (R0 ?_)))))))))
    refine xv (asB rfl) (XN (thenJ_normal (H_seq (H_seq (R0 (xv (mvS rfl) (xv (e_len Tryz.underlying36 (q0 rfl)) (xv (mvI rfl) (XN ?_)))))))))
    refine thenJ_normal (H_block (H_loop [2, 4, 6, 7, 14, 15, 16, 17, 18, 19, 20, 21, 22, 23, 24, 25, 26, 27, 28, 29, 30, 31, 32, 33] (fun k : Nat => [(14, .int .i64 k), (4, .bool (tw ids k))]) (fun k => [imap bm (keysI (keyU (ids.take k)))]) (fun k => k ≤ n ∧ rdsErrL (rs.map (·.r)) = rdsErrL ((rs.map (·.r)).drop k)) (fun k => n - k) 0 ⟨rfl, by unfold tw; rfl, trivial⟩ (fun w hw => by unfold keyU; exact hw) rfl ⟨Nat.zero_le _, rfl⟩ ?_))
    rintro k g ⟨hk, hall⟩
    refine H_seq (R0 (xv (e_lt (q0 rfl) (q0 rfl)) (XN (thenJ_normal (H_seq (H_cond rfl (fun hlt => ?_) (fun hlt => ?_)))))))
    · have hlt' : k < n := by
        have h : (k : Int) < (n : Int) := of_decide_eq_true hlt
        omega
      obtain ⟨b, off, x, rfl, hbl, hxk, hrx⟩ := hr.1.at_ hlt'
      have hxm := List.mem_of_getElem? hxk
      have hxr : (rs.map (·.r))[k]? = some x.r := by simp [hxk]
      have hik : ids[k]? = some x.r.id := by rw [hids]; simp [hxk]
      rw [rdsErrL_at hxr] at hall
      have hsh := hshort x hxm
      refine H_skip (thenJ_normal (H_seq (H_block (H_seq (R0 (xv (e_idx _ Tryz.underlying36 Tryz.sizeOf54 (q0 rfl) (q0 rfl) (fun _ => ⟨rfl, by omega⟩)) (xv (eS Tryz.isAgg54 Tryz.sizeOf54 (q0 rfl)) ?_)))))))
      refine X_alloc Tryz.zeroValue54 rfl fun b6 => (X_st (v := .agg _) rfl rfl Tryz.sizeOf54 ?_)
      refine XN (thenJ_normal (H_seq (H_seq (R0 (xv (eS Tryz.isAgg54 Tryz.sizeOf54 (q0 rfl)) ?_)))))
      refine xC (en Tryz.call86 (ha1 (q0 rfl))) (fun _ w hw => rcheck_w x w ((hr.2 x hxm).mem hw) (by omega) (by omega)) rfl rfl (xv (asI rfl) (XN (thenJ_normal (H_seq (R0 (xv (mvI rfl) (xv (e_ne (q0 rfl) (q0 rfl)) (XN (thenJ_normal ?_)))))))))
      refine H_cond rfl (fun h2 => ?_) (fun h2 => ?_)
      · have h2' : checkR x.r ≠ 0 := by simpa using h2
        rw [if_pos h2'] at hall
        refine H_seq (R0 (xv (mvI rfl) (xv (asI rfl) (XN (thenJ_normal (H_ret (thenJ_ret (blockJ_ret (thenJ_ret ?_)))))))))
        refine loopJ_ret (blockJ_ret (thenJ_ret ?_))
        exact ret1 (v := .int _ _) rfl rfl rfl fun w' hw => ⟨ret_int (by rw [hall, if_pos h2']), hw.1⟩
      · have h2' : ¬ checkR x.r ≠ 0 := by simpa using h2
        rw [if_neg h2'] at hall
        have htw := tw_succ hik
        refine H_skip (thenJ_normal (H_seq (R0 (xv (mvB rfl) (xv (mvB rfl) (xf (e_mv (v := .map _) (q0 rfl)) rfl rfl (xf (e_fld Tryz.underlying54 rfl Tryz.sizeOf3 rfl (q0 rfl)) rfl rfl (xf (eL Tryz.isAgg3 (q1 rfl)) rfl rfl ?_))))))))
        refine xf (e_look (u := .bool (hasI (ids.take k) x.r.id)) 1 Tryz.underlying129 Tryz.underlying3 Tryz.zeroValue4 (q1 rfl) (q1 rfl) rfl (fun _ => by rw [← hasI_keyU]; exact look_keysI _ _)) rfl rfl (xv (e_or (q0 rfl) rfl (fun h => by first | rfl | (rw [h]; rfl))) ?_)
        refine xv (asB rfl) (XN (thenJ_normal (R0 (xv (e_mv (v := .map _) (q0 rfl)) (xv (e_fld Tryz.underlying54 rfl Tryz.sizeOf3 rfl (q0 rfl)) (xv (eL Tryz.isAgg3 (q0 rfl)) ?_))))))
        refine X_mapset 1 Tryz.underlying129 Tryz.underlying3 rfl rfl rfl rfl (XN (blockJ_normal (thenJ_normal (R0 (xv (e_add (q0 rfl) (q0 rfl) (fun _ => ⟨rfl, by omega, by omega⟩)) (xv (mvI rfl) (XN (loopJ_normal (k + 1) agr ⟨rfl, by rw [htw]; cases tw ids k <;> rfl, trivial⟩ (fun w hw => ?_) rfl ⟨by omega, hall⟩ (by show n - (k + 1) < n - k; omega)))))))))
        have := hw.tail
        rw [← mput_keyU hik]
        exact this
    · have hend : k = n := by
        have h : ¬ (k : Int) < (n : Int) := of_decide_eq_false hlt
        omega
      subst hend
      have h0 : rdsErrL (rs.map (·.r)) = 0 := by rw [hall, List.drop_of_length_le (by omega)]; rfl
      rw [h0, if_neg (by omega)]
      refine H_exit (thenJ_exit (loopJ_exit (blockJ_hit (thenJ_normal (H_seq (H_seq (R0 (xv (mvB rfl) (XN ?_)))))))))
      refine thenJ_normal (H_cond rfl (fun h3 => ?_) (fun h3 => ?_))
      · have h3' : tw ids k = true := h3
        refine H_seq (R0 (xv (asI rfl) (XN (thenJ_normal (H_ret (thenJ_ret ?_))))))
        exact ret1 (v := .int _ _) rfl rfl rfl fun w' hw => ⟨ret_int (by rw [if_pos h3']), hw.1⟩
      · have h3' : tw ids k = false := h3
        refine H_skip (thenJ_normal (H_seq (R0 (xv (asI rfl) (XN (thenJ_normal (H_ret ?_)))))))
        exact ret1 (v := .int _ _) rfl rfl rfl fun w' hw => ⟨ret_int (by rw [h3']; rfl), hw.1⟩

/-! the place -/
set_option maxRecDepth 20000 in
theorem place_w (p : Pr) (a : PrA) (x : RX) (w : World) (hp : PrAt w p a) (hpl : x.r.pl ≤ 9223372036854775807) : Calls Tryz.prog 93 #[.agg (p.cells a).toArray, .agg x.cells.toArray] w fun e w' => e = .returned (.tuple #[.int .i64 (placeP p x.r).1, .int .i64 (placeP p x.r).2]) ∧ Bel w w' := by
  have hl1 := hp.pl.1
  have hl2 := hp.dk.1
  refine H_enter Tryz.func93 rfl Tryz.ntmps93 rfl (H_seq (R0 (X_box (v := .agg _) rfl rfl fun b2 => (X_box (v := .agg _) rfl rfl fun b3 => (xv (asI rfl) (xv (asI rfl) (XN (thenJ_normal (H_seq ?_)))))))))
  refine H_block (H_seq (R0 (xv (e_fld Tryz.underlying54 rfl Tryz.sizeOf3 rfl (q0 rfl)) (xv (eL Tryz.isAgg3 (q0 rfl)) ?_))))
  refine xv (e_eq (q0 rfl) (q0 rfl)) (xv (mvB rfl) (xt (e_fld Tryz.underlying54 rfl Tryz.sizeOf3 rfl (q0 rfl)) rfl rfl (xt (eL Tryz.isAgg3 (q1 rfl)) rfl rfl ?_)))
  refine xt (e_ge (q1 rfl) (q0 rfl)) rfl rfl (xv (e_and (q0 rfl) rfl (fun h => by first | rfl | (rw [h]; rfl))) ?_)
  refine xv (mvB rfl) (xt (e_fld Tryz.underlying54 rfl Tryz.sizeOf3 rfl (q0 rfl)) rfl rfl (xt (eL Tryz.isAgg3 (q1 rfl)) rfl rfl ?_))
  refine xt (e_fld Tryz.underlying28 rfl Tryz.sizeOf22 rfl (q0 rfl)) rfl rfl (xt (eL Tryz.isAgg22 (q1 rfl)) rfl rfl ?_)
  refine xt (e_len Tryz.underlying22 (q1 rfl)) rfl rfl (xt (e_lt (q1 rfl) (q1 rfl)) rfl rfl (xv (e_and (q0 rfl) rfl (fun h => by first | rfl | (rw [h]; rfl))) ?_))
  refine xv (asB rfl) (XN (thenJ_normal (H_cond rfl (fun h1 => ?_) (fun h1 => ?_))))
  · have h1' : x.r.wh = 2 ∧ 0 ≤ x.r.pl ∧ x.r.pl < p.places.length := by
      have h : (((decide (x.r.wh = 2)) && decide (0 ≤ x.r.pl)) && decide (x.r.pl < (a.pl.n : Int))) = true := h1
      simp at h; omega
    obtain ⟨k, hk⟩ : ∃ k : Nat, x.r.pl = (k : Int) := ⟨x.r.pl.toNat, by omega⟩
    have hkn : k < a.pl.n := by omega
    obtain ⟨b, off, v, hA, hbl, hv, hrv⟩ := hp.pl.at_ hkn
    have hpe : placeP p x.r = (v, x.r.pl) := by
      unfold placeP
      rw [if_pos h1', hk, Int.toNat_natCast, List.getD_eq_getElem?_getD, hv]; rfl
    rw [hpe]
    refine H_seq (R1 rfl (by decide +kernel) (xv (e_fld Tryz.underlying28 rfl Tryz.sizeOf22 rfl (q0 rfl)) (xv (e_ld (v := .slice (some ⟨b, off, none⟩) a.pl.n a.pl.c) Tryz.isAgg22 (q0 rfl) (by rw [← hA]; exact bx 1 rfl rfl)) (xv (e_fld Tryz.underlying54 rfl Tryz.sizeOf3 rfl (q0 rfl)) (xv (eL Tryz.isAgg3 (q0 rfl)) ?_)))))
    refine xv (e_idx k Tryz.underlying22 Tryz.sizeOf3 (q0 rfl) (q0 rfl) (fun _ => ⟨hk, hkn⟩)) (xv (eL Tryz.isAgg3 (q0 rfl)) ?_)
    refine xv (e_fld Tryz.underlying54 rfl Tryz.sizeOf3 rfl (q0 rfl)) (xv (eL Tryz.isAgg3 (q0 rfl)) ?_)
    refine xv (asI rfl) (xv (asI rfl) (XN (thenJ_normal (H_ret (blockJ_ret (thenJ_ret ?_))))))
    exact ret2 (v := .int _ _) (x := .int _ _) rfl rfl rfl rfl fun w' hw => ⟨rfl, hw.1⟩
  · have h1' : ¬ (x.r.wh = 2 ∧ 0 ≤ x.r.pl ∧ x.r.pl < p.places.length) := by
      have h : (((decide (x.r.wh = 2)) && decide (0 ≤ x.r.pl)) && decide (x.r.pl < (a.pl.n : Int))) = false := h1
      simp at h; omega
    refine H_seq (R0 (xv (e_fld Tryz.underlying54 rfl Tryz.sizeOf3 rfl (q0 rfl)) (xv (eL Tryz.isAgg3 (q0 rfl)) ?_)))
    refine xv (e_eq (q0 rfl) (q0 rfl)) (xv (mvB rfl) (xt (e_fld Tryz.underlying54 rfl Tryz.sizeOf3 rfl (q0 rfl)) rfl rfl (xt (eL Tryz.isAgg3 (q1 rfl)) rfl rfl ?_)))
    refine xt (e_ge (q1 rfl) (q0 rfl)) rfl rfl (xv (e_and (q0 rfl) rfl (fun h => by first | rfl | (rw [h]; rfl))) ?_)
    refine xv (mvB rfl) (xt (e_fld Tryz.underlying54 rfl Tryz.sizeOf3 rfl (q0 rfl)) rfl rfl (xt (eL Tryz.isAgg3 (q1 rfl)) rfl rfl ?_))
    refine xt (e_quo (q1 rfl) (q0 rfl) (fun hg => by simp at hg; exact ⟨by omega, by omega, by omega⟩)) rfl rfl (xt (e_fld Tryz.underlying28 rfl Tryz.sizeOf22 rfl (q0 rfl)) rfl rfl (xt (eL Tryz.isAgg22 (q1 rfl)) rfl rfl ?_))
    refine xt (e_len Tryz.underlying22 (q1 rfl)) rfl rfl (xt (e_lt (q1 rfl) (q1 rfl)) rfl rfl (xv (e_and (q0 rfl) rfl (fun h => by first | rfl | (rw [h]; rfl))) ?_))
    refine xv (asB rfl) (XN (thenJ_normal (H_cond rfl (fun h2 => ?_) (fun h2 => ?_))))
    · have h2' : x.r.wh = 1 ∧ 0 ≤ x.r.pl ∧ x.r.pl / 32 < p.docks.length := by
        have h : (((decide (x.r.wh = 1)) && decide (0 ≤ x.r.pl)) && decide (x.r.pl / 32 < (a.d.n : Int))) = true := h2
        simp at h; omega
      obtain ⟨k, hk⟩ : ∃ k : Nat, x.r.pl / 32 = (k : Int) := ⟨(x.r.pl / 32).toNat, by omega⟩
      have hkn : k < a.d.n := by omega
      obtain ⟨b, off, v, hA, hbl, hv, hrv⟩ := hp.dk.at_ hkn
      have hpe : placeP p x.r = (v, 64 + x.r.pl / 32) := by
        unfold placeP
        rw [if_neg h1', if_pos h2', hk, Int.toNat_natCast, List.getD_eq_getElem?_getD, hv]; rfl
      rw [hpe]
      refine H_seq (R0 (xv (e_fld Tryz.underlying54 rfl Tryz.sizeOf3 rfl (q0 rfl)) (xv (eL Tryz.isAgg3 (q0 rfl)) ?_)))
      refine xv (e_quo (q0 rfl) (q0 rfl) (fun _ => ⟨by omega, by omega, by omega⟩)) (xv (asI rfl) (XN (thenJ_normal (H_seq (R0 (xv (e_fld Tryz.underlying28 rfl Tryz.sizeOf22 rfl (q0 rfl)) (xv (e_ld (v := .slice (some ⟨b, off, none⟩) a.d.n a.d.c) Tryz.isAgg22 (q0 rfl) (by rw [← hA]; exact bx 1 rfl rfl)) (xv (mvI rfl) (xv (e_idx k Tryz.underlying22 Tryz.sizeOf3 (q0 rfl) (q0 rfl) (fun _ => ⟨hk, hkn⟩)) ?_)))))))))
      refine xv (eL Tryz.isAgg3 (q0 rfl)) ?_
      refine xv (mvI rfl) (xv (e_add (r := 64 + x.r.pl / 32) (q0 rfl) (q0 rfl) (fun _ => ⟨rfl, by omega, by omega⟩)) (xv (asI rfl) (xv (asI rfl) (XN (thenJ_normal (H_ret (blockJ_ret (thenJ_ret ?_))))))))
      exact ret2 (v := .int _ _) (x := .int _ _) rfl rfl rfl rfl fun w' hw => ⟨rfl, hw.1⟩
    · have h2' : ¬ (x.r.wh = 1 ∧ 0 ≤ x.r.pl ∧ x.r.pl / 32 < p.docks.length) := by
        have h : (((decide (x.r.wh = 1)) && decide (0 ≤ x.r.pl)) && decide (x.r.pl / 32 < (a.d.n : Int))) = false := h2
        simp at h; omega
      refine H_skip (blockJ_normal (thenJ_normal (H_seq (R0 (xv (asI rfl) (xv (asI rfl) (XN (thenJ_normal (H_ret ?_)))))))))
      exact ret2 (v := .int _ _) (x := .int _ _) rfl rfl rfl rfl fun w' hw => ⟨by unfold placeP; rw [if_neg h1', if_neg h2'], hw.1⟩

/-! an item more -/
def Itm.cells (i : Itm) : List Value := [.int .i64 i.kind, .int .i64 i.ref, .int .i64 i.amount]
abbrev itRow (A : Option Addr) (c : Nat) (xs : List Itm) : E.Item := rowT 69 3 Itm.cells A c xs
def Bil.cells (b : Bil) (A : Option Addr) (c : Nat) : List Value := [.int .i64 b.ride, .int .i64 b.rider, .slice A b.items.length c, .int .i64 b.total]
def blBox (q : Nat) (b : Bil) (A : Option Addr) (c : Nat) : E.Item := box q 97 (b.cells A c)
set_option maxRecDepth 20000 in
theorem add_w {w0 w : World} {L : List E.Item} {q : Nat} {b : Bil} {A : Option Addr} {c : Nat} (k r a : Int) (hw : Mem w0 (box q 97 (b.cells A c) :: itRow A c b.items :: L) w) (hmk : marks L = []) (hlen : b.items.length ≤ 100) (hb : -9000000000000000000 ≤ b.total + a ∧ b.total + a ≤ 9000000000000000000) :
    Calls Tryz.prog 55 #[.pointer (some ⟨q, 0, none⟩), .int .i64 k, .int .i64 r, .int .i64 a] w fun e w' => ∃ z : Option Addr × Nat, e = .returned (.tuple #[]) ∧ Mem w0 (box q 97 ((addB b k r a).cells z.1 z.2) :: itRow z.1 z.2 (addB b k r a).items :: L) w' := by
  refine H_enterM hw hmk Tryz.func55 rfl Tryz.ntmps55 rfl (H_seq (H_seq (R0 (xv (mvI rfl) (xv (e_eq (q0 rfl) (q0 rfl)) (XN (thenJ_normal (H_cond rfl (fun h1 => ?_) (fun h1 => ?_)))))))))
  · have h1' : a = 0 := by simpa using h1
    rw [show addB b k r a = b by unfold addB; rw [if_pos h1']]
    refine H_ret (thenJ_ret ?_)
    exact end0 rfl hmk fun w' hw => ⟨(A, c), rfl, hw⟩
  · have h1' : ¬ a = 0 := by simpa using h1
    rw [show addB b k r a = { b with items := b.items ++ [⟨k, r, a⟩], total := b.total + a } by unfold addB; rw [if_neg h1']]
    refine H_skip (thenJ_normal (H_seq (R0 (xv (mvP rfl) (xv (mvP rfl) (xv (e_nilc (q0 rfl)) (xv (e_fld Tryz.underlying97 rfl Tryz.sizeOf44 rfl (q0 rfl)) (xv (e_fld Tryz.underlying44 rfl Tryz.sizeOf42 rfl (q0 rfl)) (xv (eL Tryz.isAgg42 (q0 rfl)) ?_)))))))))
    refine xv (mvI rfl) (xv (mvI rfl) (xv (mvI rfl) (xv (e_build Tryz.underlying69 fl69 Tryz.zeroValue69 (pt (v := .int _ _) rfl (pt (v := .int _ _) rfl (pt (v := .int _ _) rfl E.p0))) rfl) (X_push (k := 3) (i := Tryz.t69) 1 ((⟨k, r, a⟩ : Itm)) Tryz.underlying42 (by kernel_rfl) rfl rfl rfl rfl Tryz.sizeOf69 Tryz.zeroValue69 rfl rfl rfl rfl rfl rfl ⟨by omega, by decide⟩ rfl rfl fun B0 A1 c1 => (xv (e_nilc (q0 rfl)) (xv (e_fld Tryz.underlying97 rfl Tryz.sizeOf44 rfl (q0 rfl)) (xv (e_fld Tryz.underlying44 rfl Tryz.sizeOf42 rfl (q0 rfl)) (X_st (v := .slice _ _ _) rfl rfl Tryz.sizeOf42 ?_))))))))
    refine XN (thenJ_normal (R0 (xv (mvP rfl) (xv (e_nilc (q0 rfl)) (xv (e_fld Tryz.underlying97 rfl Tryz.sizeOf44 rfl (q0 rfl)) (xv (e_fld Tryz.underlying44 rfl Tryz.sizeOf3 rfl (q0 rfl)) (xv (eL Tryz.isAgg3 (q0 rfl)) ?_)))))))
    refine xv (mvI rfl) (xv (e_add (r := b.total + a) (q0 rfl) (q0 rfl) (fun _ => ⟨rfl, by omega, by omega⟩)) (xv (e_nilc (q0 rfl)) (xv (e_fld Tryz.underlying97 rfl Tryz.sizeOf44 rfl (q0 rfl)) (xv (e_fld Tryz.underlying44 rfl Tryz.sizeOf3 rfl (q0 rfl)) (X_st (v := .int _ _) rfl rfl Tryz.sizeOf3 ?_)))))
    refine XN ?_
    exact end0 rfl hmk fun w' hw => ⟨(A1, c1), rfl, hw⟩

end Go.Proofs.Far

/-
  The walks: the items of a ride before the limit of the day.
-/
namespace Go.Proofs.Far
open Go Go.RowKit Go.Proofs.E Go.Proofs.Cus Go.Proofs.Rid

def fVal (o : Option Bil) (z : Nat × Option Addr × Nat) : Value := match o with | some _ => .tuple #[.pointer (some ⟨z.1, 0, none⟩), .int .i64 0] | none => .tuple #[.pointer none, .int .i64 2]
def fItems (o : Option Bil) (z : Nat × Option Addr × Nat) : List E.Item := match o with | some b => [box z.1 97 (b.cells z.2.1 z.2.2), itRow z.2.1 z.2.2 b.items] | none => []
theorem fItems_marks (o : Option Bil) (z : Nat × Option Addr × Nat) : marks (fItems o z) = [] := by cases o <;> rfl
theorem money_ok {n : Int} (h : ¬ 1000000000000 < n) : money n = (n, 0) := by unfold money; rw [if_neg h]
theorem money_no {n : Int} (h : 1000000000000 < n) : money n = (0, 2) := by unfold money; rw [if_pos h]
attribute [local irreducible] ridP pauP ridS pauS money placeP atR partP
set_option maxHeartbeats 2000000 in
set_option maxRecDepth 20000 in
theorem first_w (f : Fl) (p : Pr) (a : PrA) (x : RX) (by_ : Int) (w : World) (hp : PrAt w p a) (hx : RdAt w x) (he : prErr f p = 0) (hc : checkR x.r = 0) (ho : x.r.open_ = false) (hpl : x.r.pl ≤ 9223372036854775807) (hby : -1 ≤ by_ ∧ by_ < p.passes.length) :
    Calls Tryz.prog 48 #[.agg (p.cells a).toArray, .agg x.cells.toArray, .int .i64 by_] w fun e w' => ∃ z : Nat × Option Addr × Nat, e = .returned (fVal (firstP p x.r by_) z) ∧ Mem w (fItems (firstP p x.r by_) z) w' := by
  obtain ⟨_, htf, hpe, _, _, _, _, _, _⟩ := prErr_parts he
  have hs := spOk_iff.1 (checkR_parts hc).1
  have hat : atR p.tariffs x.r.start.lo = (((verO p x.r : Nat) : Int), 0) := by unfold atR; rw [if_neg (by omega), if_neg (by omega)]; rfl
  obtain ⟨hvk, hvt⟩ := ver_ok (r := x.r) htf
  have hvi := tfOk_iff.1 hvt
  have hrs := ridS_range hc
  have hps := pauS_range hc
  have hrn := ridP_nn hvt (s := ridS x.r) hrs.2
  have hpn := pauP_nn hvt (s := pauS x.r) hps.2
  have hfee := place_fee he x.r
  have hbt := base_total p x.r
  have hplt := plc_total p x.r
  have hpat := pass_total p x.r by_
  have hvn : verO p x.r < a.t.n := by
    have := (List.getElem?_eq_some_iff.1 hvk).1
    have := hp.tf.1
    omega
  obtain ⟨tb, toff, t0, htA, htbl, ht0, hrt⟩ := hp.tf.at_ hvn
  rw [hvk] at ht0
  cases ht0
  have hfst : firstP p x.r by_ = if 1000000000000 < ridP (verT p x.r) (ridS x.r) then none else if 1000000000000 < pauP (verT p x.r) (pauS x.r) then none else if 0 ≤ by_ ∧ 1000000000000 < partP p x.r by_ then none else if 1000000000000 < (passB p x.r by_).total then none else some (passB p x.r by_) := rfl
  refine H_enter Tryz.func48 rfl Tryz.ntmps48 rfl (H_seq (R0 (X_box (v := .agg _) rfl rfl fun b3 => (X_box (v := .agg _) rfl rfl fun b4 => (xv (asP rfl) (xv (asI rfl) (XN (thenJ_normal (H_seq ?_)))))))))
  refine R0 (xv (e_fld Tryz.underlying54 rfl Tryz.sizeOf3 rfl (q0 rfl)) (xv (eL Tryz.isAgg3 (q0 rfl)) ?_))
  refine xv (e_fld Tryz.underlying54 rfl Tryz.sizeOf3 rfl (q0 rfl)) (xv (eL Tryz.isAgg3 (q0 rfl)) ?_)
  refine xv (e_build Tryz.underlying44 fl44 Tryz.zeroValue44 (pt (v := .int _ _) rfl (pt (v := .int _ _) rfl E.p0)) rfl) (xv (e_build Tryz.underlying97 fl97 Tryz.zeroValue97 (pt (v := .agg _) rfl E.p0) rfl) (X_box (v := .agg _) rfl rfl fun b27 => (xv (asP rfl) (XN (thenJ_normal (H_seq (H_mem (L' := [box b27 97 ((⟨x.r.id, x.r.rider, [], 0⟩ : Bil).cells none 0), itRow none 0 [], box b4 54 x.cells, box b3 28 (p.cells a)]) (fun w hw => (hw.nilRow 69 3 Itm.cells rfl).pick [1, 0, 2, 3] (by decide)) rfl (R0 (xv (e_fld Tryz.underlying28 rfl Tryz.sizeOf25 rfl (q0 rfl)) ?_)))))))))
  refine xv (eL Tryz.isAgg25 (q0 rfl)) ?_
  refine xv (e_fld Tryz.underlying54 rfl Tryz.sizeOf50 rfl (q0 rfl)) (xv (e_fld Tryz.underlying50 rfl Tryz.sizeOf3 rfl (q0 rfl)) (xv (eL Tryz.isAgg3 (q0 rfl)) ?_))
  refine xC (en Tryz.call23 (ha2 (q0 rfl) (q0 rfl))) (fun _ w hw => tat_w a.t.A a.t.n a.t.c p.tariffs x.r.start.lo w (hp.tf.mem hw)) rfl rfl ?_
  rw [hat]
  refine xv (e_mv (q0 rfl)) (xv (e_ext (q0 rfl) rfl) (xv (e_ext (q0 rfl) rfl) (xv (asI rfl) (xv (asI rfl) (XN (thenJ_normal (H_seq (H_seq (R0 ?_)))))))))
  refine xv (mvI rfl) (xv (e_ne (q0 rfl) (q0 rfl)) (XN (thenJ_normal (H_cond rfl (fun h1 => ?_) (fun h1 => ?_)))))
  · exfalso; simp at h1
  · have _ht : True := trivial
    refine H_skip (thenJ_normal (H_seq (R0 (xv (e_fld Tryz.underlying28 rfl Tryz.sizeOf25 rfl (q0 rfl)) (xv (e_ld (v := .slice (some ⟨tb, toff, none⟩) a.t.n a.t.c) Tryz.isAgg25 (q0 rfl) (by rw [← htA]; exact bx 3 rfl rfl)) (xv (mvI rfl) (xv (e_idx (verO p x.r) Tryz.underlying25 Tryz.sizeOf63 (q0 rfl) (q0 rfl) (fun _ => ⟨rfl, hvn⟩)) (xv (e_lds (vs := (verT p x.r).cells) Tryz.isAgg63 Tryz.sizeOf63 (q0 rfl) (rcs hrt htbl) rfl) (X_alloc Tryz.zeroValue63 rfl fun b11 => ?_)))))))))
    refine X_st (v := .agg _) rfl rfl Tryz.sizeOf63 ?_
    refine XN (thenJ_normal (H_seq (R0 (xv (eS Tryz.isAgg54 Tryz.sizeOf54 (q0 rfl)) ?_))))
    refine xC (en Tryz.call24 (ha1 (q0 rfl))) (fun _ w hw => seconds_w x w (hx.mem hw) hc ho) rfl rfl (xv (e_mv (q0 rfl)) (xv (e_ext (q0 rfl) rfl) (xv (e_ext (q0 rfl) rfl) (xv (e_ext (q0 rfl) rfl) (xv (asI rfl) (xv (asI rfl) (xv (asI rfl) (XN (thenJ_normal ?_)))))))))
    refine H_seq (H_seq (R0 (xv (mvI rfl) (xv (e_ne (q0 rfl) (q0 rfl)) (XN (thenJ_normal (H_cond rfl (fun h2 => ?_) (fun h2 => ?_))))))))
    · exfalso; simp at h2
    · refine H_skip (thenJ_normal (H_seq (R0 (xv (eS Tryz.isAgg63 Tryz.sizeOf63 (q0 rfl)) ?_))))
      refine xv (mvI rfl) (xC (en Tryz.call25 (ha2 (q0 rfl) (q0 rfl))) (fun _ w hw => time_w (verT p x.r) hvt (ridS x.r) hrs w) rfl rfl (xv (e_mv (q0 rfl)) (xv (e_ext (q0 rfl) rfl) (xv (e_ext (q0 rfl) rfl) (xv (asI rfl) (xv (asI rfl) (XN (thenJ_normal (H_seq ?_)))))))))
      refine H_seq (R0 (xv (mvI rfl) (xv (e_ne (q0 rfl) (q0 rfl)) (XN (thenJ_normal (H_cond rfl (fun h3 => ?_) (fun h3 => ?_)))))))
      · have h3' : 1000000000000 < ridP (verT p x.r) (ridS x.r) := by
          apply Classical.byContradiction
          intro hn
          have h : (!decide ((money (ridP (verT p x.r) (ridS x.r))).2 = 0)) = true := h3
          rw [money_ok hn] at h
          simp at h
        rw [hfst, if_pos h3', money_no h3']
        refine H_seq (R0 (xv (mvI rfl) (xv (asP rfl) (xv (asI rfl) (XN (thenJ_normal (H_ret (thenJ_ret ?_))))))))
        exact ret2 (v := .pointer _) (x := .int _ _) rfl rfl rfl rfl fun w' hw => ⟨(0, none, 0), rfl, mem_nil.2 hw.1⟩
      · have h3' : ¬ 1000000000000 < ridP (verT p x.r) (ridS x.r) := fun hn => by
          have h : (!decide ((money (ridP (verT p x.r) (ridS x.r))).2 = 0)) = false := h3
          rw [money_no hn] at h
          simp at h
        rw [if_neg h3'] at hfst
        rw [money_ok h3']
        refine H_skip (thenJ_normal (H_seq (R0 (xv (eS Tryz.isAgg63 Tryz.sizeOf63 (q0 rfl)) ?_))))
        refine xv (mvI rfl) (xC (en Tryz.call92 (ha2 (q0 rfl) (q0 rfl))) (fun _ w hw => pauses_w (verT p x.r) hvt (pauS x.r) hps w) rfl rfl (xv (e_mv (q0 rfl)) (xv (e_ext (q0 rfl) rfl) (xv (e_ext (q0 rfl) rfl) (xv (asI rfl) (xv (asI rfl) (XN (thenJ_normal (H_seq ?_)))))))))
        refine H_seq (R0 (xv (mvI rfl) (xv (e_ne (q0 rfl) (q0 rfl)) (XN (thenJ_normal (H_cond rfl (fun h4 => ?_) (fun h4 => ?_)))))))
        · have h4' : 1000000000000 < pauP (verT p x.r) (pauS x.r) := by
            apply Classical.byContradiction
            intro hn
            have h : (!decide ((money (pauP (verT p x.r) (pauS x.r))).2 = 0)) = true := h4
            rw [money_ok hn] at h
            simp at h
          rw [hfst, if_pos h4', money_no h4']
          refine H_seq (R0 (xv (mvI rfl) (xv (asP rfl) (xv (asI rfl) (XN (thenJ_normal (H_ret (thenJ_ret ?_))))))))
          exact ret2 (v := .pointer _) (x := .int _ _) rfl rfl rfl rfl fun w' hw => ⟨(0, none, 0), rfl, mem_nil.2 hw.1⟩
        · have h4' : ¬ 1000000000000 < pauP (verT p x.r) (pauS x.r) := fun hn => by
            have h : (!decide ((money (pauP (verT p x.r) (pauS x.r))).2 = 0)) = false := h4
            rw [money_no hn] at h
            simp at h
          rw [if_neg h4'] at hfst
          rw [money_ok h4']
          obtain ⟨B1, hB1⟩ : ∃ B1, B1 = addB ⟨x.r.id, x.r.rider, [], 0⟩ 1 (verO p x.r) (verT p x.r).unlock := ⟨_, rfl⟩
          obtain ⟨B2, hB2⟩ : ∃ B2, B2 = addB B1 2 (verO p x.r) (ridP (verT p x.r) (ridS x.r)) := ⟨_, rfl⟩
          obtain ⟨B3, hB3⟩ : ∃ B3, B3 = baseB p x.r := ⟨_, rfl⟩
          obtain ⟨B4, hB4⟩ : ∃ B4, B4 = plcB p x.r := ⟨_, rfl⟩
          have hB3e : B3 = addB B2 3 (verO p x.r) (pauP (verT p x.r) (pauS x.r)) := by rw [hB3, hB2, hB1]; rfl
          have hB4e : B4 = addB B3 4 (placeP p x.r).2 (max (placeP p x.r).1 (-B3.total)) := by rw [hB4, hB3]; rfl
          have t1 : B1.total = (verT p x.r).unlock := by rw [hB1, addB_total]; simp
          have t2 : B2.total = (verT p x.r).unlock + ridP (verT p x.r) (ridS x.r) := by rw [hB2, addB_total, t1]
          have l1 : B1.items.length ≤ 1 := by rw [hB1]; exact addB_len _ _ _ _
          have l2 : B2.items.length ≤ 2 := by have := addB_len B1 2 (verO p x.r) (ridP (verT p x.r) (ridS x.r)); rw [hB2]; omega
          have l3 : B3.items.length ≤ 3 := by have := addB_len B2 3 (verO p x.r) (pauP (verT p x.r) (pauS x.r)); rw [hB3e]; omega
          have l4 : B4.items.length ≤ 4 := by have := addB_len B3 4 (placeP p x.r).2 (max (placeP p x.r).1 (-B3.total)); rw [hB4e]; omega
          rw [← hB3] at hbt hplt
          rw [← hB4] at hplt hpat
          refine H_skip (thenJ_normal (H_seq (R0 (xv (mvP rfl) (xv (mvI rfl) (xv (e_fld Tryz.underlying63 rfl Tryz.sizeOf3 rfl (q0 rfl)) (xv (eL Tryz.isAgg3 (q0 rfl)) ?_)))))))
          refine X_eff (f_callM (en Tryz.call55 (ha4 (q0 rfl) (q0 rfl) (q0 rfl) (q0 rfl))) (fun w hw => add_w 1 (verO p x.r) (verT p x.r).unlock (hw.pick [1, 2, 0, 3, 4] (by decide)) rfl (by simp) (by simp; omega)) rfl (fun _ => rfl) fun z1 => ?_)
          rw [← hB1]
          refine XN (thenJ_normal (H_seq (R0 (xv (mvP rfl) (xv (mvI rfl) (xv (mvI rfl) (X_eff (f_callM (en Tryz.call55 (ha4 (q0 rfl) (q0 rfl) (q0 rfl) (q0 rfl))) (fun w hw => add_w 2 (verO p x.r) (ridP (verT p x.r) (ridS x.r)) hw rfl (by omega) (by omega)) rfl (fun _ => rfl) fun z2 => ?_))))))))
          rw [← hB2]
          refine XN (thenJ_normal (H_seq (R0 (xv (mvP rfl) (xv (mvI rfl) (xv (mvI rfl) (X_eff (f_callM (en Tryz.call55 (ha4 (q0 rfl) (q0 rfl) (q0 rfl) (q0 rfl))) (fun w hw => add_w 3 (verO p x.r) (pauP (verT p x.r) (pauS x.r)) hw rfl (by omega) (by omega)) rfl (fun _ => rfl) fun z3 => ?_))))))))
          rw [← hB3e]
          refine XN (thenJ_normal (H_seq (R0 (xv (mvP rfl) (xv (e_nilc (q0 rfl)) (xv (e_fld Tryz.underlying97 rfl Tryz.sizeOf44 rfl (q0 rfl)) (xv (e_fld Tryz.underlying44 rfl Tryz.sizeOf3 rfl (q0 rfl)) (xv (eL Tryz.isAgg3 (q0 rfl)) ?_))))))))
          refine xv (asI rfl) (XN (thenJ_normal (H_seq (R0 (xv (eS Tryz.isAgg28 Tryz.sizeOf28 (q0 rfl)) ?_)))))
          refine xv (eS Tryz.isAgg54 Tryz.sizeOf54 (q0 rfl)) ?_
          refine xC (en Tryz.call93 (ha2 (q0 rfl) (q0 rfl))) (fun _ w hw => place_w p a x w (hp.mem hw) hpl) rfl rfl (xv (e_mv (q0 rfl)) (xv (e_ext (q0 rfl) rfl) (xv (e_ext (q0 rfl) rfl) (xv (asI rfl) (xv (asI rfl) (XN (thenJ_normal (H_seq (R0 ?_)))))))))
          refine xv (mvP rfl) (xv (mvI rfl) (xv (mvI rfl) (xv (mvI rfl) (xv (e_neg (r := -B3.total) (q0 rfl) (fun _ => ⟨rfl, by omega, by omega⟩)) (xv (e_maxM (q0 rfl) (q0 rfl)) (X_eff (f_callM (en Tryz.call55 (ha4 (q0 rfl) (q0 rfl) (q0 rfl) (q0 rfl))) (fun w hw => add_w 4 (placeP p x.r).2 (max (placeP p x.r).1 (-B3.total)) hw rfl (by omega) (by omega)) rfl (fun _ => rfl) fun z4 => ?_)))))))
          rw [← hB4e]
          refine XN (thenJ_normal (H_seq (H_seq (R0 (xv (mvI rfl) (xv (e_ge (q0 rfl) (q0 rfl)) (XN (thenJ_normal (H_cond rfl (fun h5 => ?_) (fun h5 => ?_))))))))))
          · have h5' : 0 ≤ by_ := of_decide_eq_true h5
            obtain ⟨k, hk⟩ : ∃ k : Nat, by_ = (k : Int) := ⟨by_.toNat, by omega⟩
            subst hk
            have hkl : k < a.p.n := by have := hp.ps.1; omega
            obtain ⟨pb, poff, q, hpA, hpbl, hq, hrq⟩ := hp.ps.at_ hkl
            have hqd : p.passes.getD ((k : Int)).toNat default = q := by rw [Int.toNat_natCast, List.getD_eq_getElem?_getD, hq]; rfl
            have hqs : 0 ≤ q.secs ∧ q.secs ≤ 86400 := by
              have h7 : pasErr p.passes = 0 := hpe
              unfold pasErr at h7
              split at h7
              · cases h7
              · split at h7
                · cases h7
                · rename_i h8
                  have h9 : p.passes.any pasBad = false := by simpa using h8
                  rw [List.any_eq_false] at h9
                  have h10 := h9 q (List.mem_of_getElem? hq)
                  unfold pasBad pasBad1 at h10
                  simp only [Bool.or_eq_true, not_or, Bool.not_eq_true, Bool.not_eq_true', Bool.not_eq_false, inI_iff] at h10
                  exact h10.1.2
            have hpart : partP p x.r (k : Int) = ridP (verT p x.r) (min (ridS x.r) q.secs) := by unfold partP; rw [hqd]
            have hmin : 0 ≤ min (ridS x.r) q.secs ∧ min (ridS x.r) q.secs ≤ 4294944000 := by omega
            have hpnn := ridP_nn hvt (s := min (ridS x.r) q.secs) hmin.2
            rw [← hpart] at hpnn
            refine H_seq (R1 rfl (by decide +kernel) (xv (eS Tryz.isAgg63 Tryz.sizeOf63 (q0 rfl)) ?_))
            refine xv (mvI rfl) (xv (e_fld Tryz.underlying28 rfl Tryz.sizeOf26 rfl (q0 rfl)) (xv (e_ld (v := .slice (some ⟨pb, poff, none⟩) a.p.n a.p.c) Tryz.isAgg26 (q0 rfl) (by rw [← hpA]; exact bx 4 rfl rfl)) (xv (mvI rfl) (xv (e_idx k Tryz.underlying26 Tryz.sizeOf81 (q0 rfl) (q0 rfl) (fun _ => ⟨rfl, hkl⟩)) (xv (e_fld Tryz.underlying81 rfl Tryz.sizeOf3 rfl (q0 rfl)) (xv (e_ld (v := .int .i64 q.secs) Tryz.isAgg3 (q0 rfl) (by exact rc (j := 5) hrq hpbl rfl)) ?_))))))
            refine xv (e_minM (q0 rfl) (q0 rfl)) (xC (en Tryz.call25 (ha2 (q0 rfl) (q0 rfl))) (fun _ w _ => time_w (verT p x.r) hvt (min (ridS x.r) q.secs) hmin w) rfl rfl ?_)
            rw [← hpart]
            refine xv (e_mv (q0 rfl)) (xv (e_ext (q0 rfl) rfl) (xv (e_ext (q0 rfl) rfl) (xv (asI rfl) (xv (asI rfl) (XN (thenJ_normal (H_seq (H_seq (R0 ?_)))))))))
            refine xv (mvI rfl) (xv (e_ne (q0 rfl) (q0 rfl)) (XN (thenJ_normal (H_cond rfl (fun h7 => ?_) (fun h7 => ?_)))))
            · have h7' : 1000000000000 < partP p x.r (k : Int) := by
                apply Classical.byContradiction
                intro hn
                have h : (!decide ((money (partP p x.r (k : Int))).2 = 0)) = true := h7
                rw [money_ok hn] at h
                simp at h
              rw [if_pos ⟨h5', h7'⟩] at hfst
              rw [hfst, money_no h7']
              refine H_seq (R0 (xv (mvI rfl) (xv (asP rfl) (xv (asI rfl) (XN (thenJ_normal (H_ret (thenJ_ret (thenJ_ret ?_)))))))))
              exact ret2 (v := .pointer _) (x := .int _ _) rfl rfl rfl rfl fun w' hw => ⟨(0, none, 0), rfl, mem_nil.2 hw.1⟩
            · have h7' : ¬ 1000000000000 < partP p x.r (k : Int) := fun hn => by
                have h : (!decide ((money (partP p x.r (k : Int))).2 = 0)) = false := h7
                rw [money_no hn] at h
                simp at h
              rw [if_neg (fun h => h7' h.2)] at hfst
              rw [money_ok h7']
              obtain ⟨B5, hB5⟩ : ∃ B5, B5 = passB p x.r (k : Int) := ⟨_, rfl⟩
              have hB5e : B5 = addB B4 5 (k : Int) (-(min B4.total ((verT p x.r).unlock + partP p x.r (k : Int)))) := by rw [hB5]; unfold passB; rw [if_pos h5', ← hB4]
              rw [← hB5] at hfst hpat
              rw [if_pos h5'] at hpat
              refine H_skip (thenJ_normal (RAd 2 rfl (by decide +kernel) (aV 0 (by decide +kernel) rfl (mvP rfl) rfl (aV 1 (by decide +kernel) rfl (mvI rfl) rfl (aV 2 (by decide +kernel) rfl (mvP rfl) rfl (aV 3 (by decide +kernel) rfl (e_nilc (q0 rfl)) rfl (aV 4 (by decide +kernel) rfl (e_fld Tryz.underlying97 rfl Tryz.sizeOf44 rfl (q0 rfl)) rfl (aV 5 (by decide +kernel) rfl (e_fld Tryz.underlying44 rfl Tryz.sizeOf3 rfl (q0 rfl)) rfl (aV 7 (by decide +kernel) rfl (e_fld Tryz.underlying63 rfl Tryz.sizeOf3 rfl (q0 rfl)) rfl ?_)))))))))
              refine aV 8 (by decide +kernel) rfl (eL Tryz.isAgg3 (q0 rfl)) rfl ?_
              refine aV 9 (by decide +kernel) rfl (mvI rfl) rfl (aV 10 (by decide +kernel) rfl (e_add (r := (verT p x.r).unlock + partP p x.r (k : Int)) (q0 rfl) (q0 rfl) (fun _ => ⟨rfl, by omega, by omega⟩)) rfl (rdy1 (i := 6) (by decide +kernel) (sub_drop 2) (aL rfl (f_ev (e_ld (v := .int .i64 B4.total) Tryz.isAgg3 (q0 rfl) (bx 0 rfl rfl)) rfl rfl (aV 11 (by decide +kernel) rfl (e_minM (q0 rfl) (q0 rfl)) rfl (aV 12 (by decide +kernel) rfl (e_neg (r := -(min B4.total ((verT p x.r).unlock + partP p x.r (k : Int)))) (q0 rfl) (fun _ => ⟨rfl, by omega, by omega⟩)) rfl (rdy1 (i := 13) (by decide +kernel) (sub_drop 2) (aL rfl (f_callM (en Tryz.call55 (ha4 (q0 rfl) (q0 rfl) (q0 rfl) (q0 rfl))) (fun w hw => add_w 5 (k : Int) (-(min B4.total ((verT p x.r).unlock + partP p x.r (k : Int)))) hw rfl (by omega) (by omega)) rfl (fun _ => rfl) fun z5 => (aZ (by decide +kernel) (sub_drop 2) (thenJ_normal ?_)))))))))))
              refine H_seq (H_seq (R0 (xv (mvP rfl) (xv (e_nilc (q0 rfl)) (xv (e_fld Tryz.underlying97 rfl Tryz.sizeOf44 rfl (q0 rfl)) (xv (e_fld Tryz.underlying44 rfl Tryz.sizeOf3 rfl (q0 rfl)) (xv (eL Tryz.isAgg3 (q0 rfl)) ?_)))))))
              refine xv (e_gt (q0 rfl) (q0 rfl)) (XN (thenJ_normal (H_cond rfl (fun h8 => ?_) (fun h8 => ?_))))
              · have h8' : 1000000000000 < B5.total := by rw [hB5e]; exact of_decide_eq_true h8
                rw [hfst, if_pos h8']
                refine H_seq (R0 (xv (asP rfl) (xv (asI rfl) (XN (thenJ_normal (H_ret (thenJ_ret ?_)))))))
                exact ret2 (v := .pointer _) (x := .int _ _) rfl rfl rfl rfl fun w' hw => ⟨(0, none, 0), rfl, mem_nil.2 hw.1⟩
              · have h8' : ¬ 1000000000000 < B5.total := by rw [hB5e]; exact of_decide_eq_false h8
                rw [hfst, if_neg h8']
                refine H_skip (thenJ_normal (H_seq (R0 (xv (mvP rfl) (xv (asP rfl) (xv (asI rfl) (XN (thenJ_normal (H_ret ?_)))))))))
                exact ret2 (v := .pointer _) (x := .int _ _) rfl rfl rfl rfl fun w' hw => ⟨(b27, z5.1, z5.2), rfl, by rw [hB5e]; exact hw.pick [0, 1] (by decide)⟩
          · have h5' : ¬ 0 ≤ by_ := of_decide_eq_false h5
            have hpB : passB p x.r by_ = B4 := by unfold passB; rw [if_neg h5', hB4]
            rw [if_neg (fun h => h5' h.1), hpB] at hfst
            refine H_skip (thenJ_normal (H_seq (H_seq (R0 (xv (mvP rfl) (xv (e_nilc (q0 rfl)) (xv (e_fld Tryz.underlying97 rfl Tryz.sizeOf44 rfl (q0 rfl)) (xv (e_fld Tryz.underlying44 rfl Tryz.sizeOf3 rfl (q0 rfl)) (xv (eL Tryz.isAgg3 (q0 rfl)) ?_)))))))))
            refine xv (e_gt (q0 rfl) (q0 rfl)) (XN (thenJ_normal (H_cond rfl (fun h6 => ?_) (fun h6 => ?_))))
            · have h6' : 1000000000000 < B4.total := of_decide_eq_true h6
              rw [hfst, if_pos h6']
              refine H_seq (R0 (xv (asP rfl) (xv (asI rfl) (XN (thenJ_normal (H_ret (thenJ_ret ?_)))))))
              exact ret2 (v := .pointer _) (x := .int _ _) rfl rfl rfl rfl fun w' hw => ⟨(0, none, 0), rfl, mem_nil.2 hw.1⟩
            · have h6' : ¬ 1000000000000 < B4.total := of_decide_eq_false h6
              rw [hfst, if_neg h6']
              refine H_skip (thenJ_normal (H_seq (R0 (xv (mvP rfl) (xv (asP rfl) (xv (asI rfl) (XN (thenJ_normal (H_ret ?_)))))))))
              exact ret2 (v := .pointer _) (x := .int _ _) rfl rfl rfl rfl fun w' hw => ⟨(b27, z4.1, z4.2), rfl, hw.pick [0, 1] (by decide)⟩

end Go.Proofs.Far

/-
  Plain functions: the fares of rides.
-/
namespace Go.Proofs.Far
open Go.Proofs.Cus Go.Proofs.Rid

theorem twice_nodup : ∀ (l seen : List Int), twiceI seen l = false → l.Nodup ∧ ∀ x ∈ l, x ∉ seen
  | [], _, _ => ⟨List.nodup_nil, fun x hx => by cases hx⟩
  | y :: l, seen, h => by
    unfold twiceI at h
    rw [Bool.or_eq_false_iff] at h
    obtain ⟨h1, h2⟩ := twice_nodup l _ h.2
    have hy : y ∉ seen := fun hm => by
      have := h.1
      rw [List.any_eq_false] at this
      exact this y hm (by simp)
    refine ⟨List.nodup_cons.2 ⟨fun hm => h2 y hm (by simp), h1⟩, fun x hx => ?_⟩
    rcases List.mem_cons.1 hx with rfl | hx
    · exact hy
    · exact fun hm => h2 x hx (by simp [hm])
theorem nodup_twice : ∀ (l seen : List Int), l.Nodup → (∀ x ∈ l, x ∉ seen) → twiceI seen l = false
  | [], _, _, _ => rfl
  | y :: l, seen, h, hs => by
    unfold twiceI
    obtain ⟨h1, h2⟩ := List.nodup_cons.1 h
    rw [Bool.or_eq_false_iff]
    refine ⟨?_, nodup_twice l _ h2 fun x hx hm => ?_⟩
    · rw [List.any_eq_false]
      intro x hx
      have : ¬ x = y := fun e => hs y (by simp) (e ▸ hx)
      simpa using this
    · rcases List.mem_append.1 hm with hm | hm
      · exact hs x (List.mem_cons_of_mem _ hx) hm
      · simp at hm; subst hm; exact h1 hx
/-- the rides that count, in their order -/
def cntS (rs : List Rd) : List Rd := (rs.filter fun r => !r.open_).mergeSort fun a b => !rideLt b a
theorem rideLt_trans {a b c : Rd} (h1 : rideLt a b = true) (h2 : rideLt b c = true) : rideLt a c = true := by
  unfold rideLt at *
  simp only [decide_eq_true_eq] at *
  omega
theorem rideLe_total (a b : Rd) : (!rideLt b a || !rideLt a b) = true := by
  unfold rideLt
  simp only [Bool.or_eq_true, Bool.not_eq_true', decide_eq_false_iff_not]
  omega
theorem rideLe_trans (a b c : Rd) (h1 : (!rideLt b a) = true) (h2 : (!rideLt c b) = true) : (!rideLt c a) = true := by
  unfold rideLt at *
  simp only [Bool.not_eq_true', decide_eq_false_iff_not] at *
  omega
theorem rideLt_of {a b : Rd} (h : rideLt b a = false) (hne : a.id ≠ b.id) : rideLt a b = true := by
  unfold rideLt at *
  simp only [decide_eq_true_eq, decide_eq_false_iff_not] at *
  omega
theorem cntS_perm (rs : List Rd) : (cntS rs).Perm (rs.filter fun r => !r.open_) := List.mergeSort_perm _ _
theorem strict_of {l : List Rd} (hs : l.Pairwise fun a b => rideLt b a = false) (hn : (l.map (·.id)).Nodup) : l.Pairwise fun a b => rideLt a b = true := by
  have h2 : l.Pairwise fun a b => a.id ≠ b.id := List.pairwise_map.1 hn
  exact (hs.and h2).imp fun h => rideLt_of h.1 h.2
theorem good_ids {rs : List Rd} (h : Good rs) : ((rs.filter fun r => !r.open_).map (·.id)).Nodup := (twice_nodup _ _ h.ids).1.sublist (List.filter_sublist.map _)
theorem cntS_strict {rs : List Rd} (h : Good rs) : (cntS rs).Pairwise fun a b => rideLt a b = true := by
  refine strict_of ?_ (((cntS_perm rs).map _).nodup_iff.2 (good_ids h))
  have := List.pairwise_mergeSort (le := fun a b : Rd => !rideLt b a) (fun a b c h1 h2 => rideLe_trans a b c h1 h2) (fun a b => rideLe_total a b) (rs.filter fun r => !r.open_)
  exact this.imp fun h => by simpa using h
/-- any order that is sorted is this one -/
theorem cntS_unique {rs l : List Rd} (h : Good rs) (hp : l.Perm (rs.filter fun r => !r.open_)) (hs : l.Pairwise fun a b => rideLt b a = false) : l = cntS rs := by
  have h1 := strict_of hs ((hp.map _).nodup_iff.2 (good_ids h))
  refine List.Perm.eq_of_pairwise (le := fun a b => rideLt a b = true) (fun a b _ _ h2 h3 => ?_) h1 (cntS_strict h) (hp.trans (cntS_perm rs).symm)
  have := rideLt_trans h2 h3
  unfold rideLt at this
  simp at this
theorem cntS_good {rs : List Rd} (h : Good rs) : Good (cntS rs) := by
  have hm : ∀ r ∈ cntS rs, r ∈ rs := fun r hr => (List.mem_filter.1 ((cntS_perm rs).mem_iff.1 hr)).1
  refine ⟨fun r hr => h.ok r (hm r hr), nodup_twice _ _ (((cntS_perm rs).map _).nodup_iff.2 (good_ids h)) (fun x _ => by simp), ?_⟩
  rw [(cntS_perm rs).length_eq]
  exact Nat.le_trans (List.length_filter_le _ _) h.few
theorem cntS_closed {rs : List Rd} {r : Rd} (h : r ∈ cntS rs) : r ∈ rs ∧ r.open_ = false := by
  have := List.mem_filter.1 ((cntS_perm rs).mem_iff.1 h)
  exact ⟨this.1, by simpa using this.2⟩

/-! the items before the limit -/
def fsStep (p : Pr) (o : Option (List Bil)) (x : Rd × Int) : Option (List Bil) := match o with | none => none | some bs => match firstP p x.1 x.2 with | none => none | some b => some (bs ++ [b])
def fsAll (p : Pr) (l : List (Rd × Int)) : Option (List Bil) := l.foldl (fsStep p) (some [])
def FS (p : Pr) (l : List (Rd × Int)) (k : Nat) : Option (List Bil) := (l.take k).foldl (fsStep p) (some [])
theorem fs_none (p : Pr) : ∀ l : List (Rd × Int), l.foldl (fsStep p) none = none
  | [] => rfl
  | x :: l => by rw [List.foldl_cons]; exact fs_none p l
theorem FS_succ {p : Pr} {l : List (Rd × Int)} {k : Nat} {x : Rd × Int} (h : l[k]? = some x) : FS p l (k + 1) = fsStep p (FS p l k) x := by
  unfold FS
  rw [List.take_add_one, h, List.foldl_append]; rfl
theorem FS_none {p : Pr} {l : List (Rd × Int)} {k : Nat} (h : FS p l k = none) : fsAll p l = none := by
  unfold fsAll
  rw [← List.take_append_drop k l, List.foldl_append]
  unfold FS at h
  rw [h]
  exact fs_none p _
theorem FS_all {p : Pr} {l : List (Rd × Int)} {k : Nat} (h : l.length ≤ k) : FS p l k = fsAll p l := by
  unfold FS fsAll
  rw [List.take_of_length_le h]
/-! the rest of the items -/
def vIdx (vs : List Pen.V) (ride : Int) : Int := match (List.range vs.length).find? fun k => (vs.getD k Pen.V.zero).ride == ride with | some k => (k : Int) | none => -1
def finB (p : Pr) (vs : List Pen.V) (b : Bil) (d : Int) : Bil :=
  if vIdx vs b.ride < 0 then addB b 6 0 d else addB (addB b 6 0 d) 7 (Pen.numR p.fines p.days vs (vIdx vs b.ride)).1 (Pen.fineR p.fines p.days vs (vIdx vs b.ride)).1
def fnStep (p : Pr) (vs : List Pen.V) (o : Option (List Bil)) (x : Bil × Int) : Option (List Bil) := match o with | none => none | some bs => if 1000000000000 < (finB p vs x.1 (x.2 - x.1.total)).total then none else some (bs ++ [finB p vs x.1 (x.2 - x.1.total)])
def fnAll (p : Pr) (vs : List Pen.V) (l : List (Bil × Int)) : Option (List Bil) := l.foldl (fnStep p vs) (some [])
def FN (p : Pr) (vs : List Pen.V) (l : List (Bil × Int)) (k : Nat) : Option (List Bil) := (l.take k).foldl (fnStep p vs) (some [])
theorem fn_none (p : Pr) (vs : List Pen.V) : ∀ l : List (Bil × Int), l.foldl (fnStep p vs) none = none
  | [] => rfl
  | x :: l => by rw [List.foldl_cons]; exact fn_none p vs l
theorem FN_succ {p : Pr} {vs : List Pen.V} {l : List (Bil × Int)} {k : Nat} {x : Bil × Int} (h : l[k]? = some x) : FN p vs l (k + 1) = fnStep p vs (FN p vs l k) x := by
  unfold FN
  rw [List.take_add_one, h, List.foldl_append]; rfl
theorem FN_none {p : Pr} {vs : List Pen.V} {l : List (Bil × Int)} {k : Nat} (h : FN p vs l k = none) : fnAll p vs l = none := by
  unfold fnAll
  rw [← List.take_append_drop k l, List.foldl_append]
  unfold FN at h
  rw [h]
  exact fn_none p vs _
theorem FN_all {p : Pr} {vs : List Pen.V} {l : List (Bil × Int)} {k : Nat} (h : l.length ≤ k) : FN p vs l k = fnAll p vs l := by
  unfold FN fnAll
  rw [List.take_of_length_le h]
def dyOf (x : Rd × Bil) : Dy := ⟨x.1.rider, x.1.start.lo / 86400, x.2.total⟩
def useOf (p : Pr) (l : List Rd) : List Int := (useS p.passes (l.map reqR)).1
def paidOf (p : Pr) (l : List Rd) (bs : List Bil) : List Int := (dayS p.cap ((l.zip bs).map dyOf)).map (·.2)
def byRide (l : List Bil) : List Bil := l.mergeSort fun a b => decide (a.ride ≤ b.ride)
def allP (p : Pr) (rs : List Rd) (vs : List Pen.V) : Option (List Bil) :=
  match fsAll p ((cntS rs).zip (useOf p (cntS rs))) with
  | none => none
  | some bs => match fnAll p vs (bs.zip (paidOf p (cntS rs) bs)) with
    | none => none
    | some cs => some (byRide cs)
def allErr (f : Fl) (p : Pr) (rs : List Rd) (vs : List Pen.V) : Int :=
  if prErr f p ≠ 0 then prErr f p else if rdsErr rs ≠ 0 then rdsErr rs else if Pen.vErr vs ≠ 0 then Pen.vErr vs else if allP p rs vs = none then 2 else 0
def allR (f : Fl) (p : Pr) (rs : List Rd) (vs : List Pen.V) : List Bil := if prErr f p ≠ 0 ∨ rdsErr rs ≠ 0 ∨ Pen.vErr vs ≠ 0 then [] else (allP p rs vs).getD []

/-! bounds -/
theorem first_facts {f : Fl} {p : Pr} {r : Rd} {u : Int} {b : Bil} (he : prErr f p = 0) (hc : checkR r = 0) (h : firstP p r u = some b) : 0 ≤ b.total ∧ b.total ≤ 1000000000000 ∧ b.items.length ≤ 5 ∧ b.ride = r.id ∧ b.rider = r.rider := by
  obtain ⟨_, htf, _⟩ := prErr_parts he
  obtain ⟨hvk, hvt⟩ := ver_ok (r := r) htf
  have hvi := tfOk_iff.1 hvt
  have hrs := ridS_range hc
  have hps := pauS_range hc
  have hrn := ridP_nn hvt (s := ridS r) hrs.2
  have hpn := pauP_nn hvt (s := pauS r) hps.2
  have hbt := base_total p r
  have hplt := plc_total p r
  have hpat := pass_total p r u
  unfold firstP at h
  split at h
  · cases h
  · split at h
    · cases h
    · split at h
      · cases h
      · split at h
        · cases h
        · rename_i h4
          cases h
          refine ⟨?_, by omega, ?_, ?_, ?_⟩
          · rw [hpat]
            split
            · omega
            · omega
          · have l1 : (baseB p r).items.length ≤ 3 := by
              unfold baseB
              have a1 := addB_len ⟨r.id, r.rider, [], 0⟩ 1 (verO p r) (verT p r).unlock
              have a2 := addB_len (addB ⟨r.id, r.rider, [], 0⟩ 1 (verO p r) (verT p r).unlock) 2 (verO p r) (ridP (verT p r) (ridS r))
              have a3 := addB_len (addB (addB ⟨r.id, r.rider, [], 0⟩ 1 (verO p r) (verT p r).unlock) 2 (verO p r) (ridP (verT p r) (ridS r))) 3 (verO p r) (pauP (verT p r) (pauS r))
              simp only [List.length_nil] at a1
              omega
            have l2 : (plcB p r).items.length ≤ 4 := by
              have := addB_len (baseB p r) 4 (placeP p r).2 (max (placeP p r).1 (-(baseB p r).total))
              unfold plcB; omega
            unfold passB
            split
            · have := addB_len (plcB p r) 5 u (-(min (plcB p r).total ((verT p r).unlock + partP p r u))); omega
            · omega
          · unfold passB plcB baseB
            split <;> simp only [addB_ride]
          · unfold passB plcB baseB
            split <;> simp only [addB_ride]
theorem fineR_range {fines : List Int} {days : Int} {vs : List Pen.V} {i : Int} (h : Pen.pErr fines days = 0) : 0 ≤ (Pen.fineR fines days vs i).1 ∧ (Pen.fineR fines days vs i).1 ≤ 1000000 := by
  unfold Pen.fineR
  split
  · simp
  · split
    · simp
    · simp only
      unfold Pen.fine
      split
      · simp
      · have hb : fines.any Pen.fineBad = false := by
          unfold Pen.pErr at h
          split at h
          · cases h
          · split at h
            · cases h
            · rename_i h2; simpa using h2
        rw [List.any_eq_false] at hb
        rw [List.getD_eq_getElem?_getD]
        cases hk : fines[min (Pen.num days vs (vs.getD i.toNat Pen.V.zero)).toNat fines.length - 1]? with
        | none => simp
        | some x =>
          have := hb x (List.mem_of_getElem? hk)
          unfold Pen.fineBad at this
          simp at this
          simp only [Option.getD_some]
          omega

end Go.Proofs.Far

/-
  The walks: the rides that count are sorted; the fares are sorted; the penalty of a fare.
-/
namespace Go.Proofs.Far
open Go Go.RowKit Go.Proofs.E Go.Proofs.Cus Go.Proofs.Rid

set_option maxRecDepth 20000 in
theorem all1_w (x y : RX) (w : World) : Calls Tryz.prog 44 #[.agg x.cells.toArray, .agg y.cells.toArray] w fun e w' => e = .returned (.int .i64 (rideCmp x.r y.r)) ∧ Bel w w' := by
  refine H_enter Tryz.func44 rfl Tryz.ntmps44 rfl (H_seq (R0 (X_box (v := .agg _) rfl rfl fun b2 => (X_box (v := .agg _) rfl rfl fun b3 => (xv (asI rfl) (XN (thenJ_normal (H_seq (RA rfl (by decide +kernel) ?_)))))))))
  refine aV 0 (by decide +kernel) rfl (e_fld Tryz.underlying54 rfl Tryz.sizeOf50 rfl (q0 rfl)) rfl (aV 1 (by decide +kernel) rfl (e_fld Tryz.underlying50 rfl Tryz.sizeOf3 rfl (q0 rfl)) rfl (aV 2 (by decide +kernel) rfl (eL Tryz.isAgg3 (q0 rfl)) rfl ?_))
  refine aV 3 (by decide +kernel) rfl (e_fld Tryz.underlying54 rfl Tryz.sizeOf50 rfl (q0 rfl)) rfl (aV 4 (by decide +kernel) rfl (e_fld Tryz.underlying50 rfl Tryz.sizeOf3 rfl (q0 rfl)) rfl (aV 5 (by decide +kernel) rfl (eL Tryz.isAgg3 (q0 rfl)) rfl ?_))
  refine aV 7 (by decide +kernel) rfl (e_fld Tryz.underlying54 rfl Tryz.sizeOf50 rfl (q0 rfl)) rfl (aV 8 (by decide +kernel) rfl (e_fld Tryz.underlying50 rfl Tryz.sizeOf3 rfl (q0 rfl)) rfl (aV 9 (by decide +kernel) rfl (eL Tryz.isAgg3 (q0 rfl)) rfl ?_))
  refine aV 10 (by decide +kernel) rfl (e_fld Tryz.underlying54 rfl Tryz.sizeOf50 rfl (q0 rfl)) rfl (aV 11 (by decide +kernel) rfl (e_fld Tryz.underlying50 rfl Tryz.sizeOf3 rfl (q0 rfl)) rfl (aV 12 (by decide +kernel) rfl (eL Tryz.isAgg3 (q0 rfl)) rfl ?_))
  refine aV 14 (by decide +kernel) rfl (e_fld Tryz.underlying54 rfl Tryz.sizeOf3 rfl (q0 rfl)) rfl (aV 15 (by decide +kernel) rfl (eL Tryz.isAgg3 (q0 rfl)) rfl ?_)
  refine aV 16 (by decide +kernel) rfl (e_fld Tryz.underlying54 rfl Tryz.sizeOf3 rfl (q0 rfl)) rfl (aV 17 (by decide +kernel) rfl (eL Tryz.isAgg3 (q0 rfl)) rfl ?_)
  refine aC 6 (by decide +kernel) rfl (en Tryz.call46 (ha2 (q0 rfl) (q0 rfl))) (fun _ w _ => compare_w x.r.start.lo y.r.start.lo w) rfl (aC 13 (by decide +kernel) rfl (en Tryz.call46 (ha2 (q0 rfl) (q0 rfl))) (fun _ w _ => compare_w x.r.end_.lo y.r.end_.lo w) rfl (aC 18 (by decide +kernel) rfl (en Tryz.call46 (ha2 (q0 rfl) (q0 rfl))) (fun _ w _ => compare_w x.r.id y.r.id w) rfl (rdy1 (i := 19) (by decide +kernel) (sub_drop 0) (aL rfl (f_slit [(.int .i64 0), (.int .i64 0), (.int .i64 0)] Tryz.underlying22 Tryz.sizeOf3 Tryz.zeroValue3 rfl (by kernel_rfl) (pt (v := .int _ _) rfl (pt (v := .int _ _) rfl (pt (v := .int _ _) rfl E.p0))) rfl rfl fun b24 => (aRL (sub_drop 1) (aC 20 (by decide +kernel) rfl (en Tryz.call45 (ha1 (q0 rfl))) (fun _ w hm => or_w _ 3 3 [cmpI x.r.start.lo y.r.start.lo, cmpI x.r.end_.lo y.r.end_.lo, cmpI x.r.id y.r.id] w (slAt_box (enc := encInt) hm (j := 0) rfl (fun _ => rfl) (by simp))) rfl (aV 21 (by decide +kernel) rfl (asI rfl) rfl (aZ (by decide +kernel) (sub_drop 0) (thenJ_normal ?_))))))))))
  refine H_ret ?_
  exact ret1 (v := .int _ _) rfl rfl rfl fun w' hw => ⟨rfl, hw.1⟩
def sortRd_ren : Go.Shelf.Ren := ⟨fun | 6 => 43 | 15 => 88 | 14 => 87 | 28 => 135 | 29 => 136 | 20 => 127 | 21 => 128 | 22 => 129 | 23 => 130 | 24 => 131 | 25 => 132 | 26 => 133 | 27 => 134 | 46 => 174 | 47 => 175 | 48 => 176 | 49 => 177 | 50 => 178 | 57 => 193 | n => n, fun | 22 => 36 | 24 => 54 | 25 => 89 | 3 => 3 | 39 => 138 | 0 => 0 | 53 => 174 | 55 => 176 | 4 => 4 | 46 => 167 | 45 => 166 | 50 => 171 | 5 => 5 | 9 => 9 | 66 => 208 | 70 => 212 | 76 => 221 | 77 => 142 | n => n, fun | n => n⟩
theorem sortRd : Go.Proofs.SlLaysF0.n6 Tryz.prog sortRd_ren := {
  mixed := by kernel_rfl,
  f6 := ⟨Tryz.f43.name, by decide, Tryz.func43.trans (congrArg some (by kernel_rfl))⟩,
  f14 := ⟨Tryz.f87.name, by decide, Tryz.func87.trans (congrArg some (by kernel_rfl))⟩,
  f15 := Tryz.func88.trans (congrArg some (by kernel_rfl)),
  f20 := ⟨Tryz.f127.name, by decide, Tryz.func127.trans (congrArg some (by kernel_rfl))⟩,
  f21 := ⟨Tryz.f128.name, by decide, Tryz.func128.trans (congrArg some (by kernel_rfl))⟩,
  f22 := ⟨Tryz.f129.name, by decide, Tryz.func129.trans (congrArg some (by kernel_rfl))⟩,
  f23 := ⟨Tryz.f130.name, by decide, Tryz.func130.trans (congrArg some (by kernel_rfl))⟩,
  f24 := ⟨Tryz.f131.name, by decide, Tryz.func131.trans (congrArg some (by kernel_rfl))⟩,
  f25 := ⟨Tryz.f132.name, by decide, Tryz.func132.trans (congrArg some (by kernel_rfl))⟩,
  f26 := ⟨Tryz.f133.name, by decide, Tryz.func133.trans (congrArg some (by kernel_rfl))⟩,
  f27 := ⟨Tryz.f134.name, by decide, Tryz.func134.trans (congrArg some (by kernel_rfl))⟩,
  f28 := Tryz.func135.trans (congrArg some (by kernel_rfl)),
  f29 := Tryz.func136.trans (congrArg some (by kernel_rfl)),
  f46 := ⟨Tryz.f174.name, by decide, Tryz.func174.trans (congrArg some (by kernel_rfl))⟩,
  f47 := Tryz.func175.trans (congrArg some (by kernel_rfl)),
  f48 := Tryz.func176.trans (congrArg some (by kernel_rfl)),
  f49 := ⟨Tryz.f177.name, by decide, Tryz.func177.trans (congrArg some (by kernel_rfl))⟩,
  f50 := ⟨Tryz.f178.name, by decide, Tryz.func178.trans (congrArg some (by kernel_rfl))⟩,
  f57 := ⟨Tryz.f193.name, by decide, Tryz.func193.trans (congrArg some (by kernel_rfl))⟩,
  t0 := Tryz.underlying0,
  a0 := Tryz.isAgg0,
  z0 := Tryz.sizeOf0,
  v0 := Tryz.zeroValue0,
  t3 := Tryz.underlying3,
  a3 := Tryz.isAgg3,
  z3 := Tryz.sizeOf3,
  v3 := Tryz.zeroValue3,
  t4 := Tryz.underlying4,
  a4 := Tryz.isAgg4,
  z4 := Tryz.sizeOf4,
  v4 := Tryz.zeroValue4,
  t5 := Tryz.underlying5,
  a5 := Tryz.isAgg5,
  z5 := Tryz.sizeOf5,
  v5 := Tryz.zeroValue5,
  t9 := Tryz.underlying9,
  a9 := Tryz.isAgg9,
  z9 := Tryz.sizeOf9,
  v9 := Tryz.zeroValue9,
  t22 := Tryz.underlying36,
  a22 := Tryz.isAgg36,
  z22 := Tryz.sizeOf36,
  v22 := Tryz.zeroValue36,
  t25 := Tryz.underlying89,
  a25 := Tryz.isAgg89,
  z25 := Tryz.sizeOf89,
  v25 := Tryz.zeroValue89,
  t39 := Tryz.underlying138,
  a39 := Tryz.isAgg138,
  z39 := Tryz.sizeOf138,
  v39 := Tryz.zeroValue138,
  t45 := Tryz.underlying166,
  a45 := Tryz.isAgg166,
  z45 := Tryz.sizeOf166,
  v45 := Tryz.zeroValue166,
  t46 := Tryz.underlying167,
  a46 := Tryz.isAgg167,
  z46 := Tryz.sizeOf167,
  v46 := Tryz.zeroValue167,
  t50 := Tryz.underlying171,
  a50 := Tryz.isAgg171,
  z50 := Tryz.sizeOf171,
  v50 := Tryz.zeroValue171,
  t53 := Tryz.underlying174,
  a53 := Tryz.isAgg174,
  z53 := Tryz.sizeOf174,
  v53 := Tryz.zeroValue174,
  t55 := Tryz.underlying176,
  a55 := Tryz.isAgg176,
  z55 := Tryz.sizeOf176,
  v55 := Tryz.zeroValue176,
  t66 := Tryz.underlying208,
  a66 := Tryz.isAgg208,
  z66 := Tryz.sizeOf208,
  v66 := Tryz.zeroValue208,
  t70 := Tryz.underlying212,
  a70 := Tryz.isAgg212,
  z70 := Tryz.sizeOf212,
  v70 := Tryz.zeroValue212,
  t76 := Tryz.underlying221,
  a76 := Tryz.isAgg221,
  z76 := Tryz.sizeOf221,
  v76 := Tryz.zeroValue221,
  t77 := Tryz.underlying142,
  a77 := Tryz.isAgg142,
  z77 := Tryz.sizeOf142,
  v77 := Tryz.zeroValue142 }
/-- a fare, and where its items lie -/
structure FX where
  b : Bil
  A : Option Addr
  c : Nat
deriving Inhabited
def FX.cells (x : FX) : List Value := x.b.cells x.A x.c
abbrev faRow (A : Option Addr) (c : Nat) (xs : List FX) : E.Item := rowT 44 4 FX.cells A c xs
abbrev ItsAt (w : World) (A : Option Addr) (n : Nat) (l : List Itm) : Prop := SlAt w 3 Itm.cells A n l
def faParts (x : FX) : List E.Item := [itRow x.A x.c x.b.items]
theorem all3_w (x y : FX) (w : World) : Calls Tryz.prog 57 #[.agg x.cells.toArray, .agg y.cells.toArray] w fun e w' => e = .returned (.int .i64 (cmpI x.b.ride y.b.ride)) ∧ Bel w w' := by
  refine H_enter Tryz.func57 rfl Tryz.ntmps57 rfl (H_seq (R0 (X_box (v := .agg _) rfl rfl fun b2 => (X_box (v := .agg _) rfl rfl fun b3 => (xv (asI rfl) (XN (thenJ_normal (H_seq (R0 ?_)))))))))
  refine xv (e_fld Tryz.underlying44 rfl Tryz.sizeOf3 rfl (q0 rfl)) (xv (eL Tryz.isAgg3 (q0 rfl)) ?_)
  refine xv (e_fld Tryz.underlying44 rfl Tryz.sizeOf3 rfl (q0 rfl)) (xv (eL Tryz.isAgg3 (q0 rfl)) ?_)
  refine xC (en Tryz.call46 (ha2 (q0 rfl) (q0 rfl))) (fun _ w _ => compare_w x.b.ride y.b.ride w) rfl rfl (xv (asI rfl) (XN (thenJ_normal (H_ret ?_))))
  exact ret1 (v := .int _ _) rfl rfl rfl fun w' hw => ⟨rfl, hw.1⟩
def sortFa_ren : Go.Shelf.Ren := ⟨fun | 6 => 56 | 15 => 88 | 14 => 99 | 28 => 135 | 29 => 136 | 20 => 147 | 21 => 148 | 22 => 149 | 23 => 150 | 24 => 151 | 25 => 152 | 26 => 153 | 27 => 154 | 46 => 181 | 47 => 175 | 48 => 176 | 49 => 182 | 50 => 183 | 57 => 202 | n => n, fun | 22 => 38 | 24 => 44 | 25 => 105 | 3 => 3 | 39 => 138 | 0 => 0 | 53 => 174 | 55 => 176 | 4 => 4 | 46 => 167 | 45 => 166 | 50 => 171 | 5 => 5 | 9 => 9 | 66 => 208 | 70 => 212 | 76 => 221 | 77 => 142 | n => n, fun | n => n⟩
theorem sortFa : Go.Proofs.SlLaysF0.n6 Tryz.prog sortFa_ren := {
  mixed := by kernel_rfl,
  f6 := ⟨Tryz.f56.name, by decide, Tryz.func56.trans (congrArg some (by kernel_rfl))⟩,
  f14 := ⟨Tryz.f99.name, by decide, Tryz.func99.trans (congrArg some (by kernel_rfl))⟩,
  f15 := Tryz.func88.trans (congrArg some (by kernel_rfl)),
  f20 := ⟨Tryz.f147.name, by decide, Tryz.func147.trans (congrArg some (by kernel_rfl))⟩,
  f21 := ⟨Tryz.f148.name, by decide, Tryz.func148.trans (congrArg some (by kernel_rfl))⟩,
  f22 := ⟨Tryz.f149.name, by decide, Tryz.func149.trans (congrArg some (by kernel_rfl))⟩,
  f23 := ⟨Tryz.f150.name, by decide, Tryz.func150.trans (congrArg some (by kernel_rfl))⟩,
  f24 := ⟨Tryz.f151.name, by decide, Tryz.func151.trans (congrArg some (by kernel_rfl))⟩,
  f25 := ⟨Tryz.f152.name, by decide, Tryz.func152.trans (congrArg some (by kernel_rfl))⟩,
  f26 := ⟨Tryz.f153.name, by decide, Tryz.func153.trans (congrArg some (by kernel_rfl))⟩,
  f27 := ⟨Tryz.f154.name, by decide, Tryz.func154.trans (congrArg some (by kernel_rfl))⟩,
  f28 := Tryz.func135.trans (congrArg some (by kernel_rfl)),
  f29 := Tryz.func136.trans (congrArg some (by kernel_rfl)),
  f46 := ⟨Tryz.f181.name, by decide, Tryz.func181.trans (congrArg some (by kernel_rfl))⟩,
  f47 := Tryz.func175.trans (congrArg some (by kernel_rfl)),
  f48 := Tryz.func176.trans (congrArg some (by kernel_rfl)),
  f49 := ⟨Tryz.f182.name, by decide, Tryz.func182.trans (congrArg some (by kernel_rfl))⟩,
  f50 := ⟨Tryz.f183.name, by decide, Tryz.func183.trans (congrArg some (by kernel_rfl))⟩,
  f57 := ⟨Tryz.f202.name, by decide, Tryz.func202.trans (congrArg some (by kernel_rfl))⟩,
  t0 := Tryz.underlying0,
  a0 := Tryz.isAgg0,
  z0 := Tryz.sizeOf0,
  v0 := Tryz.zeroValue0,
  t3 := Tryz.underlying3,
  a3 := Tryz.isAgg3,
  z3 := Tryz.sizeOf3,
  v3 := Tryz.zeroValue3,
  t4 := Tryz.underlying4,
  a4 := Tryz.isAgg4,
  z4 := Tryz.sizeOf4,
  v4 := Tryz.zeroValue4,
  t5 := Tryz.underlying5,
  a5 := Tryz.isAgg5,
  z5 := Tryz.sizeOf5,
  v5 := Tryz.zeroValue5,
  t9 := Tryz.underlying9,
  a9 := Tryz.isAgg9,
  z9 := Tryz.sizeOf9,
  v9 := Tryz.zeroValue9,
  t22 := Tryz.underlying38,
  a22 := Tryz.isAgg38,
  z22 := Tryz.sizeOf38,
  v22 := Tryz.zeroValue38,
  t25 := Tryz.underlying105,
  a25 := Tryz.isAgg105,
  z25 := Tryz.sizeOf105,
  v25 := Tryz.zeroValue105,
  t39 := Tryz.underlying138,
  a39 := Tryz.isAgg138,
  z39 := Tryz.sizeOf138,
  v39 := Tryz.zeroValue138,
  t45 := Tryz.underlying166,
  a45 := Tryz.isAgg166,
  z45 := Tryz.sizeOf166,
  v45 := Tryz.zeroValue166,
  t46 := Tryz.underlying167,
  a46 := Tryz.isAgg167,
  z46 := Tryz.sizeOf167,
  v46 := Tryz.zeroValue167,
  t50 := Tryz.underlying171,
  a50 := Tryz.isAgg171,
  z50 := Tryz.sizeOf171,
  v50 := Tryz.zeroValue171,
  t53 := Tryz.underlying174,
  a53 := Tryz.isAgg174,
  z53 := Tryz.sizeOf174,
  v53 := Tryz.zeroValue174,
  t55 := Tryz.underlying176,
  a55 := Tryz.isAgg176,
  z55 := Tryz.sizeOf176,
  v55 := Tryz.zeroValue176,
  t66 := Tryz.underlying208,
  a66 := Tryz.isAgg208,
  z66 := Tryz.sizeOf208,
  v66 := Tryz.zeroValue208,
  t70 := Tryz.underlying212,
  a70 := Tryz.isAgg212,
  z70 := Tryz.sizeOf212,
  v70 := Tryz.zeroValue212,
  t76 := Tryz.underlying221,
  a76 := Tryz.isAgg221,
  z76 := Tryz.sizeOf221,
  v76 := Tryz.zeroValue221,
  t77 := Tryz.underlying142,
  a77 := Tryz.isAgg142,
  z77 := Tryz.sizeOf142,
  v77 := Tryz.zeroValue142 }
section
open Go.Shelf Go.Lib Go.Sort
theorem rsort_w {w0 w : World} {L : List E.Item} (hw : Mem w0 L w) {j c n : Nat} {A : Option Addr} {xs : List RX} (hl : xs.length = n) (hkj : L[j]? = some (rdRow A c xs)) (hn : n ≤ 1000000) :
    Calls Tryz.prog 43 #[.slice A n c, .func (.func 44) #[] #[]] w fun r w' => ∃ ys : { ys : List RX // ys.Perm xs ∧ ys.Pairwise fun x y => rideLt y.r x.r = false }, r = .returned (.tuple #[]) ∧ Mem w0 (L.set j (rdRow A c ys.1)) w' := by
  subst hl
  refine (sortNT sortRd 13 Tryz.isAgg54 Tryz.sizeOf54 RX.cells (fun _ => rfl) (fun x v hv => by simp [RX.cells, Rd.cellsAt] at hv; rcases hv with rfl | rfl | rfl | rfl | rfl | rfl | rfl | rfl | rfl | rfl | rfl | rfl | rfl <;> rfl) (fun x y : RX => rideCmp x.r y.r) 44 (swo_ride (·.r) _ (fun x y => by unfold ltOf; exact rideCmp_lt _ _)) Tryz.call44 all1_w hw hkj hn).mono ?_
  rintro r w' ⟨⟨ys, h1, h2⟩, he, hm⟩
  exact ⟨⟨ys, h1, h2.imp fun {a b} hab => by unfold ltOf at hab; rw [rideCmp_lt] at hab; exact hab⟩, he, hm⟩
theorem fsort_w {w0 w : World} {L : List E.Item} (hw : Mem w0 L w) {j c n : Nat} {A : Option Addr} {xs : List FX} (hl : xs.length = n) (hkj : L[j]? = some (faRow A c xs)) (hn : n ≤ 1000000) :
    Calls Tryz.prog 56 #[.slice A n c, .func (.func 57) #[] #[]] w fun r w' => ∃ ys : { ys : List FX // ys.Perm xs ∧ ys.Pairwise fun x y => x.b.ride ≤ y.b.ride }, r = .returned (.tuple #[]) ∧ Mem w0 (L.set j (faRow A c ys.1)) w' := by
  subst hl
  refine (sortNT sortFa 4 Tryz.isAgg44 Tryz.sizeOf44 FX.cells (fun _ => rfl) (fun x v hv => by simp [FX.cells, Bil.cells] at hv; rcases hv with rfl | rfl | rfl | rfl <;> rfl) (fun x y : FX => cmpI x.b.ride y.b.ride) 57 (swo_by (·.b.ride) _ (fun x y => by unfold ltOf; exact cmpI_ltOf _ _)) Tryz.call57 all3_w hw hkj hn).mono ?_
  rintro r w' ⟨⟨ys, h1, h2⟩, he, hm⟩
  exact ⟨⟨ys, h1, h2.imp fun {a b} hab => by unfold ltOf at hab; rw [cmpI_ltOf] at hab; simpa using hab⟩, he, hm⟩
end

/-! the penalty -/
theorem fl83 {fs : Array Field} (h : Tryz.prog.underlying 83 = some (.struct fs) := by exact Tryz.underlying83) : FieldsLie Tryz.prog fs [(0, 1), (1, 1), (2, 1), (3, 1)] := by
  rw [Tryz.underlying83] at h
  cases h
  intro w
  kernel_rfl
theorem fined1_w (v : Pen.V) (b3 q : Nat) (b : Bil) (A : Option Addr) (c : Nat) (w : World) (hb3 : RowAt w b3 0 [.pointer (some ⟨q, 0, none⟩)]) (hl3 : b3 < w.heap.size) (hq : RowAt w q 0 (b.cells A c)) (hlq : q < w.heap.size) : Calls Tryz.prog 52 #[.agg v.cells.toArray, .pointer (some ⟨b3, 0, none⟩)] w fun e w' => e = .returned (.bool (decide (v.ride = b.ride))) ∧ Bel w w' := by
  refine H_enter Tryz.func52 rfl Tryz.ntmps52 rfl (H_seq (R0 (X_box (v := .agg _) rfl rfl fun b2 => (xv (asB rfl) (XN (thenJ_normal (H_seq (R1 rfl (by decide +kernel) (xv (e_fld Tryz.underlying83 rfl Tryz.sizeOf3 rfl (q0 rfl)) ?_)))))))))
  refine xv (eL Tryz.isAgg3 (q0 rfl)) ?_
  refine xv (e_ld (v := .pointer (some ⟨q, 0, none⟩)) Tryz.isAgg93 (q0 rfl) (rc0 hb3 hl3 rfl)) (xv (e_nilc (q0 rfl)) (xv (e_fld Tryz.underlying97 rfl Tryz.sizeOf44 rfl (q0 rfl)) (xv (e_fld Tryz.underlying44 rfl Tryz.sizeOf3 rfl (q0 rfl)) (xv (e_ld (v := .int .i64 b.ride) Tryz.isAgg3 (q0 rfl) (rc0 hq hlq rfl)) (xv (e_eq (q0 rfl) (q0 rfl)) (xv (asB rfl) (XN (thenJ_normal (H_ret ?_)))))))))
  exact ret1 (v := .bool _) rfl rfl rfl fun w' hw => ⟨rfl, hw.1⟩
theorem vindex_w (A : Option Addr) (n c : Nat) (vs : List Pen.V) (b3 q : Nat) (b : Bil) (B : Option Addr) (d : Nat) (w : World) (hx : Pen.VsAt w A n vs) (hb3 : RowAt w b3 0 [.pointer (some ⟨q, 0, none⟩)]) (hl3 : b3 < w.heap.size) (hq : RowAt w q 0 (b.cells B d)) (hlq : q < w.heap.size) : Calls Tryz.prog 51 #[.slice A n c, .func (.func 52) #[] #[.pointer (some ⟨b3, 0, none⟩)]] w fun e w' => e = .returned (.int .i64 (vIdx vs b.ride)) ∧ Bel w w' := by
  have hl := hx.1
  have hn := hx.2.1
  refine H_enter Tryz.func51 rfl Tryz.ntmps51 rfl (H_seq (R0 (xv (asI rfl) (XN (thenJ_normal (H_seq (H_seq (R0 (xv (mvS rfl) ?_)))))))))
  refine xv (e_len Tryz.underlying37 (q0 rfl)) (xv (mvI rfl) (XN (thenJ_normal (H_block (H_loop [4, 5, 8, 9, 10, 11, 12, 13, 14, 15, 16, 17, 18] (fun k : Nat => [(8, .int .i64 k)]) (fun _ => []) (fun k => k ≤ n ∧ (List.range k).find? (fun k => (vs.getD k Pen.V.zero).ride == b.ride) = none) (fun k => n - k) 0 ⟨rfl, trivial⟩ (fun w hw => hw) rfl ⟨Nat.zero_le _, rfl⟩ ?_)))))
  rintro k g ⟨hk, hall⟩
  refine H_seq (R0 (xv (e_lt (q0 rfl) (q0 rfl)) (XN (thenJ_normal (H_seq (H_cond rfl (fun hlt => ?_) (fun hlt => ?_)))))))
  · have hlt' : k < n := by simpa using hlt
    obtain ⟨pb, off, v, rfl, hpbl, hpk, hrp⟩ := hx.at_ hlt'
    have hpd : vs.getD k Pen.V.zero = v := by rw [List.getD_eq_getElem?_getD, hpk]; rfl
    refine H_skip (thenJ_normal (H_seq (H_block (H_seq (R0 (xv (mvI rfl) (xv (asI rfl) (XN (thenJ_normal ?_)))))))))
    refine H_seq (R0 (xv (e_mv (q0 rfl)) (xv (mvS rfl) (xv (mvI rfl) (xv (e_idx _ Tryz.underlying37 Tryz.sizeOf83 (q0 rfl) (q0 rfl) (fun _ => ⟨rfl, by omega⟩)) (xv (eS Tryz.isAgg83 Tryz.sizeOf83 (q0 rfl)) ?_))))))
    refine xC (enV (cap := [.pointer (some ⟨b3, 0, none⟩)]) (al := [.agg v.cells.toArray, .pointer (some ⟨b3, 0, none⟩)]) Tryz.call52 (q0 rfl) (fun hg => by rw [ha1 (q0 (v := .agg _) rfl) hg]; rfl)) (fun _ w hw => fined1_w v b3 q b B d w (fun j u hu => rcs hb3 hl3 rfl w hw j u hu) (Nat.lt_of_lt_of_le hl3 hw.1.size) (fun j u hu => rcs hq hlq rfl w hw j u hu) (Nat.lt_of_lt_of_le hlq hw.1.size)) rfl rfl (XN (thenJ_normal (H_cond rfl (fun hv => ?_) (fun hv => ?_))))
    · have hv' : v.ride = b.ride := of_decide_eq_true hv
      have hf : (List.range n).find? (fun k => (vs.getD k Pen.V.zero).ride == b.ride) = some k := by
        obtain ⟨j, rfl⟩ : ∃ j, n = k + 1 + j := ⟨n - (k + 1), by omega⟩
        rw [List.range_add, List.range_succ, List.find?_append, List.find?_append, hall]
        simp [hpk, hv']
      rw [show vIdx vs b.ride = (k : Int) by unfold vIdx; rw [hl, hf]]
      refine H_seq (R0 (xv (mvI rfl) (xv (asI rfl) (XN (thenJ_normal (H_ret (blockJ_ret (thenJ_ret (loopJ_ret ?_)))))))))
      refine blockJ_ret (thenJ_ret ?_)
      exact ret1 (v := .int _ _) rfl rfl rfl fun w' hw => ⟨rfl, hw.1⟩
    · have hv' : ¬ v.ride = b.ride := of_decide_eq_false hv
      refine H_skip (blockJ_normal (thenJ_normal (R0 (xv (e_add (q0 rfl) (q0 rfl) (fun _ => ⟨rfl, by omega, by omega⟩)) (xv (mvI rfl) (XN ?_))))))
      exact loopJ_normal (k + 1) agr ⟨rfl, trivial⟩ (fun w hw => hw) rfl ⟨by omega, by rw [List.range_succ, List.find?_append, hall]; simp [hpk, hv']⟩ (by show n - (k + 1) < n - k; omega)
  · have hend : k = n := by simp at hlt; omega
    subst hend
    rw [show vIdx vs b.ride = -1 by unfold vIdx; rw [hl, hall]]
    refine H_exit (thenJ_exit (loopJ_exit (blockJ_hit (thenJ_normal (H_seq (R0 (xv (asI rfl) (XN (thenJ_normal ?_)))))))))
    refine H_ret ?_
    exact ret1 (v := .int _ _) rfl rfl rfl fun w' hw => ⟨rfl, hw.1⟩
def finB2 (p : Pr) (vs : List Pen.V) (b : Bil) (ride : Int) : Bil :=
  if vIdx vs ride < 0 then b else addB b 7 (Pen.numR p.fines p.days vs (vIdx vs ride)).1 (Pen.fineR p.fines p.days vs (vIdx vs ride)).1
attribute [local irreducible] Pen.numR Pen.fineR vIdx
set_option maxHeartbeats 1000000 in
set_option maxRecDepth 20000 in
theorem fined_w {w0 w : World} {L : List E.Item} {q : Nat} {b : Bil} {A : Option Addr} {c : Nat} (hw : Mem w0 (box q 97 (b.cells A c) :: itRow A c b.items :: L) w) (hmk : marks L = []) (i7 i5 b7 b5 : Nat) (vA : Option Addr) (vn vc : Nat) (vs : List Pen.V) (p : Pr) (a : PrA) (h7 : L[i7]? = some (box b7 37 [.slice vA vn vc])) (h5 : L[i5]? = some (box b5 28 (p.cells a)))
    (hv : Pen.VsAt w0 vA vn vs) (hp : PrAt w0 p a) (hpe : Pen.pErr p.fines p.days = 0) (hlen : b.items.length ≤ 100) (hb : -9000000000000000 ≤ b.total ∧ b.total ≤ 9000000000000000) :
    Calls Tryz.prog 50 #[.pointer (some ⟨q, 0, none⟩), .pointer (some ⟨b7, 0, none⟩), .pointer (some ⟨b5, 0, none⟩)] w fun e w' => ∃ z : Option Addr × Nat, e = .returned (.tuple #[]) ∧ Mem w0 (box q 97 ((finB2 p vs b b.ride).cells z.1 z.2) :: itRow z.1 z.2 (finB2 p vs b b.ride).items :: L) w' := by
  have hfr := fineR_range (vs := vs) (i := vIdx vs b.ride) hpe
  refine H_enterM hw hmk Tryz.func50 rfl Tryz.ntmps50 rfl (H_seq (R0 (X_box (v := .pointer _) rfl rfl fun b3 => (XN (thenJ_normal (H_seq (R0 (xv (e_ld (v := .slice vA vn vc) Tryz.isAgg37 (q0 rfl) (bx (i7 + 3) h7 rfl)) (xV e_fn rfl rfl ?_)))))))))
  refine xC (v := .int .i64 (vIdx vs b.ride)) (en (al := [.slice vA vn vc, .func (.func 52) #[] #[.pointer (some ⟨b3, 0, none⟩)]]) Tryz.call51 (ha2 (q0 (v := .slice _ _ _) rfl) (q0 rfl))) (fun _ w hw => vindex_w vA vn vc vs b3 q b A c w (hv.mem hw) (fun j u hu => by rw [Nat.zero_add]; exact box_cell hw (k := 0) rfl hu) (hw.itemLt (k := 0) rfl rfl).2 (fun j u hu => by rw [Nat.zero_add]; exact box_cell hw (k := 1) rfl hu) (hw.itemLt (k := 1) rfl rfl).2) rfl rfl (xv (asI rfl) (XN (thenJ_normal (H_seq (H_seq (R0 (xv (mvI rfl) (xv (e_lt (q0 rfl) (q0 rfl)) (XN ?_)))))))))
  refine thenJ_normal (H_cond rfl (fun h1 => ?_) (fun h1 => ?_))
  · have h1' : vIdx vs b.ride < 0 := of_decide_eq_true h1
    rw [show finB2 p vs b b.ride = b by unfold finB2; rw [if_pos h1']]
    refine H_ret (thenJ_ret ?_)
    exact end0 rfl hmk fun w' hw => ⟨(A, c), rfl, hw.tail⟩
  · have h1' : ¬ vIdx vs b.ride < 0 := of_decide_eq_false h1
    rw [show finB2 p vs b b.ride = addB b 7 (Pen.numR p.fines p.days vs (vIdx vs b.ride)).1 (Pen.fineR p.fines p.days vs (vIdx vs b.ride)).1 by unfold finB2; rw [if_neg h1']]
    refine H_skip (thenJ_normal (H_seq (R0 (xv (e_lds (vs := p.cells a) Tryz.isAgg28 Tryz.sizeOf28 (q0 rfl) (bxs (i5 + 3) h5) rfl) (xv (e_ld (v := .slice vA vn vc) Tryz.isAgg37 (q0 rfl) (bx (i7 + 3) h7 rfl)) (xv (mvI rfl) (xC (en Tryz.call53 (ha3 (q0 rfl) (q0 rfl) (q0 rfl))) (fun _ w hw => Pen.Number_w _ _ _ _ _ a.f.A a.f.n a.f.c p.fines p.days vA vn vc vs (vIdx vs b.ride) w (hp.fi.mem hw) (hv.mem hw)) rfl rfl (xv (e_mv (q0 rfl)) (xv (e_ext (q0 rfl) rfl) ?_)))))))))
    refine xv (e_ext (q0 rfl) rfl) (xv (asI rfl) (xv (asI rfl) (XN (thenJ_normal (H_seq (R0 (xv (e_lds (vs := p.cells a) Tryz.isAgg28 Tryz.sizeOf28 (q0 rfl) (bxs (i5 + 3) h5) rfl) (xv (e_ld (v := .slice vA vn vc) Tryz.isAgg37 (q0 rfl) (bx (i7 + 3) h7 rfl)) (xv (mvI rfl) ?_)))))))))
    refine xC (en Tryz.call54 (ha3 (q0 rfl) (q0 rfl) (q0 rfl))) (fun _ w hw => Pen.Fine_w _ _ _ _ _ a.f.A a.f.n a.f.c p.fines p.days vA vn vc vs (vIdx vs b.ride) w (hp.fi.mem hw) (hv.mem hw)) rfl rfl (xv (e_mv (q0 rfl)) (xv (e_ext (q0 rfl) rfl) (xv (e_ext (q0 rfl) rfl) (xv (asI rfl) (xv (asI rfl) (XN (thenJ_normal (R0 (xv (eL Tryz.isAgg93 (q0 rfl)) ?_)))))))))
    refine xv (mvI rfl) (xv (mvI rfl) (X_eff (f_callM (en Tryz.call55 (ha4 (q0 rfl) (q0 rfl) (q0 rfl) (q0 rfl))) (fun w hw => add_w 7 (Pen.numR p.fines p.days vs (vIdx vs b.ride)).1 (Pen.fineR p.fines p.days vs (vIdx vs b.ride)).1 (hw.mv2) hmk hlen (by omega)) rfl (fun _ => rfl) fun z => (XN ?_))))
    exact end0 rfl hmk fun w' hw => ⟨z, rfl, hw.pickN 3 [0, 1] (by decide) (by decide)⟩

end Go.Proofs.Far

/-
  Plain functions: what is known of the fares on the way.
-/
namespace Go.Proofs.Far
open Go.Proofs.Cus Go.Proofs.Rid

theorem useS_mem (l : List Pas) : ∀ (qs : List Rq) (s : List Int × List (Int × Int)), (∀ u ∈ s.1, -1 ≤ u ∧ u < l.length) → ∀ u ∈ (qs.foldl (useStep l) s).1, -1 ≤ u ∧ u < l.length
  | [], _, h => h
  | q :: qs, s, h => by
    rw [List.foldl_cons]
    refine useS_mem l qs _ fun u hu => ?_
    have hu2 : u ∈ s.1 ++ [pickP l s.2 q] := hu
    rcases List.mem_append.1 hu2 with hu | hu
    · exact h u hu
    · simp at hu; subst hu; exact pick_range l s.2 q
theorem useOf_range {p : Pr} {l : List Rd} {u : Int} (h : u ∈ useOf p l) : -1 ≤ u ∧ u < p.passes.length := useS_mem p.passes (l.map reqR) ([], []) (fun u hu => by cases hu) u h
theorem useOf_len (p : Pr) (l : List Rd) : (useOf p l).length = l.length := by
  unfold useOf useS
  have h : ((l.map reqR).foldl (useStep p.passes) ([], [])).1.length = 0 + (l.map reqR).length := useS_fst p.passes (l.map reqR) ([], [])
  rw [h, List.length_map, Nat.zero_add]
theorem FS_facts {p : Pr} {l : List (Rd × Int)} : ∀ {k : Nat} {B : List Bil}, k ≤ l.length → FS p l k = some B → B.length = k ∧ ∀ (i : Nat) (b : Bil) (x : Rd × Int), B[i]? = some b → l[i]? = some x → firstP p x.1 x.2 = some b
  | 0, B, _, h => by
    have : B = [] := by
      have h2 : some ([] : List Bil) = some B := h
      exact (Option.some.inj h2).symm
    subst this
    exact ⟨rfl, fun i b x hb => by simp at hb⟩
  | k + 1, B, hk, h => by
    obtain ⟨y, hy⟩ : ∃ y, l[k]? = some y := ⟨_, List.getElem?_eq_getElem (by omega)⟩
    rw [FS_succ hy] at h
    unfold fsStep at h
    split at h
    · cases h
    · rename_i bs hbs
      split at h
      · cases h
      · rename_i b hb
        cases h
        obtain ⟨h1, h2⟩ := FS_facts (k := k) (by omega) hbs
        refine ⟨by rw [List.length_append, h1]; rfl, fun i c x hc hx => ?_⟩
        by_cases hi : i < k
        · rw [List.getElem?_append_left (by omega)] at hc
          exact h2 i c x hc hx
        · have hik : i = k := by
            have := (List.getElem?_eq_some_iff.1 hc).1
            rw [List.length_append, h1] at this
            simp at this
            omega
          subst hik
          rw [hy] at hx
          cases hx
          rw [List.getElem?_append_right (by omega), h1, Nat.sub_self] at hc
          simp at hc
          rw [← hc]; exact hb
theorem zip_get {α β : Type} {l : List α} {m : List β} {k : Nat} {a : α} {b : β} (ha : l[k]? = some a) (hb : m[k]? = some b) : (l.zip m)[k]? = some (a, b) := by
  rw [List.getElem?_zip_eq_some]
  exact ⟨ha, hb⟩
theorem dy_rider {l : List Rd} {B : List Bil} (h : l.length = B.length) : ((l.zip B).map dyOf).map (·.rider) = l.map (·.rider) := by
  rw [List.map_map]
  have : ((fun x : Dy => x.rider) ∘ dyOf) = (fun r : Rd => r.rider) ∘ Prod.fst := rfl
  rw [this, ← List.map_map, List.map_fst_zip (by omega)]
theorem dy_day {l : List Rd} {B : List Bil} (h : l.length = B.length) : ((l.zip B).map dyOf).map (·.day) = l.map fun r => r.start.lo / 86400 := by
  rw [List.map_map]
  have : ((fun x : Dy => x.day) ∘ dyOf) = (fun r : Rd => r.start.lo / 86400) ∘ Prod.fst := rfl
  rw [this, ← List.map_map, List.map_fst_zip (by omega)]
theorem dy_amount {l : List Rd} {B : List Bil} (h : l.length = B.length) : ((l.zip B).map dyOf).map (·.amount) = B.map (·.total) := by
  rw [List.map_map]
  have : ((fun x : Dy => x.amount) ∘ dyOf) = (fun b : Bil => b.total) ∘ Prod.snd := rfl
  rw [this, ← List.map_map, List.map_snd_zip (by omega)]
theorem dayS_fst (limit : Int) (xs : List Dy) : (dayS limit xs).map (·.1) = xs := by
  have key : ∀ (xs : List Dy) (l : List (Dy × Int)), (xs.foldl (fun l x => l ++ [(x, payD limit l x)]) l).map (·.1) = l.map (·.1) ++ xs := by
    intro xs
    induction xs with
    | nil => intro l; simp
    | cons x xs ih => intro l; rw [List.foldl_cons, ih]; simp
  exact key xs []
theorem paidOf_len {p : Pr} {l : List Rd} {B : List Bil} (h : l.length = B.length) : (paidOf p l B).length = B.length := by
  unfold paidOf
  have := congrArg List.length (dayS_fst p.cap ((l.zip B).map dyOf))
  rw [List.length_map] at this ⊢
  rw [this, List.length_map, List.length_zip]
  omega
structure Rich (l : List Rd) (B : List Bil) : Prop where
  len : l.length = B.length
  ride : ∀ (i : Nat) (b : Bil) (r : Rd), B[i]? = some b → l[i]? = some r → 0 ≤ b.total ∧ b.total ≤ 1000000000000 ∧ b.items.length ≤ 5 ∧ b.ride = r.id ∧ b.rider = r.rider
theorem rich_of {f : Fl} {p : Pr} {l : List Rd} {us : List Int} {B : List Bil} (he : prErr f p = 0) (hg : Good l) (hu : us.length = l.length) (h : FS p (l.zip us) l.length = some B) : Rich l B := by
  have hzl : (l.zip us).length = l.length := by rw [List.length_zip]; omega
  obtain ⟨h1, h2⟩ := FS_facts (by omega) h
  refine ⟨h1.symm, fun i b r hb hr => ?_⟩
  have hi : i < us.length := by have := (List.getElem?_eq_some_iff.1 hr).1; omega
  have := h2 i b (r, us[i]) hb (zip_get hr (List.getElem?_eq_getElem hi))
  exact first_facts he (hg.ok r (List.mem_of_getElem? hr)) this
theorem head_ok {r : Rd} (h : checkR r = 0) : 1 ≤ r.id ∧ r.id ≤ 1000000 ∧ 0 ≤ r.rider ∧ r.rider < 128 := by
  unfold checkR at h
  have h1 : rangedP r = true := by
    cases hr : rangedP r with
    | true => rfl
    | false => rw [hr] at h; simp at h
  unfold rangedP headBad at h1
  simp only [Bool.and_eq_true, Bool.not_eq_true', Bool.or_eq_false_iff, decide_eq_false_iff_not] at h1
  omega
theorem dyErr_ok {f : Fl} {p : Pr} {l : List Rd} {B : List Bil} (he : prErr f p = 0) (hg : Good l) (hR : Rich l B) : dyErr p.cap ((l.zip B).map dyOf) = 0 := by
  obtain ⟨_, _, _, _, _, _, hc1, hc2, _⟩ := prErr_parts he
  unfold dyErr
  rw [if_neg (by rw [inI_iff.2 ⟨hc1, hc2⟩]; decide), if_neg (by rw [List.length_map, List.length_zip]; have := hg.few; omega), if_neg]
  intro hany
  obtain ⟨y, hy, hb⟩ := List.any_eq_true.1 hany
  obtain ⟨⟨r, b⟩, hz, rfl⟩ := List.mem_map.1 hy
  obtain ⟨i, hi⟩ := List.getElem?_of_mem hz
  rw [List.getElem?_zip_eq_some] at hi
  have h1 := hR.ride i b r hi.2 hi.1
  have h2 := head_ok (hg.ok r (List.mem_of_getElem? hi.1))
  have h3 := spOk_iff.1 (checkR_parts (hg.ok r (List.mem_of_getElem? hi.1))).1
  unfold dyBad dyOf at hb
  simp only at hb
  have i1 : inI r.rider 0 127 = true := inI_iff.2 (by omega)
  have i2 : inI (r.start.lo / 86400) 0 49709 = true := inI_iff.2 (by omega)
  have i3 : inI b.total 0 1000000000000 = true := inI_iff.2 (by omega)
  rw [i1, i2, i3] at hb
  cases hb
theorem paid_range {f : Fl} {p : Pr} {l : List Rd} {B : List Bil} (he : prErr f p = 0) (hR : Rich l B) {v : Int} (hv : v ∈ paidOf p l B) : 0 ≤ v ∧ v ≤ 1000000000000 := by
  obtain ⟨_, _, _, _, _, _, hc1, hc2, _⟩ := prErr_parts he
  have ham : ∀ y ∈ (l.zip B).map dyOf, 0 ≤ y.amount ∧ y.amount ≤ 1000000000000 := fun y hy => by
    obtain ⟨⟨r, b⟩, hz, rfl⟩ := List.mem_map.1 hy
    obtain ⟨i, hi⟩ := List.getElem?_of_mem hz
    rw [List.getElem?_zip_eq_some] at hi
    have h1 := hR.ride i b r hi.2 hi.1
    exact ⟨h1.1, h1.2.1⟩
  have hok := DS_ok hc1 ham ((l.zip B).map dyOf).length (Nat.le_refl _)
  have hds : DS p.cap ((l.zip B).map dyOf) ((l.zip B).map dyOf).length = dayS p.cap ((l.zip B).map dyOf) := by unfold DS; rw [List.take_length]; rfl
  rw [hds] at hok
  unfold paidOf at hv
  obtain ⟨y, hy, rfl⟩ := List.mem_map.1 hv
  have h1 := hok.pay y hy
  have h2 : y.1 ∈ (l.zip B).map dyOf := by rw [← dayS_fst p.cap ((l.zip B).map dyOf)]; exact List.mem_map.2 ⟨y, hy, rfl⟩
  have h3 := ham y.1 h2
  omega
theorem finB_ride (p : Pr) (vs : List Pen.V) (b : Bil) (d : Int) : (finB p vs b d).ride = b.ride ∧ (finB p vs b d).rider = b.rider := by
  unfold finB
  split
  · exact addB_ride _ _ _ _
  · exact ⟨(addB_ride _ _ _ _).1.trans (addB_ride _ _ _ _).1, (addB_ride _ _ _ _).2.trans (addB_ride _ _ _ _).2⟩
theorem FN_facts {p : Pr} {vs : List Pen.V} {l : List (Bil × Int)} : ∀ {k : Nat} {C : List Bil}, k ≤ l.length → FN p vs l k = some C → C = (l.take k).map fun x => finB p vs x.1 (x.2 - x.1.total)
  | 0, C, _, h => by
    have h2 : some ([] : List Bil) = some C := h
    rw [← Option.some.inj h2]; rfl
  | k + 1, C, hk, h => by
    obtain ⟨y, hy⟩ : ∃ y, l[k]? = some y := ⟨_, List.getElem?_eq_getElem (by omega)⟩
    rw [FN_succ hy] at h
    unfold fnStep at h
    split at h
    · cases h
    · rename_i bs hbs
      split at h
      · cases h
      · cases h
        rw [FN_facts (k := k) (by omega) hbs, List.take_add_one, hy, List.map_append]; rfl
theorem FN_le {p : Pr} {vs : List Pen.V} {l : List (Bil × Int)} : ∀ {k : Nat} {C : List Bil}, k ≤ l.length → FN p vs l k = some C → ∀ c ∈ C, c.total ≤ 1000000000000
  | 0, C, _, h => by
    have h2 : some ([] : List Bil) = some C := h
    rw [← Option.some.inj h2]; intro c hc; cases hc
  | k + 1, C, hk, h => by
    obtain ⟨y, hy⟩ : ∃ y, l[k]? = some y := ⟨_, List.getElem?_eq_getElem (by omega)⟩
    rw [FN_succ hy] at h
    unfold fnStep at h
    split at h
    · cases h
    · rename_i bs hbs
      split at h
      · cases h
      · rename_i hle
        cases h
        intro c hc
        rcases List.mem_append.1 hc with hc | hc
        · exact FN_le (k := k) (by omega) hbs c hc
        · simp at hc; subst hc; omega
theorem byRide_unique {C l : List Bil} (hp : l.Perm C) (hn : (C.map (·.ride)).Nodup) (hs : l.Pairwise fun a b => a.ride ≤ b.ride) : l = byRide C := by
  have hb : (byRide C).Perm C := List.mergeSort_perm _ _
  have hs2 : (byRide C).Pairwise fun a b => a.ride ≤ b.ride := by
    have := List.pairwise_mergeSort (le := fun a b : Bil => decide (a.ride ≤ b.ride)) (fun a b c h1 h2 => by simp at *; omega) (fun a b => by simp; omega) C
    exact this.imp fun h => by simpa using h
  have strict : ∀ {m : List Bil}, m.Perm C → m.Pairwise (fun a b => a.ride ≤ b.ride) → m.Pairwise fun a b => a.ride < b.ride := fun {m} h1 h2 => by
    have h3 : m.Pairwise fun a b => a.ride ≠ b.ride := List.pairwise_map.1 ((h1.map _).nodup_iff.2 hn)
    exact (h2.and h3).imp fun h => by omega
  refine List.Perm.eq_of_pairwise (le := fun a b => a.ride < b.ride) (fun a b _ _ h1 h2 => ?_) (strict hp hs) (strict hb hs2) (hp.trans hb.symm)
  omega
theorem rides_of {l : List Rd} {B : List Bil} (hR : Rich l B) : B.map (·.ride) = l.map (·.id) := by
  apply List.ext_getElem?
  intro i
  rw [List.getElem?_map, List.getElem?_map]
  by_cases hi : i < B.length
  · have hi2 : i < l.length := by have := hR.len; omega
    rw [List.getElem?_eq_getElem hi, List.getElem?_eq_getElem hi2]
    have := hR.ride i _ _ (List.getElem?_eq_getElem hi) (List.getElem?_eq_getElem hi2)
    simp [this.2.2.2.1]
  · rw [List.getElem?_eq_none (by omega), List.getElem?_eq_none (by have := hR.len; omega)]; rfl
theorem fin_rides {p : Pr} {vs : List Pen.V} {B : List Bil} {ps : List Int} (h : B.length ≤ ps.length) : ((B.zip ps).map fun x => finB p vs x.1 (x.2 - x.1.total)).map (·.ride) = B.map (·.ride) := by
  rw [List.map_map]
  have : ((fun b : Bil => b.ride) ∘ fun x : Bil × Int => finB p vs x.1 (x.2 - x.1.total)) = (fun b : Bil => b.ride) ∘ Prod.fst := by
    funext x
    simp [finB_ride]
  rw [this, ← List.map_map, List.map_fst_zip h]

end Go.Proofs.Far
