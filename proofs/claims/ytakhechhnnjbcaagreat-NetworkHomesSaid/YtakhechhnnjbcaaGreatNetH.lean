import Derived.Test.YtakhechhnnjbcaaGreatNetF
import Derived.Test.YtakhechhnnjbcaaGreatNetC
import Derived.Test.YtakhechhnnjbcaaGreatNetEb
import Derived.Test.YtakhechhnnjbcaaGreatNetN
import Derived.Test.YtakhechhnnjbcaaGreatNetEa
import Derived.OpenShut
set_option linter.unusedVariables false
set_option linter.unusedSimpArgs false
/-
  The walks: lists cloned; fleets and prices of one's own.
-/
namespace Go.Proofs.Hom
open Go Go.RowKit Go.Proofs.E Go.Proofs.Cus Go.Proofs.Far

theorem cloneI_w (A : Option Addr) (n c : Nat) (xs : List Int) (w : World) (hx : IntsAt w A n xs) (hn : n ≤ 100000) : Calls Tryz.prog 75 #[.slice A n c] w fun e w' => ∃ s : Sl, e = .returned s.v ∧ Mem w [] w' := by
  have hl := hx.1
  refine H_enter Tryz.func75 rfl Tryz.ntmps75 rfl ?_
  refine H_seq ?_
  refine R0 ?_
  refine xV (e_as (v := .slice _ _ _) (q0 rfl)) rfl rfl ?_
  refine XN ?_
  refine thenJ_normal ?_
  refine H_seq ?_
  refine H_seq ?_
  refine R0 ?_
  refine xV (e_mv (v := .slice _ _ _) (q0 rfl)) rfl rfl ?_
  refine xV (e_eqNilS Tryz.underlying22 (q0 rfl)) rfl rfl ?_
  refine XN ?_
  refine thenJ_normal ?_
  refine H_cond rfl (fun h1 => ?_) (fun h1 => ?_)
  · refine H_seq ?_
    refine R0 ?_
    refine xV (e_as (v := .slice _ _ _) (q0 rfl)) rfl rfl ?_
    refine XN ?_
    refine thenJ_normal ?_
    refine H_ret ?_
    refine thenJ_ret ?_
    exact ret1 (v := .slice _ _ _) rfl rfl rfl fun w' hw => ⟨⟨none, 0, 0⟩, rfl, mem_nil.2 hw.1⟩
  · refine H_skip ?_
    refine thenJ_normal ?_
    refine H_seq ?_
    refine R0 ?_
    refine X_eff (f_slit0 encInt Tryz.underlying22 Tryz.sizeOf3 rfl fun A1 c1 => ?_)
    refine xV (e_mv (v := .slice _ _ _) (q0 rfl)) rfl rfl ?_
    refine X_append (f_append (k := 1) (i := Tryz.t3) (enc := encInt) 0 Tryz.underlying22 (by kernel_rfl) rfl rfl rfl rfl (fun _ => rfl) (fun _ => rfl) rfl rfl rfl (fun w hw => hx.mem hw) ⟨by simp; omega, by decide⟩ rfl fun A2 c2 => ?_)
    refine xV (e_as (v := .slice _ _ _) (q0 rfl)) rfl rfl ?_
    refine XN ?_
    refine thenJ_normal ?_
    refine H_ret ?_
    exact ret1 (v := .slice _ _ _) rfl rfl rfl fun w' hw => ⟨⟨A2, ([] ++ xs).length, c2⟩, rfl, mem_nil.2 hw.1⟩
theorem cloneT_w (A : Option Addr) (n c : Nat) (xs : List Tf) (w : World) (hx : TfsAt w A n xs) (hn : n ≤ 100000) : Calls Tryz.prog 76 #[.slice A n c] w fun e w' => ∃ s : Sl, e = .returned s.v ∧ Mem w [] w' := by
  have hl := hx.1
  refine H_enter Tryz.func76 rfl Tryz.ntmps76 rfl ?_
  refine H_seq ?_
  refine R0 ?_
  refine xV (e_as (v := .slice _ _ _) (q0 rfl)) rfl rfl ?_
  refine XN ?_
  refine thenJ_normal ?_
  refine H_seq ?_
  refine H_seq ?_
  refine R0 ?_
  refine xV (e_mv (v := .slice _ _ _) (q0 rfl)) rfl rfl ?_
  refine xV (e_eqNilS Tryz.underlying25 (q0 rfl)) rfl rfl ?_
  refine XN ?_
  refine thenJ_normal ?_
  refine H_cond rfl (fun h1 => ?_) (fun h1 => ?_)
  · refine H_seq ?_
    refine R0 ?_
    refine xV (e_as (v := .slice _ _ _) (q0 rfl)) rfl rfl ?_
    refine XN ?_
    refine thenJ_normal ?_
    refine H_ret ?_
    refine thenJ_ret ?_
    exact ret1 (v := .slice _ _ _) rfl rfl rfl fun w' hw => ⟨⟨none, 0, 0⟩, rfl, mem_nil.2 hw.1⟩
  · refine H_skip ?_
    refine thenJ_normal ?_
    refine H_seq ?_
    refine R0 ?_
    refine X_eff (f_slit0 Tf.cells Tryz.underlying25 Tryz.sizeOf144 rfl fun A1 c1 => ?_)
    refine xV (e_mv (v := .slice _ _ _) (q0 rfl)) rfl rfl ?_
    refine X_append (f_append (k := 6) (i := Tryz.t144) (enc := Tf.cells) 0 Tryz.underlying25 (by kernel_rfl) rfl rfl rfl rfl (fun _ => rfl) (fun _ => rfl) rfl rfl rfl (fun w hw => hx.mem hw) ⟨by simp; omega, by decide⟩ rfl fun A2 c2 => ?_)
    refine xV (e_as (v := .slice _ _ _) (q0 rfl)) rfl rfl ?_
    refine XN ?_
    refine thenJ_normal ?_
    refine H_ret ?_
    exact ret1 (v := .slice _ _ _) rfl rfl rfl fun w' hw => ⟨⟨A2, ([] ++ xs).length, c2⟩, rfl, mem_nil.2 hw.1⟩
theorem cloneP_w (A : Option Addr) (n c : Nat) (xs : List Pas) (w : World) (hx : PassAt w A n xs) (hn : n ≤ 100000) : Calls Tryz.prog 77 #[.slice A n c] w fun e w' => ∃ s : Sl, e = .returned s.v ∧ Mem w [] w' := by
  have hl := hx.1
  refine H_enter Tryz.func77 rfl Tryz.ntmps77 rfl ?_
  refine H_seq ?_
  refine R0 ?_
  refine xV (e_as (v := .slice _ _ _) (q0 rfl)) rfl rfl ?_
  refine XN ?_
  refine thenJ_normal ?_
  refine H_seq ?_
  refine H_seq ?_
  refine R0 ?_
  refine xV (e_mv (v := .slice _ _ _) (q0 rfl)) rfl rfl ?_
  refine xV (e_eqNilS Tryz.underlying26 (q0 rfl)) rfl rfl ?_
  refine XN ?_
  refine thenJ_normal ?_
  refine H_cond rfl (fun h1 => ?_) (fun h1 => ?_)
  · refine H_seq ?_
    refine R0 ?_
    refine xV (e_as (v := .slice _ _ _) (q0 rfl)) rfl rfl ?_
    refine XN ?_
    refine thenJ_normal ?_
    refine H_ret ?_
    refine thenJ_ret ?_
    exact ret1 (v := .slice _ _ _) rfl rfl rfl fun w' hw => ⟨⟨none, 0, 0⟩, rfl, mem_nil.2 hw.1⟩
  · refine H_skip ?_
    refine thenJ_normal ?_
    refine H_seq ?_
    refine R0 ?_
    refine X_eff (f_slit0 Pas.cells Tryz.underlying26 Tryz.sizeOf155 rfl fun A1 c1 => ?_)
    refine xV (e_mv (v := .slice _ _ _) (q0 rfl)) rfl rfl ?_
    refine X_append (f_append (k := 6) (i := Tryz.t155) (enc := Pas.cells) 0 Tryz.underlying26 (by kernel_rfl) rfl rfl rfl rfl (fun _ => rfl) (fun _ => rfl) rfl rfl rfl (fun w hw => hx.mem hw) ⟨by simp; omega, by decide⟩ rfl fun A2 c2 => ?_)
    refine xV (e_as (v := .slice _ _ _) (q0 rfl)) rfl rfl ?_
    refine XN ?_
    refine thenJ_normal ?_
    refine H_ret ?_
    exact ret1 (v := .slice _ _ _) rfl rfl rfl fun w' hw => ⟨⟨A2, ([] ++ xs).length, c2⟩, rfl, mem_nil.2 hw.1⟩
theorem ownFleet_w (f : Fl) (fa : FA) (w : World) (hf : FlAt w f fa) (hn : fa.dn ≤ 100000) (hm : fa.tn ≤ 100000) : Calls Tryz.prog 36 #[.agg (f.cells fa).toArray] w fun e w' => ∃ x : Sl × Sl, e = .returned (.agg #[.int .i64 f.bikes, .int .i64 f.riders, .int .i64 f.devices, x.1.v, x.2.v]) ∧ Mem w [] w' := by
  refine H_enter Tryz.func36 rfl Tryz.ntmps36 rfl ?_
  refine H_seq ?_
  refine R0 ?_
  refine X_box (v := .agg _) rfl rfl fun b1 => ?_
  refine X_alloc Tryz.zeroValue24 rfl fun b2 => ?_
  refine XN ?_
  refine thenJ_normal ?_
  refine H_seq ?_
  refine H_cut [3, 4, 5, 6, 7, 8, 9, 10] (fun x : Sl × Sl => []) (fun x => [box b2 24 [.int .i64 0, .int .i64 0, .int .i64 0, .slice none 0 0, .slice none 0 0], box b1 24 [.int .i64 f.bikes, .int .i64 f.riders, .int .i64 f.devices, x.1.v, x.2.v]]) (fun _ => True) ?_ ?_
  · refine H_invP [3, 4, 5, 6, 7, 8, 9, 10] (fun d v => match d with
          | 3 | 9 => v = .pointer (some ⟨b1, 3, none⟩)
          | 4 => v = Sl.v ⟨fa.dA, fa.dn, fa.dc⟩
          | 5 => ∃ s : Sl, v = s.v
          | 6 | 10 => v = .pointer (some ⟨b1, 4, none⟩)
          | 7 => v = Sl.v ⟨fa.tA, fa.tn, fa.tc⟩
          | 8 => ∃ s : Sl, v = s.v
          | _ => True) (fun S L => ∃ s0 s1 : Sl, (¬S 7 → s0 = ⟨fa.dA, fa.dn, fa.dc⟩) ∧ (¬S 9 → s1 = ⟨fa.tA, fa.tn, fa.tc⟩) ∧ L = [box b2 24 [.int .i64 0, .int .i64 0, .int .i64 0, .slice none 0 0, .slice none 0 0], box b1 24 [.int .i64 f.bikes, .int .i64 f.riders, .int .i64 f.devices, s0.v, s1.v]]) rfl rfl ?_ ?_ ?_
    · exact fun S hS => ⟨⟨fa.dA, fa.dn, fa.dc⟩, ⟨fa.tA, fa.tn, fa.tc⟩, fun _ => rfl, fun _ => rfl, rfl⟩
    · rintro S L fr i o hA hF ⟨s0, s1, e0, e1, rfl⟩ hi hno hw hc
      have hpt : fr 1 = .pointer (some ⟨b1, 0, none⟩) := hA 1 rfl
      match i, hi with
      | 0, hi => cases hi; exact f_ev (e_fld Tryz.underlying24 rfl Tryz.sizeOf22 rfl (q0 hpt)) rfl rfl ⟨⟨s0, s1, fun h => e0 fun h' => h (.inl h'), fun h => e1 fun h' => h (.inl h'), rfl⟩, _, rfl, fun d h => by cases h; rfl⟩
      | 1, hi =>
        cases hi
        have hx : fr 3 = .pointer (some ⟨b1, 3, none⟩) := hF 0 _ _ rfl (hw 0 rfl) rfl
        have n1 : ¬S 7 := fun h => hno (hc 2 1 rfl (hc 7 2 rfl h))
        obtain rfl := e0 n1
        exact f_ev (e_ld (v := Sl.v ⟨fa.dA, fa.dn, fa.dc⟩) Tryz.isAgg22 (q0 hx) (fun _ w hw => box_cell hw (k := 1) rfl rfl)) rfl rfl ⟨⟨⟨fa.dA, fa.dn, fa.dc⟩, s1, fun _ => rfl, fun h => e1 fun h' => h (.inl h'), rfl⟩, _, rfl, fun d h => by cases h; rfl⟩
      | 2, hi =>
        cases hi
        have hx : fr 4 = Sl.v ⟨fa.dA, fa.dn, fa.dc⟩ := hF 1 _ _ rfl (hw 1 rfl) rfl
        exact f_callx (en Tryz.call75 (ha1 (q0 hx))) (fun w hw => cloneI_w fa.dA fa.dn fa.dc f.docks w (hf.docks.mem hw) hn) rfl (fun _ => rfl) fun s => ⟨⟨s0, s1, fun h => e0 fun h' => h (.inl h'), fun h => e1 fun h' => h (.inl h'), rfl⟩, _, rfl, fun d h => by cases h; exact ⟨s, rfl⟩⟩
      | 3, hi => cases hi; exact f_ev (e_fld Tryz.underlying24 rfl Tryz.sizeOf22 rfl (q0 hpt)) rfl rfl ⟨⟨s0, s1, fun h => e0 fun h' => h (.inl h'), fun h => e1 fun h' => h (.inl h'), rfl⟩, _, rfl, fun d h => by cases h; rfl⟩
      | 4, hi =>
        cases hi
        have hx : fr 6 = .pointer (some ⟨b1, 4, none⟩) := hF 3 _ _ rfl (hw 3 rfl) rfl
        have n1 : ¬S 9 := fun h => hno (hc 5 4 rfl (hc 9 5 rfl h))
        obtain rfl := e1 n1
        exact f_ev (e_ld (v := Sl.v ⟨fa.tA, fa.tn, fa.tc⟩) Tryz.isAgg22 (q0 hx) (fun _ w hw => box_cell hw (k := 1) rfl rfl)) rfl rfl ⟨⟨s0, ⟨fa.tA, fa.tn, fa.tc⟩, fun h => e0 fun h' => h (.inl h'), fun _ => rfl, rfl⟩, _, rfl, fun d h => by cases h; rfl⟩
      | 5, hi =>
        cases hi
        have hx : fr 7 = Sl.v ⟨fa.tA, fa.tn, fa.tc⟩ := hF 4 _ _ rfl (hw 4 rfl) rfl
        exact f_callx (en Tryz.call75 (ha1 (q0 hx))) (fun w hw => cloneI_w fa.tA fa.tn fa.tc f.trucks w (hf.trucks.mem hw) hm) rfl (fun _ => rfl) fun s => ⟨⟨s0, s1, fun h => e0 fun h' => h (.inl h'), fun h => e1 fun h' => h (.inl h'), rfl⟩, _, rfl, fun d h => by cases h; exact ⟨s, rfl⟩⟩
      | 6, hi => cases hi; exact f_ev (e_fld Tryz.underlying24 rfl Tryz.sizeOf22 rfl (q0 hpt)) rfl rfl ⟨⟨s0, s1, fun h => e0 fun h' => h (.inl h'), fun h => e1 fun h' => h (.inl h'), rfl⟩, _, rfl, fun d h => by cases h; rfl⟩
      | 7, hi =>
        cases hi
        obtain ⟨z, hz⟩ : ∃ s : Sl, fr 5 = s.v := hF 2 _ _ rfl (hw 2 rfl) rfl
        have hx : fr 9 = .pointer (some ⟨b1, 3, none⟩) := hF 6 _ _ rfl (hw 6 rfl) rfl
        exact f_store 1 (v := z.v) hx hz Tryz.sizeOf22 rfl rfl rfl rfl ⟨⟨z, s1, fun h => absurd (.inr rfl) h, fun h => e1 fun h' => h (.inl h'), rfl⟩, undef, rfl, fun d h => by cases h⟩
      | 8, hi => cases hi; exact f_ev (e_fld Tryz.underlying24 rfl Tryz.sizeOf22 rfl (q0 hpt)) rfl rfl ⟨⟨s0, s1, fun h => e0 fun h' => h (.inl h'), fun h => e1 fun h' => h (.inl h'), rfl⟩, _, rfl, fun d h => by cases h; rfl⟩
      | 9, hi =>
        cases hi
        obtain ⟨z, hz⟩ : ∃ s : Sl, fr 8 = s.v := hF 5 _ _ rfl (hw 5 rfl) rfl
        have hx : fr 10 = .pointer (some ⟨b1, 4, none⟩) := hF 8 _ _ rfl (hw 8 rfl) rfl
        exact f_store 1 (v := z.v) hx hz Tryz.sizeOf22 rfl rfl rfl rfl ⟨⟨s0, z, fun h => e0 fun h' => h (.inl h'), fun h => absurd (.inr rfl) h, rfl⟩, undef, rfl, fun d h => by cases h⟩
      | n + 10, hi => simp at hi
    · rintro S L fr hS hA hF ⟨s0, s1, e0, e1, rfl⟩
      exact cutJ_normal ((s0, s1) : Sl × Sl) hA trivial (fun w hw => hw) rfl trivial
  · rintro x g _
    refine thenJ_normal ?_
    refine H_seq ?_
    refine R0 ?_
    refine xV (eS Tryz.isAgg24 Tryz.sizeOf24 (q0 rfl)) rfl rfl ?_
    refine X_st (v := .agg _) rfl rfl Tryz.sizeOf24 ?_
    refine XN ?_
    refine thenJ_normal ?_
    refine H_ret ?_
    exact end_of rfl (resC rfl rfl Tryz.isAgg24 Tryz.sizeOf24) fun w' hw => ⟨x, rfl, mem_nil.2 hw.1⟩
structure PrN (a : PrA) : Prop where
  t : a.t.n ≤ 100000
  p : a.p.n ≤ 100000
  pl : a.pl.n ≤ 100000
  d : a.d.n ≤ 100000
  f : a.f.n ≤ 100000
theorem ownPrices_w (p : Pr) (a : PrA) (w : World) (hp : PrAt w p a) (hn : PrN a) : Calls Tryz.prog 37 #[.agg (p.cells a).toArray] w fun e w' => ∃ x : PrA, e = .returned (.agg (p.cells x).toArray) ∧ Mem w [] w' := by
  refine H_enter Tryz.func37 rfl Tryz.ntmps37 rfl ?_
  refine H_seq ?_
  refine R0 ?_
  refine X_box (v := .agg _) rfl rfl fun b1 => ?_
  refine X_alloc Tryz.zeroValue28 rfl fun b2 => ?_
  refine XN ?_
  refine thenJ_normal ?_
  refine H_seq ?_
  refine H_cut [3, 4, 5, 6, 7, 8, 9, 10] (fun x : Sl × Sl => []) (fun x => [box b2 28 [.slice none 0 0, .slice none 0 0, .slice none 0 0, .slice none 0 0, .int .i64 0, .slice none 0 0, .int .i64 0], box b1 28 [x.1.v, x.2.v, a.pl.v, a.d.v, .int .i64 p.cap, a.f.v, .int .i64 p.days]]) (fun _ => True) ?_ ?_
  · refine H_invP [3, 4, 5, 6, 7, 8, 9, 10] (fun d v => match d with
          | 3 | 9 => v = .pointer (some ⟨b1, 0, none⟩)
          | 4 => v = Sl.v a.t
          | 5 => ∃ s : Sl, v = s.v
          | 6 | 10 => v = .pointer (some ⟨b1, 1, none⟩)
          | 7 => v = Sl.v a.p
          | 8 => ∃ s : Sl, v = s.v
          | _ => True) (fun S L => ∃ s0 s1 : Sl, (¬S 7 → s0 = a.t) ∧ (¬S 9 → s1 = a.p) ∧ L = [box b2 28 [.slice none 0 0, .slice none 0 0, .slice none 0 0, .slice none 0 0, .int .i64 0, .slice none 0 0, .int .i64 0], box b1 28 [s0.v, s1.v, a.pl.v, a.d.v, .int .i64 p.cap, a.f.v, .int .i64 p.days]]) rfl rfl ?_ ?_ ?_
    · exact fun S hS => ⟨a.t, a.p, fun _ => rfl, fun _ => rfl, rfl⟩
    · rintro S L fr i o hA hF ⟨s0, s1, e0, e1, rfl⟩ hi hno hw hc
      have hpt : fr 1 = .pointer (some ⟨b1, 0, none⟩) := hA 1 rfl
      match i, hi with
      | 0, hi => cases hi; exact f_ev (e_fld Tryz.underlying28 rfl Tryz.sizeOf25 rfl (q0 hpt)) rfl rfl ⟨⟨s0, s1, fun h => e0 fun h' => h (.inl h'), fun h => e1 fun h' => h (.inl h'), rfl⟩, _, rfl, fun d h => by cases h; rfl⟩
      | 1, hi =>
        cases hi
        have hx : fr 3 = .pointer (some ⟨b1, 0, none⟩) := hF 0 _ _ rfl (hw 0 rfl) rfl
        have n1 : ¬S 7 := fun h => hno (hc 2 1 rfl (hc 7 2 rfl h))
        obtain rfl := e0 n1
        exact f_ev (e_ld (v := Sl.v a.t) Tryz.isAgg25 (q0 hx) (fun _ w hw => box_cell hw (k := 1) rfl rfl)) rfl rfl ⟨⟨a.t, s1, fun _ => rfl, fun h => e1 fun h' => h (.inl h'), rfl⟩, _, rfl, fun d h => by cases h; rfl⟩
      | 2, hi =>
        cases hi
        have hx : fr 4 = Sl.v a.t := hF 1 _ _ rfl (hw 1 rfl) rfl
        exact f_callx (en Tryz.call76 (ha1 (q0 hx))) (fun w hw => cloneT_w a.t.A a.t.n a.t.c p.tariffs w (hp.tf.mem hw) hn.t) rfl (fun _ => rfl) fun s => ⟨⟨s0, s1, fun h => e0 fun h' => h (.inl h'), fun h => e1 fun h' => h (.inl h'), rfl⟩, _, rfl, fun d h => by cases h; exact ⟨s, rfl⟩⟩
      | 3, hi => cases hi; exact f_ev (e_fld Tryz.underlying28 rfl Tryz.sizeOf26 rfl (q0 hpt)) rfl rfl ⟨⟨s0, s1, fun h => e0 fun h' => h (.inl h'), fun h => e1 fun h' => h (.inl h'), rfl⟩, _, rfl, fun d h => by cases h; rfl⟩
      | 4, hi =>
        cases hi
        have hx : fr 6 = .pointer (some ⟨b1, 1, none⟩) := hF 3 _ _ rfl (hw 3 rfl) rfl
        have n1 : ¬S 9 := fun h => hno (hc 5 4 rfl (hc 9 5 rfl h))
        obtain rfl := e1 n1
        exact f_ev (e_ld (v := Sl.v a.p) Tryz.isAgg26 (q0 hx) (fun _ w hw => box_cell hw (k := 1) rfl rfl)) rfl rfl ⟨⟨s0, a.p, fun h => e0 fun h' => h (.inl h'), fun _ => rfl, rfl⟩, _, rfl, fun d h => by cases h; rfl⟩
      | 5, hi =>
        cases hi
        have hx : fr 7 = Sl.v a.p := hF 4 _ _ rfl (hw 4 rfl) rfl
        exact f_callx (en Tryz.call77 (ha1 (q0 hx))) (fun w hw => cloneP_w a.p.A a.p.n a.p.c p.passes w (hp.ps.mem hw) hn.p) rfl (fun _ => rfl) fun s => ⟨⟨s0, s1, fun h => e0 fun h' => h (.inl h'), fun h => e1 fun h' => h (.inl h'), rfl⟩, _, rfl, fun d h => by cases h; exact ⟨s, rfl⟩⟩
      | 6, hi => cases hi; exact f_ev (e_fld Tryz.underlying28 rfl Tryz.sizeOf25 rfl (q0 hpt)) rfl rfl ⟨⟨s0, s1, fun h => e0 fun h' => h (.inl h'), fun h => e1 fun h' => h (.inl h'), rfl⟩, _, rfl, fun d h => by cases h; rfl⟩
      | 7, hi =>
        cases hi
        obtain ⟨z, hz⟩ : ∃ s : Sl, fr 5 = s.v := hF 2 _ _ rfl (hw 2 rfl) rfl
        have hx : fr 9 = .pointer (some ⟨b1, 0, none⟩) := hF 6 _ _ rfl (hw 6 rfl) rfl
        exact f_store 1 (v := z.v) hx hz Tryz.sizeOf25 rfl rfl rfl rfl ⟨⟨z, s1, fun h => absurd (.inr rfl) h, fun h => e1 fun h' => h (.inl h'), rfl⟩, undef, rfl, fun d h => by cases h⟩
      | 8, hi => cases hi; exact f_ev (e_fld Tryz.underlying28 rfl Tryz.sizeOf26 rfl (q0 hpt)) rfl rfl ⟨⟨s0, s1, fun h => e0 fun h' => h (.inl h'), fun h => e1 fun h' => h (.inl h'), rfl⟩, _, rfl, fun d h => by cases h; rfl⟩
      | 9, hi =>
        cases hi
        obtain ⟨z, hz⟩ : ∃ s : Sl, fr 8 = s.v := hF 5 _ _ rfl (hw 5 rfl) rfl
        have hx : fr 10 = .pointer (some ⟨b1, 1, none⟩) := hF 8 _ _ rfl (hw 8 rfl) rfl
        exact f_store 1 (v := z.v) hx hz Tryz.sizeOf26 rfl rfl rfl rfl ⟨⟨s0, z, fun h => e0 fun h' => h (.inl h'), fun h => absurd (.inr rfl) h, rfl⟩, undef, rfl, fun d h => by cases h⟩
      | n + 10, hi => simp at hi
    · rintro S L fr hS hA hF ⟨s0, s1, e0, e1, rfl⟩
      exact cutJ_normal ((s0, s1) : Sl × Sl) hA trivial (fun w hw => hw) rfl trivial
  · rintro ⟨xt, xp⟩ g _
    refine thenJ_normal ?_
    refine H_seq ?_
    refine H_cut [11, 12, 13, 14, 15, 16, 17, 18, 19, 20, 21, 22] (fun x : Sl × Sl × Sl => []) (fun x => [box b2 28 [.slice none 0 0, .slice none 0 0, .slice none 0 0, .slice none 0 0, .int .i64 0, .slice none 0 0, .int .i64 0], box b1 28 [xt.v, xp.v, x.1.v, x.2.1.v, .int .i64 p.cap, x.2.2.v, .int .i64 p.days]]) (fun _ => True) ?_ ?_
    · refine H_invP [11, 12, 13, 14, 15, 16, 17, 18, 19, 20, 21, 22] (fun d v => match d with
            | 11 | 20 => v = .pointer (some ⟨b1, 2, none⟩)
            | 12 => v = Sl.v a.pl
            | 13 => ∃ s : Sl, v = s.v
            | 14 | 21 => v = .pointer (some ⟨b1, 3, none⟩)
            | 15 => v = Sl.v a.d
            | 16 => ∃ s : Sl, v = s.v
            | 17 | 22 => v = .pointer (some ⟨b1, 5, none⟩)
            | 18 => v = Sl.v a.f
            | 19 => ∃ s : Sl, v = s.v
            | _ => True) (fun S L => ∃ s0 s1 s2 : Sl, (¬S 10 → s0 = a.pl) ∧ (¬S 12 → s1 = a.d) ∧ (¬S 14 → s2 = a.f) ∧ L = [box b2 28 [.slice none 0 0, .slice none 0 0, .slice none 0 0, .slice none 0 0, .int .i64 0, .slice none 0 0, .int .i64 0], box b1 28 [xt.v, xp.v, s0.v, s1.v, .int .i64 p.cap, s2.v, .int .i64 p.days]]) rfl rfl ?_ ?_ ?_
      · exact fun S hS => ⟨a.pl, a.d, a.f, fun _ => rfl, fun _ => rfl, fun _ => rfl, rfl⟩
      · rintro S L fr i o hA hF ⟨s0, s1, s2, e0, e1, e2, rfl⟩ hi hno hw hc
        have hpt : fr 1 = .pointer (some ⟨b1, 0, none⟩) := hA 1 rfl
        match i, hi with
        | 0, hi => cases hi; exact f_ev (e_fld Tryz.underlying28 rfl Tryz.sizeOf22 rfl (q0 hpt)) rfl rfl ⟨⟨s0, s1, s2, fun h => e0 fun h' => h (.inl h'), fun h => e1 fun h' => h (.inl h'), fun h => e2 fun h' => h (.inl h'), rfl⟩, _, rfl, fun d h => by cases h; rfl⟩
        | 1, hi =>
          cases hi
          have hx : fr 11 = .pointer (some ⟨b1, 2, none⟩) := hF 0 _ _ rfl (hw 0 rfl) rfl
          have n1 : ¬S 10 := fun h => hno (hc 2 1 rfl (hc 10 2 rfl h))
          obtain rfl := e0 n1
          exact f_ev (e_ld (v := Sl.v a.pl) Tryz.isAgg22 (q0 hx) (fun _ w hw => box_cell hw (k := 1) rfl rfl)) rfl rfl ⟨⟨a.pl, s1, s2, fun _ => rfl, fun h => e1 fun h' => h (.inl h'), fun h => e2 fun h' => h (.inl h'), rfl⟩, _, rfl, fun d h => by cases h; rfl⟩
        | 2, hi =>
          cases hi
          have hx : fr 12 = Sl.v a.pl := hF 1 _ _ rfl (hw 1 rfl) rfl
          exact f_callx (en Tryz.call75 (ha1 (q0 hx))) (fun w hw => cloneI_w a.pl.A a.pl.n a.pl.c p.places w (hp.pl.mem hw) hn.pl) rfl (fun _ => rfl) fun s => ⟨⟨s0, s1, s2, fun h => e0 fun h' => h (.inl h'), fun h => e1 fun h' => h (.inl h'), fun h => e2 fun h' => h (.inl h'), rfl⟩, _, rfl, fun d h => by cases h; exact ⟨s, rfl⟩⟩
        | 3, hi => cases hi; exact f_ev (e_fld Tryz.underlying28 rfl Tryz.sizeOf22 rfl (q0 hpt)) rfl rfl ⟨⟨s0, s1, s2, fun h => e0 fun h' => h (.inl h'), fun h => e1 fun h' => h (.inl h'), fun h => e2 fun h' => h (.inl h'), rfl⟩, _, rfl, fun d h => by cases h; rfl⟩
        | 4, hi =>
          cases hi
          have hx : fr 14 = .pointer (some ⟨b1, 3, none⟩) := hF 3 _ _ rfl (hw 3 rfl) rfl
          have n1 : ¬S 12 := fun h => hno (hc 5 4 rfl (hc 12 5 rfl h))
          obtain rfl := e1 n1
          exact f_ev (e_ld (v := Sl.v a.d) Tryz.isAgg22 (q0 hx) (fun _ w hw => box_cell hw (k := 1) rfl rfl)) rfl rfl ⟨⟨s0, a.d, s2, fun h => e0 fun h' => h (.inl h'), fun _ => rfl, fun h => e2 fun h' => h (.inl h'), rfl⟩, _, rfl, fun d h => by cases h; rfl⟩
        | 5, hi =>
          cases hi
          have hx : fr 15 = Sl.v a.d := hF 4 _ _ rfl (hw 4 rfl) rfl
          exact f_callx (en Tryz.call75 (ha1 (q0 hx))) (fun w hw => cloneI_w a.d.A a.d.n a.d.c p.docks w (hp.dk.mem hw) hn.d) rfl (fun _ => rfl) fun s => ⟨⟨s0, s1, s2, fun h => e0 fun h' => h (.inl h'), fun h => e1 fun h' => h (.inl h'), fun h => e2 fun h' => h (.inl h'), rfl⟩, _, rfl, fun d h => by cases h; exact ⟨s, rfl⟩⟩
        | 6, hi => cases hi; exact f_ev (e_fld Tryz.underlying28 rfl Tryz.sizeOf22 rfl (q0 hpt)) rfl rfl ⟨⟨s0, s1, s2, fun h => e0 fun h' => h (.inl h'), fun h => e1 fun h' => h (.inl h'), fun h => e2 fun h' => h (.inl h'), rfl⟩, _, rfl, fun d h => by cases h; rfl⟩
        | 7, hi =>
          cases hi
          have hx : fr 17 = .pointer (some ⟨b1, 5, none⟩) := hF 6 _ _ rfl (hw 6 rfl) rfl
          have n1 : ¬S 14 := fun h => hno (hc 8 7 rfl (hc 14 8 rfl h))
          obtain rfl := e2 n1
          exact f_ev (e_ld (v := Sl.v a.f) Tryz.isAgg22 (q0 hx) (fun _ w hw => box_cell hw (k := 1) rfl rfl)) rfl rfl ⟨⟨s0, s1, a.f, fun h => e0 fun h' => h (.inl h'), fun h => e1 fun h' => h (.inl h'), fun _ => rfl, rfl⟩, _, rfl, fun d h => by cases h; rfl⟩
        | 8, hi =>
          cases hi
          have hx : fr 18 = Sl.v a.f := hF 7 _ _ rfl (hw 7 rfl) rfl
          exact f_callx (en Tryz.call75 (ha1 (q0 hx))) (fun w hw => cloneI_w a.f.A a.f.n a.f.c p.fines w (hp.fi.mem hw) hn.f) rfl (fun _ => rfl) fun s => ⟨⟨s0, s1, s2, fun h => e0 fun h' => h (.inl h'), fun h => e1 fun h' => h (.inl h'), fun h => e2 fun h' => h (.inl h'), rfl⟩, _, rfl, fun d h => by cases h; exact ⟨s, rfl⟩⟩
        | 9, hi => cases hi; exact f_ev (e_fld Tryz.underlying28 rfl Tryz.sizeOf22 rfl (q0 hpt)) rfl rfl ⟨⟨s0, s1, s2, fun h => e0 fun h' => h (.inl h'), fun h => e1 fun h' => h (.inl h'), fun h => e2 fun h' => h (.inl h'), rfl⟩, _, rfl, fun d h => by cases h; rfl⟩
        | 10, hi =>
          cases hi
          obtain ⟨z, hz⟩ : ∃ s : Sl, fr 13 = s.v := hF 2 _ _ rfl (hw 2 rfl) rfl
          have hx : fr 20 = .pointer (some ⟨b1, 2, none⟩) := hF 9 _ _ rfl (hw 9 rfl) rfl
          exact f_store 1 (v := z.v) hx hz Tryz.sizeOf22 rfl rfl rfl rfl ⟨⟨z, s1, s2, fun h => absurd (.inr rfl) h, fun h => e1 fun h' => h (.inl h'), fun h => e2 fun h' => h (.inl h'), rfl⟩, undef, rfl, fun d h => by cases h⟩
        | 11, hi => cases hi; exact f_ev (e_fld Tryz.underlying28 rfl Tryz.sizeOf22 rfl (q0 hpt)) rfl rfl ⟨⟨s0, s1, s2, fun h => e0 fun h' => h (.inl h'), fun h => e1 fun h' => h (.inl h'), fun h => e2 fun h' => h (.inl h'), rfl⟩, _, rfl, fun d h => by cases h; rfl⟩
        | 12, hi =>
          cases hi
          obtain ⟨z, hz⟩ : ∃ s : Sl, fr 16 = s.v := hF 5 _ _ rfl (hw 5 rfl) rfl
          have hx : fr 21 = .pointer (some ⟨b1, 3, none⟩) := hF 11 _ _ rfl (hw 11 rfl) rfl
          exact f_store 1 (v := z.v) hx hz Tryz.sizeOf22 rfl rfl rfl rfl ⟨⟨s0, z, s2, fun h => e0 fun h' => h (.inl h'), fun h => absurd (.inr rfl) h, fun h => e2 fun h' => h (.inl h'), rfl⟩, undef, rfl, fun d h => by cases h⟩
        | 13, hi => cases hi; exact f_ev (e_fld Tryz.underlying28 rfl Tryz.sizeOf22 rfl (q0 hpt)) rfl rfl ⟨⟨s0, s1, s2, fun h => e0 fun h' => h (.inl h'), fun h => e1 fun h' => h (.inl h'), fun h => e2 fun h' => h (.inl h'), rfl⟩, _, rfl, fun d h => by cases h; rfl⟩
        | 14, hi =>
          cases hi
          obtain ⟨z, hz⟩ : ∃ s : Sl, fr 19 = s.v := hF 8 _ _ rfl (hw 8 rfl) rfl
          have hx : fr 22 = .pointer (some ⟨b1, 5, none⟩) := hF 13 _ _ rfl (hw 13 rfl) rfl
          exact f_store 1 (v := z.v) hx hz Tryz.sizeOf22 rfl rfl rfl rfl ⟨⟨s0, s1, z, fun h => e0 fun h' => h (.inl h'), fun h => e1 fun h' => h (.inl h'), fun h => absurd (.inr rfl) h, rfl⟩, undef, rfl, fun d h => by cases h⟩
        | n + 15, hi => simp at hi
      · rintro S L fr hS hA hF ⟨s0, s1, s2, e0, e1, e2, rfl⟩
        exact cutJ_normal ((s0, s1, s2) : Sl × Sl × Sl) hA trivial (fun w hw => hw) rfl trivial
    · rintro ⟨y1, y2, y3⟩ g2 _
      refine thenJ_normal ?_
      refine H_seq ?_
      refine R0 ?_
      refine xV (eS Tryz.isAgg28 Tryz.sizeOf28 (q0 rfl)) rfl rfl ?_
      refine X_st (v := .agg _) rfl rfl Tryz.sizeOf28 ?_
      refine XN ?_
      refine thenJ_normal ?_
      refine H_ret ?_
      exact end_of rfl (resC rfl rfl Tryz.isAgg28 Tryz.sizeOf28) fun w' hw => ⟨⟨xt, xp, y1, y2, y3⟩, rfl, mem_nil.2 hw.1⟩
end Go.Proofs.Hom

/-
  The walks: replicas, desks and networks without events are made.
-/
namespace Go.Proofs.Hom
open Go Go.RowKit Go.Proofs.E Go.Proofs.Cus Go.Proofs.Far

/-! two items as one -/
def join (x y : E.Item) : E.Item where
  fp := fun b => x.fp b ∨ y.fp b
  A := fun w => x.A w ∧ y.A w
  st := fun w w' h hA => ⟨x.st w w' (fun b hb => h b (.inl hb)) hA.1, y.st w w' (fun b hb => h b (.inr hb)) hA.2⟩
theorem mem_two {w0 w : World} {L : List E.Item} {x y z : E.Item} (h : Mem w0 (x :: y :: L) w) (hfp : ∀ b, z.fp b → x.fp b ∨ y.fp b) (hA : x.A w → y.A w → z.A w) : Mem w0 (z :: L) w := by
  obtain ⟨h1, h2, h3, h4⟩ := h
  have hx := List.pairwise_cons.1 h4
  have hy := List.pairwise_cons.1 hx.2
  refine ⟨h1, fun i hi => ?_, fun i hi b hf => ?_, List.pairwise_cons.2 ⟨fun i hi b hf hg => ?_, hy.2⟩⟩
  · rcases List.mem_cons.1 hi with rfl | hi
    · exact hA (h2 x (by simp)) (h2 y (by simp))
    · exact h2 i (by simp [hi])
  · rcases List.mem_cons.1 hi with rfl | hi
    · rcases hfp b hf with hf | hf
      · exact h3 x (by simp) b hf
      · exact h3 y (by simp) b hf
    · exact h3 i (by simp [hi]) b hf
  · rcases hfp b hf with hf | hf
    · exact hx.1 i (by simp [hi]) b hf hg
    · exact hy.1 i hi b hf hg
theorem mem_join {w0 w : World} {L : List E.Item} {x y : E.Item} (h : Mem w0 (x :: y :: L) w) : Mem w0 (join x y :: L) w := mem_two h (fun _ h => h) fun a b => ⟨a, b⟩

/-! servers without events -/
structure Sv where
  r : Nat
  m : Nat
  d : Nat
  e : Nat
  s : Nat
def rpI (dv : Int) (x : Nat × Nat) : E.Item := join (box x.1 127 [.int .i64 dv, .map (some x.2)]) (imap x.2 [])
def dkI (x : Nat × Nat) : E.Item := box x.1 159 [.slice none 0 0, .map (some x.2)]
def svI (dv : Int) (s : Sv) : E.Item := join (join (box s.s 102 [.pointer (some ⟨s.r, 0, none⟩), .pointer (some ⟨s.d, 0, none⟩), .int .i64 0]) (dkI (s.d, s.e))) (rpI dv (s.r, s.m))
def svs (dv : Int) (l : List Sv) : E.Item where
  fp := fun b => ∃ s ∈ l, (svI dv s).fp b
  A := fun w => ∀ s ∈ l, (svI dv s).A w
  st := fun w w' h hA s hs => (svI dv s).st w w' (fun b hb => h b ⟨s, hs, hb⟩) (hA s hs)
theorem svs_nil {w0 w : World} {L : List E.Item} (dv : Int) (h : Mem w0 L w) : Mem w0 (svs dv [] :: L) w := by
  obtain ⟨h1, h2, h3, h4⟩ := h
  refine ⟨h1, fun i hi => ?_, fun i hi b hf => ?_, List.pairwise_cons.2 ⟨fun i hi b hf hg => ?_, h4⟩⟩
  · rcases List.mem_cons.1 hi with rfl | hi
    · intro s hs; cases hs
    · exact h2 i hi
  · rcases List.mem_cons.1 hi with rfl | hi
    · obtain ⟨s, hs, _⟩ := hf; cases hs
    · exact h3 i hi b hf
  · obtain ⟨s, hs, _⟩ := hf; cases hs
theorem svs_add {w0 w : World} {L : List E.Item} {dv : Int} {l : List Sv} (s : Sv) (h : Mem w0 (box s.s 102 [.pointer (some ⟨s.r, 0, none⟩), .pointer (some ⟨s.d, 0, none⟩), .int .i64 0] :: dkI (s.d, s.e) :: rpI dv (s.r, s.m) :: svs dv l :: L) w) : Mem w0 (svs dv (l ++ [s]) :: L) w :=
  mem_two (mem_join (mem_join h)) (fun b ⟨x, hx, hb⟩ => by
    rcases List.mem_append.1 hx with hx | hx
    · exact .inr ⟨x, hx, hb⟩
    · simp at hx; subst hx; exact .inl hb) fun a b x hx => by
    rcases List.mem_append.1 hx with hx | hx
    · exact b x hx
    · simp at hx; subst hx; exact a
theorem fl127 {fs : Array Field} (h : Tryz.prog.underlying 127 = some (.struct fs) := by exact Tryz.underlying127) : FieldsLie Tryz.prog fs [(0, 1), (1, 1)] := by
  rw [Tryz.underlying127] at h
  cases h
  intro w
  kernel_rfl
theorem fl159 {fs : Array Field} (h : Tryz.prog.underlying 159 = some (.struct fs) := by exact Tryz.underlying159) : FieldsLie Tryz.prog fs [(0, 1), (1, 1)] := by
  rw [Tryz.underlying159] at h
  cases h
  intro w
  kernel_rfl
theorem fl102 {fs : Array Field} (h : Tryz.prog.underlying 102 = some (.struct fs) := by exact Tryz.underlying102) : FieldsLie Tryz.prog fs [(0, 1), (1, 1), (2, 1)] := by
  rw [Tryz.underlying102] at h
  cases h
  intro w
  kernel_rfl
theorem fl97 {fs : Array Field} (h : Tryz.prog.underlying 97 = some (.struct fs) := by exact Tryz.underlying97) : FieldsLie Tryz.prog fs [(0, 5), (5, 7), (12, 1), (13, 1), (14, 1)] := by
  rw [Tryz.underlying97] at h
  cases h
  intro w
  kernel_rfl
theorem gnew_w (dv : Int) (h1 : 1 ≤ dv) (h2 : dv ≤ 256) (w : World) : Calls Tryz.prog 24 #[.int .i64 dv] w fun e w' => ∃ x : Nat × Nat, e = .returned (.tuple #[.pointer (some ⟨x.1, 0, none⟩), .int .i64 0]) ∧ Mem w [rpI dv x] w' := by
  refine H_enter Tryz.func24 rfl Tryz.ntmps24 rfl ?_
  refine H_seq ?_
  refine R0 ?_
  refine xV (e_as (v := .pointer _) (q0 rfl)) rfl rfl ?_
  refine xV (e_as (v := .int _ _) (q0 rfl)) rfl rfl ?_
  refine XN ?_
  refine thenJ_normal ?_
  refine H_seq ?_
  refine H_seq ?_
  refine R0 ?_
  refine xV (e_mv (v := .int _ _) (q0 rfl)) rfl rfl ?_
  refine xV (e_lt (q0 rfl) (q0 rfl)) rfl rfl ?_
  refine xV (e_mv (v := .bool _) (q0 rfl)) rfl rfl ?_
  refine xVF (e_mv (v := .int _ _) (q0 rfl)) rfl rfl rfl rfl ?_
  refine xVF (e_gt (q1 rfl) (q0 rfl)) rfl rfl rfl rfl ?_
  refine xV (e_or (q0 rfl) rfl (fun h => by first | rfl | (rw [h]; rfl))) rfl rfl ?_
  refine XN ?_
  refine thenJ_normal ?_
  refine H_cond rfl (fun hb => ?_) (fun hb => ?_)
  · exfalso; simp at hb; omega
  · refine H_skip ?_
    refine thenJ_normal ?_
    refine H_seq ?_
    refine R0 ?_
    refine xV (e_mv (v := .int _ _) (q0 rfl)) rfl rfl ?_
    refine X_makeMap rfl fun bm => ?_
    refine xV (e_build Tryz.underlying127 fl127 Tryz.zeroValue127 (pt (v := .int _ _) rfl (pt (v := .map _) rfl E.p0)) rfl) rfl rfl ?_
    refine X_box (v := .agg _) rfl rfl fun b13 => ?_
    refine xV (e_as (v := .pointer _) (q0 rfl)) rfl rfl ?_
    refine xV (e_as (v := .int _ _) (q0 rfl)) rfl rfl ?_
    refine XN ?_
    refine thenJ_normal ?_
    refine H_ret ?_
    exact ret2 (v := .pointer _) (x := .int _ _) rfl rfl rfl rfl fun w' hw => ⟨(b13, bm), rfl, mem_join hw⟩
theorem cnew_w (w : World) : Calls Tryz.prog 38 #[] w fun e w' => ∃ x : Nat × Nat, e = .returned (.pointer (some ⟨x.1, 0, none⟩)) ∧ Mem w [dkI x] w' := by
  refine H_enter Tryz.func38 rfl Tryz.ntmps38 rfl ?_
  refine H_seq ?_
  refine R0 ?_
  refine xV (e_as (v := .pointer _) (q0 rfl)) rfl rfl ?_
  refine XN ?_
  refine thenJ_normal ?_
  refine H_seq ?_
  refine R0 ?_
  refine X_makeMap rfl fun bm => ?_
  refine xV (e_build Tryz.underlying159 fl159 Tryz.zeroValue159 (pt (v := .map _) rfl E.p0) rfl) rfl rfl ?_
  refine X_box (v := .agg _) rfl rfl fun b3 => ?_
  refine xV (e_as (v := .pointer _) (q0 rfl)) rfl rfl ?_
  refine XN ?_
  refine thenJ_normal ?_
  refine H_ret ?_
  exact ret1 (v := .pointer _) rfl rfl rfl fun w' hw => ⟨(b3, bm), rfl, hw.pick [0] (by decide)⟩

/-! networks -/
def netErr (f : Fl) (p : Pr) (k : Int) : Int := if prErr f p ≠ 0 then prErr f p else if k < 1 ∨ 8 < k then 1 else 0
theorem newBad_w (f : Fl) (fa : FA) (p : Pr) (a : PrA) (k : Int) (w : World) (hf : FlAt w f fa) (hp : PrAt w p a) (hk : netErr f p k ≠ 0) : Calls Tryz.prog 11 #[.agg (f.cells fa).toArray, .agg (p.cells a).toArray, .int .i64 k] w fun e w' => e = .returned (.tuple #[.pointer none, .int .i64 (netErr f p k)]) ∧ Bel w w' := by
  refine H_enter Tryz.func11 rfl Tryz.ntmps11 rfl ?_
  refine H_seq ?_
  refine R0 ?_
  refine X_box (v := .agg _) rfl rfl fun b3 => ?_
  refine X_box (v := .agg _) rfl rfl fun b4 => ?_
  refine xV (e_as (v := .pointer _) (q0 rfl)) rfl rfl ?_
  refine xV (e_as (v := .int _ _) (q0 rfl)) rfl rfl ?_
  refine XN ?_
  refine thenJ_normal ?_
  refine H_seq ?_
  refine H_seq ?_
  refine R0 ?_
  refine xV (eS Tryz.isAgg24 Tryz.sizeOf24 (q0 rfl)) rfl rfl ?_
  refine xV (eS Tryz.isAgg28 Tryz.sizeOf28 (q0 rfl)) rfl rfl ?_
  refine xC (en Tryz.call35 (ha2 (q0 rfl) (q0 rfl))) (fun _ w hw => fcheck_w f fa p a w (hf.mem hw) (hp.mem hw)) rfl rfl ?_
  refine xV (e_as (v := .int _ _) (q0 rfl)) rfl rfl ?_
  refine XN ?_
  refine thenJ_normal ?_
  refine H_seq ?_
  refine R0 ?_
  refine xV (e_mv (v := .int _ _) (q0 rfl)) rfl rfl ?_
  refine xV (e_ne (q0 rfl) (q0 rfl)) rfl rfl ?_
  refine XN ?_
  refine thenJ_normal ?_
  refine H_cond rfl (fun h1 => ?_) (fun h1 => ?_)
  · have h1' : prErr f p ≠ 0 := by simpa using h1
    refine H_seq ?_
    refine R0 ?_
    refine xV (e_mv (v := .int _ _) (q0 rfl)) rfl rfl ?_
    refine xV (e_as (v := .pointer _) (q0 rfl)) rfl rfl ?_
    refine xV (e_as (v := .int _ _) (q0 rfl)) rfl rfl ?_
    refine XN ?_
    refine thenJ_normal ?_
    refine H_ret ?_
    refine thenJ_ret ?_
    exact ret2 (v := .pointer _) (x := .int _ _) rfl rfl rfl rfl fun w' hw => ⟨by unfold netErr; rw [if_pos h1'], hw.1⟩
  · have h1' : prErr f p = 0 := by simpa using h1
    refine H_skip ?_
    refine thenJ_normal ?_
    refine H_seq ?_
    refine H_seq ?_
    refine R0 ?_
    refine xV (e_mv (v := .int _ _) (q0 rfl)) rfl rfl ?_
    refine xV (e_lt (q0 rfl) (q0 rfl)) rfl rfl ?_
    refine xV (e_mv (v := .bool _) (q0 rfl)) rfl rfl ?_
    refine xVF (e_mv (v := .int _ _) (q0 rfl)) rfl rfl rfl rfl ?_
    refine xVF (e_gt (q1 rfl) (q0 rfl)) rfl rfl rfl rfl ?_
    refine xV (e_or (q0 rfl) rfl (fun h => by first | rfl | (rw [h]; rfl))) rfl rfl ?_
    refine XN ?_
    refine thenJ_normal ?_
    refine H_cond rfl (fun h2 => ?_) (fun h2 => ?_)
    · have h2' : k < 1 ∨ 8 < k := by simpa using h2
      refine H_seq ?_
      refine R0 ?_
      refine xV (e_as (v := .pointer _) (q0 rfl)) rfl rfl ?_
      refine xV (e_as (v := .int _ _) (q0 rfl)) rfl rfl ?_
      refine XN ?_
      refine thenJ_normal ?_
      refine H_ret ?_
      refine thenJ_ret ?_
      exact ret2 (v := .pointer _) (x := .int _ _) rfl rfl rfl rfl fun w' hw => ⟨by unfold netErr; rw [if_neg (fun h => h h1'), if_pos h2'], hw.1⟩
    · exfalso
      have h2' : ¬(k < 1 ∨ 8 < k) := by simpa using h2
      unfold netErr at hk
      rw [if_neg (fun h => h h1'), if_neg h2'] at hk
      exact hk rfl
def ptC (b : Nat) : List Value := [.pointer (some ⟨b, 0, none⟩)]
def bsC (n : Nat) (b : Nat) : List Value := [.slice (some ⟨b, 0, none⟩) n n]
abbrev svRow (A : Option Addr) (c : Nat) (l : List Nat) : E.Item := rowT 98 1 ptC A c l
abbrev bsRow (n : Nat) (A : Option Addr) (c : Nat) (l : List Nat) : E.Item := rowT 103 1 (bsC n) A c l
def blC (b : Bool) : List Value := [.bool b]
/-- a network: its fleet's lists, its prices' lists, its servers, what is apart -/
structure NA where
  d : Sl
  t : Sl
  p : PrA
  l : List Sv
  s : List Nat
  sA : Option Addr
  sc : Nat
  b : List Nat
  bA : Option Addr
  bc : Nat
def netC (f : Fl) (p : Pr) (x : NA) : List Value := [.int .i64 f.bikes, .int .i64 f.riders, .int .i64 f.devices, x.d.v, x.t.v, x.p.t.v, x.p.p.v, x.p.pl.v, x.p.d.v, .int .i64 p.cap, x.p.f.v, .int .i64 p.days, .slice x.sA x.s.length x.sc, .slice x.bA x.b.length x.bc, .slice none 0 0]
def netL (f : Fl) (p : Pr) (x : Nat × NA) : List E.Item := [svs f.devices x.2.l, box x.1 97 (netC f p x.2), svRow x.2.sA x.2.sc x.2.s]
theorem prErr_ok {f : Fl} {p : Pr} (h : prErr f p = 0) : flErr f = 0 := by
  refine Classical.byContradiction fun hn => ?_
  unfold prErr at h
  rw [if_pos hn] at h
  exact hn h
set_option maxRecDepth 20000 in
set_option maxHeartbeats 1000000 in
theorem newOk_w (f : Fl) (fa : FA) (p : Pr) (a : PrA) (n : Nat) (w : World) (hf : FlAt w f fa) (hp : PrAt w p a) (hd : fa.dn ≤ 100000) (ht : fa.tn ≤ 100000) (hn : PrN a) (h0 : prErr f p = 0) (hn1 : 1 ≤ n) (hn8 : n ≤ 8) : Calls Tryz.prog 11 #[.agg (f.cells fa).toArray, .agg (p.cells a).toArray, .int .i64 n] w fun e w' => ∃ x : { x : Nat × NA // x.2.s = x.2.l.map (·.s) ∧ x.2.s.length = n }, e = .returned (.tuple #[.pointer (some ⟨x.1.1, 0, none⟩), .int .i64 0]) ∧ Mem w (netL f p x.1) w' := by
  have hdv : 1 ≤ f.devices ∧ f.devices ≤ 256 := by have := flErr_ok (prErr_ok h0); omega
  refine H_enter Tryz.func11 rfl Tryz.ntmps11 rfl ?_
  refine H_seq ?_
  refine R0 ?_
  refine X_box (v := .agg _) rfl rfl fun b3 => ?_
  refine X_box (v := .agg _) rfl rfl fun b4 => ?_
  refine xV (e_as (v := .pointer _) (q0 rfl)) rfl rfl ?_
  refine xV (e_as (v := .int _ _) (q0 rfl)) rfl rfl ?_
  refine XN ?_
  refine thenJ_normal ?_
  refine H_seq ?_
  refine H_seq ?_
  refine R0 ?_
  refine xV (eS Tryz.isAgg24 Tryz.sizeOf24 (q0 rfl)) rfl rfl ?_
  refine xV (eS Tryz.isAgg28 Tryz.sizeOf28 (q0 rfl)) rfl rfl ?_
  refine xC (en Tryz.call35 (ha2 (q0 rfl) (q0 rfl))) (fun _ w hw => fcheck_w f fa p a w (hf.mem hw) (hp.mem hw)) rfl rfl ?_
  refine xV (e_as (v := .int _ _) (q0 rfl)) rfl rfl ?_
  refine XN ?_
  refine thenJ_normal ?_
  refine H_seq ?_
  refine R0 ?_
  refine xV (e_mv (v := .int _ _) (q0 rfl)) rfl rfl ?_
  refine xV (e_ne (q0 rfl) (q0 rfl)) rfl rfl ?_
  refine XN ?_
  refine thenJ_normal ?_
  refine H_cond rfl (fun h1 => ?_) (fun h1 => ?_)
  · exact absurd h0 (by simpa using h1)
  · refine H_skip ?_
    refine thenJ_normal ?_
    refine H_seq ?_
    refine H_seq ?_
    refine R0 ?_
    refine xV (e_mv (v := .int _ _) (q0 rfl)) rfl rfl ?_
    refine xV (e_lt (q0 rfl) (q0 rfl)) rfl rfl ?_
    refine xV (e_mv (v := .bool _) (q0 rfl)) rfl rfl ?_
    refine xVF (e_mv (v := .int _ _) (q0 rfl)) rfl rfl rfl rfl ?_
    refine xVF (e_gt (q1 rfl) (q0 rfl)) rfl rfl rfl rfl ?_
    refine xV (e_or (q0 rfl) rfl (fun h => by first | rfl | (rw [h]; rfl))) rfl rfl ?_
    refine XN ?_
    refine thenJ_normal ?_
    refine H_cond rfl (fun h2 => ?_) (fun h2 => ?_)
    · exfalso; simp at h2; omega
    · have _ht : True := trivial
      refine H_skip ?_
      refine thenJ_normal ?_
      refine H_seq ?_
      refine H_cut [9, 24, 25, 26, 27, 28, 29] (fun x : (Sl × Sl) × PrA × Nat => [(9, .pointer (some ⟨x.2.2, 0, none⟩))]) (fun x => [box x.2.2 97 (netC f p ⟨x.1.1, x.1.2, x.2.1, [], [], none, 0, [], none, 0⟩), box b4 28 (p.cells a), box b3 24 (f.cells fa)]) (fun _ => True) ?_ ?_
      · refine RA rfl (by decide +kernel) ?_
        refine aV 0 (by decide +kernel) rfl (eS Tryz.isAgg24 Tryz.sizeOf24 (q0 rfl)) rfl ?_
        refine aV 2 (by decide +kernel) rfl (eS Tryz.isAgg28 Tryz.sizeOf28 (q0 rfl)) rfl ?_
        refine rdy1 (i := 1) (by decide +kernel) (sub_drop 0) ?_
        refine aL rfl (f_callx (en Tryz.call36 (ha1 (q0 rfl))) (fun w hw => ownFleet_w f fa w (hf.mem hw) hd ht) rfl (fun _ => rfl) fun y => ?_)
        refine rdy1 (i := 3) (by decide +kernel) (sub_drop 0) ?_
        refine aL rfl (f_callx (en Tryz.call37 (ha1 (q0 rfl))) (fun w hw => ownPrices_w p a w (hp.mem hw) hn) rfl (fun _ => rfl) fun z => ?_)
        refine aV 4 (by decide +kernel) rfl (e_build Tryz.underlying97 fl97 Tryz.zeroValue97 (pt (v := .agg _) rfl (pt (v := .agg _) rfl E.p0)) rfl) rfl ?_
        refine rdy1 (i := 5) (by decide +kernel) (sub_drop 0) ?_
        refine aL rfl (f_box (v := .agg _) rfl rfl fun b29 => ?_)
        refine aRL (sub_drop 1) ?_
        refine aV 6 (by decide +kernel) rfl (e_as (v := .pointer _) (q0 rfl)) rfl ?_
        refine aZ (by decide +kernel) (sub_drop 0) ?_
        exact cutJ_normal ((y, z, b29) : (Sl × Sl) × PrA × Nat) (by repeat (first | exact agree_self | exact agree_over | refine agree_upd rfl ?_ | refine agree_updL rfl ?_ | refine agree_over2 rfl ?_)) ⟨rfl, trivial⟩ (fun w hw => hw) rfl trivial
      · rintro ⟨⟨d0, t0⟩, p0', nb⟩ g _
        refine thenJ_normal ?_
        refine H_seq ?_
        refine H_seq ?_
        refine R0 ?_
        refine xV (e_mv (v := .int _ _) (q0 rfl)) rfl rfl ?_
        refine xV (e_mv (v := .int _ _) (q0 rfl)) rfl rfl ?_
        refine XN ?_
        refine thenJ_normal ?_
        refine H_block ?_
        refine H_loop [6, 7, 10, 11, 31, 32, 33, 34, 35, 36, 37, 38, 39, 40, 41, 42, 43, 44, 45, 46, 47, 48, 49, 50, 51, 52, 53, 54, 55, 56, 57, 58, 59, 60, 61, 62, 63, 64, 65, 66] (fun s : Nat × NA => [(31, .int .i64 s.1)]) (fun s => [svs f.devices s.2.l, box nb 97 (netC f p s.2), svRow s.2.sA s.2.sc s.2.s, bsRow n s.2.bA s.2.bc s.2.b, box b4 28 (p.cells a), box b3 24 (f.cells fa)]) (fun s => s.1 ≤ n ∧ s.2.s = s.2.l.map (·.s) ∧ s.2.s.length = s.1 ∧ s.2.b.length = s.1) (fun s => n - s.1) (0, ⟨d0, t0, p0', [], [], none, 0, [], none, 0⟩) ⟨rfl, trivial⟩ (fun w hw => svs_nil f.devices ((hw.nilRow 98 1 ptC rfl).mv1 |> fun h => ((h.nilRow 103 1 (bsC n) rfl).pick [1, 2, 0, 3, 4] (by decide)))) rfl ⟨Nat.zero_le _, rfl, rfl, rfl⟩ ?_
        rintro ⟨k, d1, t1, p1', l, ss, sA, sc, bl, bA, bc⟩ g2 ⟨hk, hss, hsl, hbl⟩
        have hk : k ≤ n := hk
        have hss : ss = l.map (·.s) := hss
        have hsl : ss.length = k := hsl
        have hbl : bl.length = k := hbl
        refine H_seq ?_
        refine R0 ?_
        refine xV (e_lt (q0 rfl) (q0 rfl)) rfl rfl ?_
        refine XN ?_
        refine thenJ_normal ?_
        refine H_seq ?_
        refine H_cond rfl (fun hlt => ?_) (fun hlt => ?_)
        · have hlt' : k < n := by simpa using hlt
          refine H_skip ?_
          refine thenJ_normal ?_
          refine H_seq ?_
          refine H_block ?_
          refine H_seq ?_
          refine R0 ?_
          refine xV (e_fld Tryz.underlying24 rfl Tryz.sizeOf3 rfl (q0 rfl)) rfl rfl ?_
          refine xV (eL Tryz.isAgg3 (q0 rfl)) rfl rfl ?_
          refine xCX (en Tryz.call24 (ha1 (q0 rfl))) (fun w _ => gnew_w f.devices hdv.1 hdv.2 w) rfl (fun _ => rfl) fun y => ?_
          refine xV (e_mv (q0 rfl)) rfl rfl ?_
          refine xV (e_ext (q0 rfl) rfl) rfl rfl ?_
          refine xV (e_ext (q0 rfl) rfl) rfl rfl ?_
          refine xV (e_as (v := .pointer _) (q0 rfl)) rfl rfl ?_
          refine xV (e_as (v := .int _ _) (q0 rfl)) rfl rfl ?_
          refine XN ?_
          refine thenJ_normal ?_
          refine H_seq ?_
          refine H_seq ?_
          refine R0 ?_
          refine xV (e_mv (v := .int _ _) (q0 rfl)) rfl rfl ?_
          refine xV (e_ne (q0 rfl) (q0 rfl)) rfl rfl ?_
          refine XN ?_
          refine thenJ_normal ?_
          refine H_cond rfl (fun he => ?_) (fun he => ?_)
          · simp at he
          · have _ht : True := trivial
            refine H_skip ?_
            refine thenJ_normal ?_
            refine H_seq ?_
            refine H_cut [42, 43, 44, 45, 46, 47, 48, 49, 50, 51, 52, 53, 54] (fun x : ((Nat × Nat) × Nat) × Option Addr × Nat => []) (fun x => [svs f.devices (l ++ [⟨y.1, y.2, x.1.1.1, x.1.1.2, x.1.2⟩]), box nb 97 (netC f p ⟨d1, t1, p1', l, ss ++ [x.1.2], x.2.1, x.2.2, bl, bA, bc⟩), svRow x.2.1 x.2.2 (ss ++ [x.1.2]), bsRow n bA bc bl, box b4 28 (p.cells a), box b3 24 (f.cells fa)]) (fun _ => True) ?_ ?_
            · refine RAd 4 rfl (by decide +kernel) ?_
              refine aV 0 (by decide +kernel) rfl (e_mv (v := .pointer _) (q0 rfl)) rfl ?_
              refine aV 1 (by decide +kernel) rfl (e_mv (v := .pointer _) (q0 rfl)) rfl ?_
              refine aV 2 (by decide +kernel) rfl (e_nilc (q0 rfl)) rfl ?_
              refine aV 3 (by decide +kernel) rfl (e_fld Tryz.underlying97 rfl Tryz.sizeOf94 rfl (q0 rfl)) rfl ?_
              refine aV 5 (by decide +kernel) rfl (e_mv (v := .pointer _) (q0 rfl)) rfl ?_
              refine rdy2 (i := 4) (j := 6) (by decide +kernel) (sub_drop 4) ?_ ?_
              · refine aL rfl (f_ev (e_ld (v := .slice sA ss.length sc) Tryz.isAgg94 (q0 rfl) (by first | exact bx 0 rfl rfl | exact bx 1 rfl rfl | exact bx 2 rfl rfl | exact bx 3 rfl rfl | exact bx 4 rfl rfl | exact bx 5 rfl rfl | exact bx 6 rfl rfl | exact bx 7 rfl rfl | exact bx 8 rfl rfl | exact bx 9 rfl rfl | exact rc ‹_› ‹_› rfl | exact rc0 ‹_› ‹_› rfl | exact xc ‹_› ‹_› | exact rr 0 rfl ‹_› rfl | exact rr0 0 rfl ‹_› rfl | exact rr 1 rfl ‹_› rfl | exact rr0 1 rfl ‹_› rfl | exact rr 2 rfl ‹_› rfl | exact rr0 2 rfl ‹_› rfl | exact rr 3 rfl ‹_› rfl | exact rr0 3 rfl ‹_› rfl | exact rr 4 rfl ‹_› rfl | exact rr0 4 rfl ‹_› rfl | exact rr 5 rfl ‹_› rfl | exact rr0 5 rfl ‹_› rfl | exact rr 6 rfl ‹_› rfl | exact rr0 6 rfl ‹_› rfl | exact rr 7 rfl ‹_› rfl | exact rr0 7 rfl ‹_› rfl)) rfl rfl ?_)
                refine rdy1 (i := 6) (by decide +kernel) (sub_drop 4) ?_
                refine aL rfl (f_callx (en Tryz.call38 (ha0)) (fun w _ => cnew_w w) rfl (fun _ => rfl) fun z => ?_)
                refine aV 7 (by decide +kernel) rfl (e_build Tryz.underlying102 fl102 Tryz.zeroValue102 (pt (v := .pointer _) rfl (pt (v := .pointer _) rfl E.p0)) rfl) rfl ?_
                refine rdy1 (i := 8) (by decide +kernel) (sub_drop 5) ?_
                refine aL rfl (f_box (v := .agg _) rfl rfl fun b50 => ?_)
                refine aI 1 ?_
                refine rdy1 (i := 9) (by decide +kernel) (sub_drop 6) ?_
                refine aL rfl (f_slit [(.pointer none)] Tryz.underlying94 Tryz.sizeOf98 Tryz.zeroValue98 rfl (by kernel_rfl) (pt (v := .pointer _) rfl E.p0) rfl rfl fun b51 => ?_)
                refine aI 2 ?_
                refine rdy1 (i := 10) (by decide +kernel) (sub_drop 7) ?_
                refine aL rfl (f_append (k := 1) (i := Tryz.t98) (enc := ptC) 6 Tryz.underlying94 (by kernel_rfl) rfl rfl rfl rfl (fun _ => rfl) (fun _ => rfl) rfl rfl rfl (fun w hw => slAt_box (xs := [b50]) hw (j := 2) rfl (fun _ => rfl) (by simp)) ⟨by simp; omega, by decide⟩ rfl fun A2 c2 => ?_)
                refine aV 11 (by decide +kernel) rfl (e_nilc (q0 rfl)) rfl ?_
                refine aV 12 (by decide +kernel) rfl (e_fld Tryz.underlying97 rfl Tryz.sizeOf94 rfl (q0 rfl)) rfl ?_
                refine rdy1 (i := 13) (by decide +kernel) (sub_drop 7) ?_
                refine aL rfl (f_st (v := .slice _ _ _) rfl rfl Tryz.sizeOf94 ?_)
                refine aZ (by decide +kernel) (sub_drop 7) ?_
                exact cutJ_normal (((z, b50), A2, c2) : ((Nat × Nat) × Nat) × Option Addr × Nat) (by repeat (first | exact agree_self | exact agree_over | refine agree_upd rfl ?_ | refine agree_updL rfl ?_ | refine agree_over2 rfl ?_)) trivial (fun w hw => svs_add ⟨y.1, y.2, z.1, z.2, b50⟩ (hw.pick [1, 0, 3, 4, 5, 6, 7, 8, 9] (by decide))) rfl trivial
              · refine aL rfl (f_callx (en Tryz.call38 (ha0)) (fun w _ => cnew_w w) rfl (fun _ => rfl) fun z => ?_)
                refine aV 7 (by decide +kernel) rfl (e_build Tryz.underlying102 fl102 Tryz.zeroValue102 (pt (v := .pointer _) rfl (pt (v := .pointer _) rfl E.p0)) rfl) rfl ?_
                refine rdy2 (i := 4) (j := 8) (by decide +kernel) (sub_drop 5) ?_ ?_
                · refine aL rfl (f_ev (e_ld (v := .slice sA ss.length sc) Tryz.isAgg94 (q0 rfl) (by first | exact bx 0 rfl rfl | exact bx 1 rfl rfl | exact bx 2 rfl rfl | exact bx 3 rfl rfl | exact bx 4 rfl rfl | exact bx 5 rfl rfl | exact bx 6 rfl rfl | exact bx 7 rfl rfl | exact bx 8 rfl rfl | exact bx 9 rfl rfl | exact rc ‹_› ‹_› rfl | exact rc0 ‹_› ‹_› rfl | exact xc ‹_› ‹_› | exact rr 0 rfl ‹_› rfl | exact rr0 0 rfl ‹_› rfl | exact rr 1 rfl ‹_› rfl | exact rr0 1 rfl ‹_› rfl | exact rr 2 rfl ‹_› rfl | exact rr0 2 rfl ‹_› rfl | exact rr 3 rfl ‹_› rfl | exact rr0 3 rfl ‹_› rfl | exact rr 4 rfl ‹_› rfl | exact rr0 4 rfl ‹_› rfl | exact rr 5 rfl ‹_› rfl | exact rr0 5 rfl ‹_› rfl | exact rr 6 rfl ‹_› rfl | exact rr0 6 rfl ‹_› rfl | exact rr 7 rfl ‹_› rfl | exact rr0 7 rfl ‹_› rfl)) rfl rfl ?_)
                  refine rdy1 (i := 8) (by decide +kernel) (sub_drop 5) ?_
                  refine aL rfl (f_box (v := .agg _) rfl rfl fun b50 => ?_)
                  refine aI 1 ?_
                  refine rdy1 (i := 9) (by decide +kernel) (sub_drop 6) ?_
                  refine aL rfl (f_slit [(.pointer none)] Tryz.underlying94 Tryz.sizeOf98 Tryz.zeroValue98 rfl (by kernel_rfl) (pt (v := .pointer _) rfl E.p0) rfl rfl fun b51 => ?_)
                  refine aI 2 ?_
                  refine rdy1 (i := 10) (by decide +kernel) (sub_drop 7) ?_
                  refine aL rfl (f_append (k := 1) (i := Tryz.t98) (enc := ptC) 6 Tryz.underlying94 (by kernel_rfl) rfl rfl rfl rfl (fun _ => rfl) (fun _ => rfl) rfl rfl rfl (fun w hw => slAt_box (xs := [b50]) hw (j := 2) rfl (fun _ => rfl) (by simp)) ⟨by simp; omega, by decide⟩ rfl fun A2 c2 => ?_)
                  refine aV 11 (by decide +kernel) rfl (e_nilc (q0 rfl)) rfl ?_
                  refine aV 12 (by decide +kernel) rfl (e_fld Tryz.underlying97 rfl Tryz.sizeOf94 rfl (q0 rfl)) rfl ?_
                  refine rdy1 (i := 13) (by decide +kernel) (sub_drop 7) ?_
                  refine aL rfl (f_st (v := .slice _ _ _) rfl rfl Tryz.sizeOf94 ?_)
                  refine aZ (by decide +kernel) (sub_drop 7) ?_
                  exact cutJ_normal (((z, b50), A2, c2) : ((Nat × Nat) × Nat) × Option Addr × Nat) (by repeat (first | exact agree_self | exact agree_over | refine agree_upd rfl ?_ | refine agree_updL rfl ?_ | refine agree_over2 rfl ?_)) trivial (fun w hw => svs_add ⟨y.1, y.2, z.1, z.2, b50⟩ (hw.pick [1, 0, 3, 4, 5, 6, 7, 8, 9] (by decide))) rfl trivial
                · refine aL rfl (f_box (v := .agg _) rfl rfl fun b50 => ?_)
                  refine aI 1 ?_
                  refine rdy2 (i := 4) (j := 9) (by decide +kernel) (sub_drop 6) ?_ ?_
                  · refine aL rfl (f_ev (e_ld (v := .slice sA ss.length sc) Tryz.isAgg94 (q0 rfl) (by first | exact bx 0 rfl rfl | exact bx 1 rfl rfl | exact bx 2 rfl rfl | exact bx 3 rfl rfl | exact bx 4 rfl rfl | exact bx 5 rfl rfl | exact bx 6 rfl rfl | exact bx 7 rfl rfl | exact bx 8 rfl rfl | exact bx 9 rfl rfl | exact rc ‹_› ‹_› rfl | exact rc0 ‹_› ‹_› rfl | exact xc ‹_› ‹_› | exact rr 0 rfl ‹_› rfl | exact rr0 0 rfl ‹_› rfl | exact rr 1 rfl ‹_› rfl | exact rr0 1 rfl ‹_› rfl | exact rr 2 rfl ‹_› rfl | exact rr0 2 rfl ‹_› rfl | exact rr 3 rfl ‹_› rfl | exact rr0 3 rfl ‹_› rfl | exact rr 4 rfl ‹_› rfl | exact rr0 4 rfl ‹_› rfl | exact rr 5 rfl ‹_› rfl | exact rr0 5 rfl ‹_› rfl | exact rr 6 rfl ‹_› rfl | exact rr0 6 rfl ‹_› rfl | exact rr 7 rfl ‹_› rfl | exact rr0 7 rfl ‹_› rfl)) rfl rfl ?_)
                    refine rdy1 (i := 9) (by decide +kernel) (sub_drop 6) ?_
                    refine aL rfl (f_slit [(.pointer none)] Tryz.underlying94 Tryz.sizeOf98 Tryz.zeroValue98 rfl (by kernel_rfl) (pt (v := .pointer _) rfl E.p0) rfl rfl fun b51 => ?_)
                    refine aI 2 ?_
                    refine rdy1 (i := 10) (by decide +kernel) (sub_drop 7) ?_
                    refine aL rfl (f_append (k := 1) (i := Tryz.t98) (enc := ptC) 6 Tryz.underlying94 (by kernel_rfl) rfl rfl rfl rfl (fun _ => rfl) (fun _ => rfl) rfl rfl rfl (fun w hw => slAt_box (xs := [b50]) hw (j := 2) rfl (fun _ => rfl) (by simp)) ⟨by simp; omega, by decide⟩ rfl fun A2 c2 => ?_)
                    refine aV 11 (by decide +kernel) rfl (e_nilc (q0 rfl)) rfl ?_
                    refine aV 12 (by decide +kernel) rfl (e_fld Tryz.underlying97 rfl Tryz.sizeOf94 rfl (q0 rfl)) rfl ?_
                    refine rdy1 (i := 13) (by decide +kernel) (sub_drop 7) ?_
                    refine aL rfl (f_st (v := .slice _ _ _) rfl rfl Tryz.sizeOf94 ?_)
                    refine aZ (by decide +kernel) (sub_drop 7) ?_
                    exact cutJ_normal (((z, b50), A2, c2) : ((Nat × Nat) × Nat) × Option Addr × Nat) (by repeat (first | exact agree_self | exact agree_over | refine agree_upd rfl ?_ | refine agree_updL rfl ?_ | refine agree_over2 rfl ?_)) trivial (fun w hw => svs_add ⟨y.1, y.2, z.1, z.2, b50⟩ (hw.pick [1, 0, 3, 4, 5, 6, 7, 8, 9] (by decide))) rfl trivial
                  · refine aL rfl (f_slit [(.pointer none)] Tryz.underlying94 Tryz.sizeOf98 Tryz.zeroValue98 rfl (by kernel_rfl) (pt (v := .pointer _) rfl E.p0) rfl rfl fun b51 => ?_)
                    refine aI 2 ?_
                    refine rdy1 (i := 4) (by decide +kernel) (sub_drop 7) ?_
                    refine aL rfl (f_ev (e_ld (v := .slice sA ss.length sc) Tryz.isAgg94 (q0 rfl) (by first | exact bx 0 rfl rfl | exact bx 1 rfl rfl | exact bx 2 rfl rfl | exact bx 3 rfl rfl | exact bx 4 rfl rfl | exact bx 5 rfl rfl | exact bx 6 rfl rfl | exact bx 7 rfl rfl | exact bx 8 rfl rfl | exact bx 9 rfl rfl | exact rc ‹_› ‹_› rfl | exact rc0 ‹_› ‹_› rfl | exact xc ‹_› ‹_› | exact rr 0 rfl ‹_› rfl | exact rr0 0 rfl ‹_› rfl | exact rr 1 rfl ‹_› rfl | exact rr0 1 rfl ‹_› rfl | exact rr 2 rfl ‹_› rfl | exact rr0 2 rfl ‹_› rfl | exact rr 3 rfl ‹_› rfl | exact rr0 3 rfl ‹_› rfl | exact rr 4 rfl ‹_› rfl | exact rr0 4 rfl ‹_› rfl | exact rr 5 rfl ‹_› rfl | exact rr0 5 rfl ‹_› rfl | exact rr 6 rfl ‹_› rfl | exact rr0 6 rfl ‹_› rfl | exact rr 7 rfl ‹_› rfl | exact rr0 7 rfl ‹_› rfl)) rfl rfl ?_)
                    refine rdy1 (i := 10) (by decide +kernel) (sub_drop 7) ?_
                    refine aL rfl (f_append (k := 1) (i := Tryz.t98) (enc := ptC) 6 Tryz.underlying94 (by kernel_rfl) rfl rfl rfl rfl (fun _ => rfl) (fun _ => rfl) rfl rfl rfl (fun w hw => slAt_box (xs := [b50]) hw (j := 2) rfl (fun _ => rfl) (by simp)) ⟨by simp; omega, by decide⟩ rfl fun A2 c2 => ?_)
                    refine aV 11 (by decide +kernel) rfl (e_nilc (q0 rfl)) rfl ?_
                    refine aV 12 (by decide +kernel) rfl (e_fld Tryz.underlying97 rfl Tryz.sizeOf94 rfl (q0 rfl)) rfl ?_
                    refine rdy1 (i := 13) (by decide +kernel) (sub_drop 7) ?_
                    refine aL rfl (f_st (v := .slice _ _ _) rfl rfl Tryz.sizeOf94 ?_)
                    refine aZ (by decide +kernel) (sub_drop 7) ?_
                    exact cutJ_normal (((z, b50), A2, c2) : ((Nat × Nat) × Nat) × Option Addr × Nat) (by repeat (first | exact agree_self | exact agree_over | refine agree_upd rfl ?_ | refine agree_updL rfl ?_ | refine agree_over2 rfl ?_)) trivial (fun w hw => svs_add ⟨y.1, y.2, z.1, z.2, b50⟩ (hw.pick [1, 0, 3, 4, 5, 6, 7, 8, 9] (by decide))) rfl trivial
            · rintro ⟨⟨z, sb⟩, A2, c2⟩ g3 _
              refine thenJ_normal ?_
              refine H_cut [55, 56, 57, 58, 59, 60, 61, 62, 63, 64, 65] (fun x : Nat × Option Addr × Nat => []) (fun x => [svs f.devices (l ++ [⟨y.1, y.2, z.1, z.2, sb⟩]), box nb 97 (netC f p ⟨d1, t1, p1', l, ss ++ [sb], A2, c2, bl ++ [x.1], x.2.1, x.2.2⟩), svRow A2 c2 (ss ++ [sb]), bsRow n x.2.1 x.2.2 (bl ++ [x.1]), box b4 28 (p.cells a), box b3 24 (f.cells fa)]) (fun _ => True) ?_ ?_
              · refine RAd 4 rfl (by decide +kernel) ?_
                refine aV 0 (by decide +kernel) rfl (e_mv (v := .pointer _) (q0 rfl)) rfl ?_
                refine aV 1 (by decide +kernel) rfl (e_mv (v := .pointer _) (q0 rfl)) rfl ?_
                refine aV 2 (by decide +kernel) rfl (e_nilc (q0 rfl)) rfl ?_
                refine aV 3 (by decide +kernel) rfl (e_fld Tryz.underlying97 rfl Tryz.sizeOf95 rfl (q0 rfl)) rfl ?_
                refine aV 5 (by decide +kernel) rfl (e_mv (v := .int _ _) (q0 rfl)) rfl ?_
                refine rdy2 (i := 4) (j := 6) (by decide +kernel) (sub_drop 4) ?_ ?_
                · refine aL rfl (f_ev (e_ld (v := .slice bA bl.length bc) Tryz.isAgg95 (q0 rfl) (by first | exact bx 0 rfl rfl | exact bx 1 rfl rfl | exact bx 2 rfl rfl | exact bx 3 rfl rfl | exact bx 4 rfl rfl | exact bx 5 rfl rfl | exact bx 6 rfl rfl | exact bx 7 rfl rfl | exact bx 8 rfl rfl | exact bx 9 rfl rfl | exact rc ‹_› ‹_› rfl | exact rc0 ‹_› ‹_› rfl | exact xc ‹_› ‹_› | exact rr 0 rfl ‹_› rfl | exact rr0 0 rfl ‹_› rfl | exact rr 1 rfl ‹_› rfl | exact rr0 1 rfl ‹_› rfl | exact rr 2 rfl ‹_› rfl | exact rr0 2 rfl ‹_› rfl | exact rr 3 rfl ‹_› rfl | exact rr0 3 rfl ‹_› rfl | exact rr 4 rfl ‹_› rfl | exact rr0 4 rfl ‹_› rfl | exact rr 5 rfl ‹_› rfl | exact rr0 5 rfl ‹_› rfl | exact rr 6 rfl ‹_› rfl | exact rr0 6 rfl ‹_› rfl | exact rr 7 rfl ‹_› rfl | exact rr0 7 rfl ‹_› rfl)) rfl rfl ?_)
                  refine rdy1 (i := 6) (by decide +kernel) (sub_drop 4) ?_
                  refine aL rfl (f_make (i := Tryz.t4) (k := 1) (n := n) (m := n) blC false Tryz.underlying103 (by kernel_rfl) rfl rfl rfl rfl rfl ⟨⟨Nat.le_refl _, by omega⟩, by decide⟩ rfl fun b61 => ?_)
                  refine rdy1 (i := 7) (by decide +kernel) (sub_drop 5) ?_
                  refine aL rfl (f_slit [(.slice none 0 0)] Tryz.underlying95 Tryz.sizeOf103 Tryz.zeroValue103 rfl (by kernel_rfl) (pt (v := .slice _ _ _) rfl E.p0) rfl rfl fun b62 => ?_)
                  refine aI 1 ?_
                  refine rdy1 (i := 8) (by decide +kernel) (sub_drop 6) ?_
                  refine aL rfl (f_append (k := 1) (i := Tryz.t103) (enc := bsC n) 5 Tryz.underlying95 (by kernel_rfl) rfl rfl rfl rfl (fun _ => rfl) (fun _ => rfl) rfl rfl rfl (fun w hw => slAt_box (xs := [b61]) hw (j := 1) rfl (fun _ => rfl) (by simp)) ⟨by simp; omega, by decide⟩ rfl fun A3 c3 => ?_)
                  refine aV 9 (by decide +kernel) rfl (e_nilc (q0 rfl)) rfl ?_
                  refine aV 10 (by decide +kernel) rfl (e_fld Tryz.underlying97 rfl Tryz.sizeOf95 rfl (q0 rfl)) rfl ?_
                  refine rdy1 (i := 11) (by decide +kernel) (sub_drop 6) ?_
                  refine aL rfl (f_st (v := .slice _ _ _) rfl rfl Tryz.sizeOf95 ?_)
                  refine aZ (by decide +kernel) (sub_drop 6) ?_
                  exact cutJ_normal ((b61, A3, c3) : Nat × Option Addr × Nat) (by repeat (first | exact agree_self | exact agree_over | refine agree_upd rfl ?_ | refine agree_updL rfl ?_ | refine agree_over2 rfl ?_)) trivial (fun w hw => hw.pick [2, 3, 4, 5, 6, 7] (by decide)) rfl trivial
                · refine aL rfl (f_make (i := Tryz.t4) (k := 1) (n := n) (m := n) blC false Tryz.underlying103 (by kernel_rfl) rfl rfl rfl rfl rfl ⟨⟨Nat.le_refl _, by omega⟩, by decide⟩ rfl fun b61 => ?_)
                  refine rdy2 (i := 4) (j := 7) (by decide +kernel) (sub_drop 5) ?_ ?_
                  · refine aL rfl (f_ev (e_ld (v := .slice bA bl.length bc) Tryz.isAgg95 (q0 rfl) (by first | exact bx 0 rfl rfl | exact bx 1 rfl rfl | exact bx 2 rfl rfl | exact bx 3 rfl rfl | exact bx 4 rfl rfl | exact bx 5 rfl rfl | exact bx 6 rfl rfl | exact bx 7 rfl rfl | exact bx 8 rfl rfl | exact bx 9 rfl rfl | exact rc ‹_› ‹_› rfl | exact rc0 ‹_› ‹_› rfl | exact xc ‹_› ‹_› | exact rr 0 rfl ‹_› rfl | exact rr0 0 rfl ‹_› rfl | exact rr 1 rfl ‹_› rfl | exact rr0 1 rfl ‹_› rfl | exact rr 2 rfl ‹_› rfl | exact rr0 2 rfl ‹_› rfl | exact rr 3 rfl ‹_› rfl | exact rr0 3 rfl ‹_› rfl | exact rr 4 rfl ‹_› rfl | exact rr0 4 rfl ‹_› rfl | exact rr 5 rfl ‹_› rfl | exact rr0 5 rfl ‹_› rfl | exact rr 6 rfl ‹_› rfl | exact rr0 6 rfl ‹_› rfl | exact rr 7 rfl ‹_› rfl | exact rr0 7 rfl ‹_› rfl)) rfl rfl ?_)
                    refine rdy1 (i := 7) (by decide +kernel) (sub_drop 5) ?_
                    refine aL rfl (f_slit [(.slice none 0 0)] Tryz.underlying95 Tryz.sizeOf103 Tryz.zeroValue103 rfl (by kernel_rfl) (pt (v := .slice _ _ _) rfl E.p0) rfl rfl fun b62 => ?_)
                    refine aI 1 ?_
                    refine rdy1 (i := 8) (by decide +kernel) (sub_drop 6) ?_
                    refine aL rfl (f_append (k := 1) (i := Tryz.t103) (enc := bsC n) 5 Tryz.underlying95 (by kernel_rfl) rfl rfl rfl rfl (fun _ => rfl) (fun _ => rfl) rfl rfl rfl (fun w hw => slAt_box (xs := [b61]) hw (j := 1) rfl (fun _ => rfl) (by simp)) ⟨by simp; omega, by decide⟩ rfl fun A3 c3 => ?_)
                    refine aV 9 (by decide +kernel) rfl (e_nilc (q0 rfl)) rfl ?_
                    refine aV 10 (by decide +kernel) rfl (e_fld Tryz.underlying97 rfl Tryz.sizeOf95 rfl (q0 rfl)) rfl ?_
                    refine rdy1 (i := 11) (by decide +kernel) (sub_drop 6) ?_
                    refine aL rfl (f_st (v := .slice _ _ _) rfl rfl Tryz.sizeOf95 ?_)
                    refine aZ (by decide +kernel) (sub_drop 6) ?_
                    exact cutJ_normal ((b61, A3, c3) : Nat × Option Addr × Nat) (by repeat (first | exact agree_self | exact agree_over | refine agree_upd rfl ?_ | refine agree_updL rfl ?_ | refine agree_over2 rfl ?_)) trivial (fun w hw => hw.pick [2, 3, 4, 5, 6, 7] (by decide)) rfl trivial
                  · refine aL rfl (f_slit [(.slice none 0 0)] Tryz.underlying95 Tryz.sizeOf103 Tryz.zeroValue103 rfl (by kernel_rfl) (pt (v := .slice _ _ _) rfl E.p0) rfl rfl fun b62 => ?_)
                    refine aI 1 ?_
                    refine rdy1 (i := 4) (by decide +kernel) (sub_drop 6) ?_
                    refine aL rfl (f_ev (e_ld (v := .slice bA bl.length bc) Tryz.isAgg95 (q0 rfl) (by first | exact bx 0 rfl rfl | exact bx 1 rfl rfl | exact bx 2 rfl rfl | exact bx 3 rfl rfl | exact bx 4 rfl rfl | exact bx 5 rfl rfl | exact bx 6 rfl rfl | exact bx 7 rfl rfl | exact bx 8 rfl rfl | exact bx 9 rfl rfl | exact rc ‹_› ‹_› rfl | exact rc0 ‹_› ‹_› rfl | exact xc ‹_› ‹_› | exact rr 0 rfl ‹_› rfl | exact rr0 0 rfl ‹_› rfl | exact rr 1 rfl ‹_› rfl | exact rr0 1 rfl ‹_› rfl | exact rr 2 rfl ‹_› rfl | exact rr0 2 rfl ‹_› rfl | exact rr 3 rfl ‹_› rfl | exact rr0 3 rfl ‹_› rfl | exact rr 4 rfl ‹_› rfl | exact rr0 4 rfl ‹_› rfl | exact rr 5 rfl ‹_› rfl | exact rr0 5 rfl ‹_› rfl | exact rr 6 rfl ‹_› rfl | exact rr0 6 rfl ‹_› rfl | exact rr 7 rfl ‹_› rfl | exact rr0 7 rfl ‹_› rfl)) rfl rfl ?_)
                    refine rdy1 (i := 8) (by decide +kernel) (sub_drop 6) ?_
                    refine aL rfl (f_append (k := 1) (i := Tryz.t103) (enc := bsC n) 5 Tryz.underlying95 (by kernel_rfl) rfl rfl rfl rfl (fun _ => rfl) (fun _ => rfl) rfl rfl rfl (fun w hw => slAt_box (xs := [b61]) hw (j := 1) rfl (fun _ => rfl) (by simp)) ⟨by simp; omega, by decide⟩ rfl fun A3 c3 => ?_)
                    refine aV 9 (by decide +kernel) rfl (e_nilc (q0 rfl)) rfl ?_
                    refine aV 10 (by decide +kernel) rfl (e_fld Tryz.underlying97 rfl Tryz.sizeOf95 rfl (q0 rfl)) rfl ?_
                    refine rdy1 (i := 11) (by decide +kernel) (sub_drop 6) ?_
                    refine aL rfl (f_st (v := .slice _ _ _) rfl rfl Tryz.sizeOf95 ?_)
                    refine aZ (by decide +kernel) (sub_drop 6) ?_
                    exact cutJ_normal ((b61, A3, c3) : Nat × Option Addr × Nat) (by repeat (first | exact agree_self | exact agree_over | refine agree_upd rfl ?_ | refine agree_updL rfl ?_ | refine agree_over2 rfl ?_)) trivial (fun w hw => hw.pick [2, 3, 4, 5, 6, 7] (by decide)) rfl trivial
              · rintro ⟨b6, A3, c3⟩ g4 _
                refine blockJ_normal ?_
                refine thenJ_normal ?_
                refine R0 ?_
                refine xV (e_add (q0 rfl) (q0 rfl) (fun _ => ⟨rfl, by omega, by omega⟩)) rfl rfl ?_
                refine xV (e_mv (v := .int _ _) (q0 rfl)) rfl rfl ?_
                refine XN ?_
                exact loopJ_normal (k + 1, ⟨d1, t1, p1', l ++ [⟨y.1, y.2, z.1, z.2, sb⟩], ss ++ [sb], A2, c2, bl ++ [b6], A3, c3⟩) (by repeat (first | exact agree_self | exact agree_over | refine agree_upd rfl ?_ | refine agree_updL rfl ?_ | refine agree_over2 rfl ?_)) ⟨rfl, trivial⟩ (fun w hw => hw) rfl ⟨by show k + 1 ≤ n; omega, by show ss ++ [sb] = _; rw [hss, List.map_append]; rfl, by show (ss ++ [sb]).length = k + 1; rw [List.length_append, hsl]; rfl, by show (bl ++ [b6]).length = k + 1; rw [List.length_append, hbl]; rfl⟩ (by show n - (k + 1) < n - k; omega)
        · have hend : k = n := by simp at hlt; omega
          refine H_exit ?_
          refine thenJ_exit ?_
          refine loopJ_exit ?_
          refine blockJ_hit ?_
          refine thenJ_normal ?_
          refine H_seq ?_
          refine R0 ?_
          refine xV (e_mv (v := .pointer _) (q0 rfl)) rfl rfl ?_
          refine xV (e_as (v := .pointer _) (q0 rfl)) rfl rfl ?_
          refine xV (e_as (v := .int _ _) (q0 rfl)) rfl rfl ?_
          refine XN ?_
          refine thenJ_normal ?_
          refine H_ret ?_
          exact ret2 (v := .pointer _) (x := .int _ _) rfl rfl rfl rfl fun w' hw => ⟨⟨(nb, ⟨d1, t1, p1', l, ss, sA, sc, bl, bA, bc⟩), hss, by show ss.length = n; omega⟩, rfl, hw.pick [0, 1, 2] (by decide)⟩
end Go.Proofs.Hom

/-
  The walks: a network without events is looked at; the reference's networks; small prices.
-/
namespace Go.Proofs.Hom
open Go Go.RowKit Go.Proofs.E Go.Proofs.Cus Go.Proofs.Far

structure SvAt (w : World) (dv : Int) (s : Sv) : Prop where
  lt : s.s < w.heap.size
  row : RowAt w s.s 0 [.pointer (some ⟨s.r, 0, none⟩), .pointer (some ⟨s.d, 0, none⟩), .int .i64 0]
  dlt : s.d < w.heap.size
  drow : RowAt w s.d 0 [.slice none 0 0, .map (some s.e)]
  rp : ∃ es clock, Gos.RpAt w s.r 0 (.int .i64 dv) s.m es clock []
structure NetAt (w : World) (f : Fl) (p : Pr) (x : Nat × NA) (n : Nat) : Prop where
  lt : x.1 < w.heap.size
  row : RowAt w x.1 0 (netC f p x.2)
  sl : SlAt w 1 ptC x.2.sA x.2.s.length x.2.s
  ss : x.2.s = x.2.l.map (·.s)
  sn : x.2.s.length = n
  sv : ∀ s ∈ x.2.l, SvAt w f.devices s
theorem row_at {w : World} {b : Nat} {t : TypeId} {cs : List Value} (h : (box b t cs).A w) : RowAt w b 0 cs := fun j u hu => by
  have hA : w.heap[b]? = some (.cells cs.toArray t (0, 0)) := h
  simp [World.cell?, hA, hu]
theorem box_lt {w : World} {b : Nat} {t : TypeId} {cs : List Value} (h : (box b t cs).A w) : b < w.heap.size := by
  have hA : w.heap[b]? = some (.cells cs.toArray t (0, 0)) := h
  exact (Array.getElem?_eq_some_iff.1 hA).1
theorem rp_at {w : World} {r m : Nat} {dv : Int} (h : (rpI dv (r, m)).A w) : ∃ es clock, Gos.RpAt w r 0 (.int .i64 dv) m es clock [] := by
  obtain ⟨h1, es, clock, h2, h3, h4⟩ := h
  have he : es.toList = [] := by cases hl : es.toList with
    | nil => rfl
    | cons a l => rw [hl] at h3; cases h3
  exact ⟨es, clock, box_lt h1, row_at h1, h2, h4, by rw [he]; rfl⟩
theorem netAt_of {f : Fl} {p : Pr} {x : Nat × NA} {n : Nat} {w0 w : World} {L : List E.Item} (h : Mem w0 (netL f p x ++ L) w) (hs : x.2.s = x.2.l.map (·.s)) (hn : x.2.s.length = n) (hn8 : n ≤ 8) : NetAt w f p x n := by
  have h1 : (svs f.devices x.2.l).A w := h.item (k := 0) rfl
  have h2 : (box x.1 97 (netC f p x.2)).A w := h.item (k := 1) rfl
  refine ⟨box_lt h2, row_at h2, slAt_row h (j := 2) rfl (fun _ => rfl) (by omega), hs, hn, fun s hs => ?_⟩
  obtain ⟨⟨a1, a2⟩, a3⟩ := h1 s hs
  exact ⟨box_lt a1, row_at a1, box_lt a2, row_at a2, rp_at a3⟩
theorem RpAt_mem {w0 w : World} {L : List E.Item} {b o m clock : Nat} {v : Value} {es : Array MapEntry} {l : List Ev} (h : Gos.RpAt w0 b o v m es clock l) (hm : Mem w0 L w) : Gos.RpAt w b o v m es clock l :=
  ⟨Nat.lt_of_lt_of_le h.lt hm.1.size, h.row.below h.lt hm.1, (hm.1.block m (Array.getElem?_eq_some_iff.1 h.map).1).trans h.map, h.born, h.evs⟩
theorem SvAt.mem {w0 w : World} {L : List E.Item} {dv : Int} {s : Sv} (h : SvAt w0 dv s) (hm : Mem w0 L w) : SvAt w dv s := by
  obtain ⟨es, clock, hr⟩ := h.rp
  exact ⟨Nat.lt_of_lt_of_le h.lt hm.1.size, h.row.below h.lt hm.1, Nat.lt_of_lt_of_le h.dlt hm.1.size, h.drow.below h.dlt hm.1, es, clock, RpAt_mem hr hm⟩
theorem NetAt.mem {w0 w : World} {L : List E.Item} {f : Fl} {p : Pr} {x : Nat × NA} {n : Nat} (h : NetAt w0 f p x n) (hm : Mem w0 L w) : NetAt w f p x n :=
  ⟨Nat.lt_of_lt_of_le h.lt hm.1.size, h.row.below h.lt hm.1, h.sl.mem hm, h.ss, h.sn, fun s hs => (h.sv s hs).mem hm⟩

theorem fl42 {fs : Array Field} (h : Tryz.prog.underlying 42 = some (.struct fs) := by exact Tryz.underlying42) : FieldsLie Tryz.prog fs [(0, 1)] := by
  rw [Tryz.underlying42] at h
  cases h
  intro w
  kernel_rfl
theorem fl30 {fs : Array Field} (h : Tryz.prog.underlying 30 = some (.struct fs) := by exact Tryz.underlying30) : FieldsLie Tryz.prog fs [(0, 5), (5, 7), (12, 1)] := by
  rw [Tryz.underlying30] at h
  cases h
  intro w
  kernel_rfl
theorem fl44 {fs : Array Field} (h : Tryz.prog.underlying 44 = some (.struct fs) := by exact Tryz.underlying44) : FieldsLie Tryz.prog fs [(0, 5), (5, 7), (12, 1), (13, 1), (14, 1), (15, 1), (16, 1), (17, 1)] := by
  rw [Tryz.underlying44] at h
  cases h
  intro w
  kernel_rfl
theorem fl106 {fs : Array Field} (h : Tryz.prog.underlying 106 = some (.struct fs) := by exact Tryz.underlying106) : FieldsLie Tryz.prog fs [(0, 1), (1, 1), (2, 1)] := by
  rw [Tryz.underlying106] at h
  cases h
  intro w
  kernel_rfl
theorem has_w {f : Fl} {p : Pr} {x : Nat × NA} {n : Nat} (k : Int) (w : World) (h : NetAt w f p x n) : Calls Tryz.prog 40 #[.pointer (some ⟨x.1, 0, none⟩), .int .i64 k] w fun e w' => e = .returned (.bool (decide (0 ≤ k) && decide (k < n))) ∧ Bel w w' := by
  have hb := h.lt
  have hr := h.row
  have hn := h.sn
  refine H_enter Tryz.func40 rfl Tryz.ntmps40 rfl ?_
  refine H_seq ?_
  refine R0 ?_
  refine xV (e_as (v := .bool _) (q0 rfl)) rfl rfl ?_
  refine XN ?_
  refine thenJ_normal ?_
  refine H_seq ?_
  refine R0 ?_
  refine xV (e_mv (v := .pointer _) (q0 rfl)) rfl rfl ?_
  refine xV (e_neNilP Tryz.underlying33 (q0 rfl)) rfl rfl ?_
  refine xV (e_mv (v := .bool _) (q0 rfl)) rfl rfl ?_
  refine xVT (e_mv (v := .int _ _) (q0 rfl)) rfl rfl rfl rfl ?_
  refine xVT (e_ge (q1 rfl) (q0 rfl)) rfl rfl rfl rfl ?_
  refine xV (e_and (q0 rfl) rfl (fun h => by first | rfl | (rw [h]; rfl))) rfl rfl ?_
  refine xV (e_mv (v := .bool _) (q0 rfl)) rfl rfl ?_
  refine xVT (e_mv (v := .int _ _) (q0 rfl)) rfl rfl rfl rfl ?_
  refine xVT (e_mv (v := .pointer _) (q0 rfl)) rfl rfl rfl rfl ?_
  refine xVT (e_nilc (q1 rfl)) rfl rfl rfl rfl ?_
  refine xVT (e_fld Tryz.underlying97 rfl Tryz.sizeOf94 rfl (q1 rfl)) rfl rfl rfl rfl ?_
  refine xVT (eL Tryz.isAgg94 (q1 rfl)) rfl rfl rfl rfl ?_
  refine xVT (e_len Tryz.underlying94 (q1 rfl)) rfl rfl rfl rfl ?_
  refine xVT (e_lt (q1 rfl) (q1 rfl)) rfl rfl rfl rfl ?_
  refine xV (e_and (q0 rfl) rfl (fun h => by first | rfl | (rw [h]; rfl))) rfl rfl ?_
  refine xV (e_as (v := .bool _) (q0 rfl)) rfl rfl ?_
  refine XN ?_
  refine thenJ_normal ?_
  refine H_ret ?_
  exact ret1 (v := .bool _) rfl rfl rfl fun w' hw => ⟨by rw [← hn]; rfl, hw.1⟩
def homeE (n : Nat) (k : Int) : Int := if k < 0 ∨ 128 ≤ k then 0 else k % n
theorem home_w {f : Fl} {p : Pr} {x : Nat × NA} {n : Nat} (k : Int) (w : World) (h : NetAt w f p x n) (h1 : 1 ≤ n) (hn8 : n ≤ 8) : Calls Tryz.prog 13 #[.pointer (some ⟨x.1, 0, none⟩), .int .i64 k] w fun e w' => e = .returned (.int .i64 (homeE n k)) ∧ Bel w w' := by
  have hb := h.lt
  have hr := h.row
  have hn := h.sn
  refine H_enter Tryz.func13 rfl Tryz.ntmps13 rfl ?_
  refine H_seq ?_
  refine R0 ?_
  refine xV (e_as (v := .int _ _) (q0 rfl)) rfl rfl ?_
  refine XN ?_
  refine thenJ_normal ?_
  refine H_seq ?_
  refine H_seq ?_
  refine R0 ?_
  refine xV (e_mv (v := .pointer _) (q0 rfl)) rfl rfl ?_
  refine xV (e_eqNilP Tryz.underlying33 (q0 rfl)) rfl rfl ?_
  refine xV (e_mv (v := .bool _) (q0 rfl)) rfl rfl ?_
  refine xVF (e_mv (v := .int _ _) (q0 rfl)) rfl rfl rfl rfl ?_
  refine xVF (e_lt (q1 rfl) (q0 rfl)) rfl rfl rfl rfl ?_
  refine xV (e_or (q0 rfl) rfl (fun h => by first | rfl | (rw [h]; rfl))) rfl rfl ?_
  refine xV (e_mv (v := .bool _) (q0 rfl)) rfl rfl ?_
  refine xVF (e_mv (v := .int _ _) (q0 rfl)) rfl rfl rfl rfl ?_
  refine xVF (e_ge (q1 rfl) (q0 rfl)) rfl rfl rfl rfl ?_
  refine xV (e_or (q0 rfl) rfl (fun h => by first | rfl | (rw [h]; rfl))) rfl rfl ?_
  refine XN ?_
  refine thenJ_normal ?_
  refine H_cond rfl (fun hk => ?_) (fun hk => ?_)
  · have hk' : k < 0 ∨ 128 ≤ k := by simpa using hk
    refine H_seq ?_
    refine R0 ?_
    refine xV (e_as (v := .int _ _) (q0 rfl)) rfl rfl ?_
    refine XN ?_
    refine thenJ_normal ?_
    refine H_ret ?_
    refine thenJ_ret ?_
    exact ret1 (v := .int _ _) rfl rfl rfl fun w' hw => ⟨by unfold homeE; rw [if_pos hk'], hw.1⟩
  · have hk' : ¬(k < 0 ∨ 128 ≤ k) := by simpa using hk
    refine H_skip ?_
    refine thenJ_normal ?_
    refine H_seq ?_
    refine R0 ?_
    refine xV (e_mv (v := .int _ _) (q0 rfl)) rfl rfl ?_
    refine xV (e_mv (v := .pointer _) (q0 rfl)) rfl rfl ?_
    refine xV (e_nilc (q0 rfl)) rfl rfl ?_
    refine xV (e_fld Tryz.underlying97 rfl Tryz.sizeOf94 rfl (q0 rfl)) rfl rfl ?_
    refine xV (eL Tryz.isAgg94 (q0 rfl)) rfl rfl ?_
    refine xV (e_len Tryz.underlying94 (q0 rfl)) rfl rfl ?_
    refine xV (e_rem (q0 rfl) (q0 rfl) (fun _ => by omega)) rfl rfl ?_
    refine xV (e_as (v := .int _ _) (q0 rfl)) rfl rfl ?_
    refine XN ?_
    refine thenJ_normal ?_
    refine H_ret ?_
    exact ret1 (v := .int _ _) rfl rfl rfl fun w' hw => ⟨by unfold homeE; rw [if_neg hk', hn], hw.1⟩
theorem homeNil_w (k : Int) (w : World) : Calls Tryz.prog 13 #[.pointer none, .int .i64 k] w fun e w' => e = .returned (.int .i64 0) ∧ Bel w w' := by
  refine H_enter Tryz.func13 rfl Tryz.ntmps13 rfl ?_
  refine H_seq ?_
  refine R0 ?_
  refine xV (e_as (v := .int _ _) (q0 rfl)) rfl rfl ?_
  refine XN ?_
  refine thenJ_normal ?_
  refine H_seq ?_
  refine H_seq ?_
  refine R0 ?_
  refine xV (e_mv (v := .pointer _) (q0 rfl)) rfl rfl ?_
  refine xV (e_eqNilP Tryz.underlying33 (q0 rfl)) rfl rfl ?_
  refine xV (e_mv (v := .bool _) (q0 rfl)) rfl rfl ?_
  refine xVF (e_mv (v := .int _ _) (q0 rfl)) rfl rfl rfl rfl ?_
  refine xVF (e_lt (q1 rfl) (q0 rfl)) rfl rfl rfl rfl ?_
  refine xV (e_or (q0 rfl) rfl (fun h => by first | rfl | (rw [h]; rfl))) rfl rfl ?_
  refine xV (e_mv (v := .bool _) (q0 rfl)) rfl rfl ?_
  refine xVF (e_mv (v := .int _ _) (q0 rfl)) rfl rfl rfl rfl ?_
  refine xVF (e_ge (q1 rfl) (q0 rfl)) rfl rfl rfl rfl ?_
  refine xV (e_or (q0 rfl) rfl (fun h => by first | rfl | (rw [h]; rfl))) rfl rfl ?_
  refine XN ?_
  refine thenJ_normal ?_
  refine H_cond rfl (fun hn => ?_) (fun hn => ?_)
  · refine H_seq ?_
    refine R0 ?_
    refine xV (e_as (v := .int _ _) (q0 rfl)) rfl rfl ?_
    refine XN ?_
    refine thenJ_normal ?_
    refine H_ret ?_
    refine thenJ_ret ?_
    exact ret1 (v := .int _ _) rfl rfl rfl fun w' hw => ⟨rfl, hw.1⟩
  · simp at hn
theorem gev_w {r m : Nat} {dv : Int} (w : World) (h : ∃ es clock, Gos.RpAt w r 0 (.int .i64 dv) m es clock []) : Calls Tryz.prog 30 #[.pointer (some ⟨r, 0, none⟩)] w fun e w' => e = .returned (.slice none 0 0) ∧ Bel w w' := by
  obtain ⟨es, clock, hr⟩ := h
  refine H_enter Tryz.func30 rfl Tryz.ntmps30 rfl ?_
  refine H_seq ?_
  refine R0 ?_
  refine xV (e_as (v := .slice _ _ _) (q0 rfl)) rfl rfl ?_
  refine XN ?_
  refine thenJ_normal ?_
  refine H_seq ?_
  refine R0 ?_
  refine xV (e_mv (v := .pointer _) (q0 rfl)) rfl rfl ?_
  refine xCX (en Tryz.call67 (ha2 (q0 rfl) (q0 rfl))) (fun w hw => Gos.since_w w (RpAt_mem hr hw) (fun _ h => by cases h) (by simp)) rfl (fun _ => rfl) fun z => ?_
  refine xV (e_as (v := .slice _ _ _) (q0 rfl)) rfl rfl ?_
  refine XN ?_
  refine thenJ_normal ?_
  refine H_ret ?_
  exact ret1 (v := .slice _ _ _) rfl rfl rfl fun w' hw => ⟨by rw [z.2 rfl]; rfl, hw.1⟩
set_option maxRecDepth 20000 in
theorem those_w {d e : Nat} (w : World) (hlt : d < w.heap.size) (hr : RowAt w d 0 [.slice none 0 0, .map (some e)]) : Calls Tryz.prog 83 #[.pointer (some ⟨d, 0, none⟩), .int .i64 0] w fun e w' => e = .returned (.slice none 0 0) ∧ Bel w w' := by
  refine H_enter Tryz.func83 rfl Tryz.ntmps83 rfl ?_
  refine H_seq ?_
  refine R0 ?_
  refine xV (e_as (v := .slice _ _ _) (q0 rfl)) rfl rfl ?_
  refine XN ?_
  refine thenJ_normal ?_
  refine H_seq ?_
  refine R0 ?_
  refine xV (e_as (v := .slice _ _ _) (q0 rfl)) rfl rfl ?_
  refine XN ?_
  refine thenJ_normal ?_
  refine H_seq ?_
  refine H_seq ?_
  refine R0 ?_
  refine xV (e_as (v := .int _ _) (q0 rfl)) rfl rfl ?_
  refine XN ?_
  refine thenJ_normal ?_
  refine H_block ?_
  refine H_loop [5, 6, 7, 8, 9, 10, 11, 12, 13, 14, 15, 16, 17, 18, 19, 20, 21, 22, 23, 24, 25, 26, 27, 28, 29, 30, 31, 32, 33, 34, 35, 36, 37, 38, 39, 40] (fun _ : Unit => [(5, .slice none 0 0), (6, .int .i64 0)]) (fun _ => []) (fun _ => True) (fun _ => 0) () ⟨rfl, rfl, trivial⟩ (fun w hw => hw) rfl trivial ?_
  rintro _ g _
  refine H_seq ?_
  refine H_seq ?_
  refine R0 ?_
  refine xV (e_mv (v := .pointer _) (q0 rfl)) rfl rfl ?_
  refine xV (e_neNilP Tryz.underlying99 (q0 rfl)) rfl rfl ?_
  refine xV (e_mv (v := .bool _) (q0 rfl)) rfl rfl ?_
  refine xVT (e_mv (v := .int _ _) (q0 rfl)) rfl rfl rfl rfl ?_
  refine xVT (e_mv (v := .pointer _) (q0 rfl)) rfl rfl rfl rfl ?_
  refine xVT (e_nilc (q1 rfl)) rfl rfl rfl rfl ?_
  refine xVT (e_fld Tryz.underlying159 rfl Tryz.sizeOf157 rfl (q1 rfl)) rfl rfl rfl rfl ?_
  refine xVT (eL Tryz.isAgg157 (q1 rfl)) rfl rfl rfl rfl ?_
  refine xVT (e_len Tryz.underlying157 (q1 rfl)) rfl rfl rfl rfl ?_
  refine xVT (e_lt (q1 rfl) (q1 rfl)) rfl rfl rfl rfl ?_
  refine xV (e_and (q0 rfl) rfl (fun h => by first | rfl | (rw [h]; rfl))) rfl rfl ?_
  refine XN ?_
  refine thenJ_normal ?_
  refine H_cond rfl (fun h => ?_) (fun h => ?_)
  · exfalso; simp at h
  · refine H_exit ?_
    refine thenJ_exit ?_
    refine loopJ_exit ?_
    refine blockJ_hit ?_
    refine thenJ_normal ?_
    refine H_seq ?_
    refine R0 ?_
    refine xV (e_mv (v := .slice _ _ _) (q0 rfl)) rfl rfl ?_
    refine xV (e_as (v := .slice _ _ _) (q0 rfl)) rfl rfl ?_
    refine XN ?_
    refine thenJ_normal ?_
    refine H_ret ?_
    exact ret1 (v := .slice _ _ _) rfl rfl rfl fun w' hw => ⟨rfl, hw.1⟩
theorem open_w {d e : Nat} (w : World) (hlt : d < w.heap.size) (hr : RowAt w d 0 [.slice none 0 0, .map (some e)]) : Calls Tryz.prog 41 #[.pointer (some ⟨d, 0, none⟩)] w fun e w' => e = .returned (.slice none 0 0) ∧ Bel w w' := by
  refine H_enter Tryz.func41 rfl Tryz.ntmps41 rfl ?_
  refine H_seq ?_
  refine R0 ?_
  refine xV (e_as (v := .slice _ _ _) (q0 rfl)) rfl rfl ?_
  refine XN ?_
  refine thenJ_normal ?_
  refine H_seq ?_
  refine R0 ?_
  refine xV (e_mv (v := .pointer _) (q0 rfl)) rfl rfl ?_
  refine xC (en Tryz.call83 (ha2 (q0 rfl) (q0 rfl))) (fun _ w hw => those_w w (Nat.lt_of_lt_of_le hlt hw.1.size) (hr.below hlt hw.1)) rfl rfl ?_
  refine xV (e_as (v := .slice _ _ _) (q0 rfl)) rfl rfl ?_
  refine XN ?_
  refine thenJ_normal ?_
  refine H_ret ?_
  exact ret1 (v := .slice _ _ _) rfl rfl rfl fun w' hw => ⟨rfl, hw.1⟩
theorem sv_of {w : World} {f : Fl} {p : Pr} {x : Nat × NA} {n j q : Nat} (h : NetAt w f p x n) (hq : x.2.s[j]? = some q) : ∃ s, q = s.s ∧ SvAt w f.devices s := by
  rw [h.ss, List.getElem?_map] at hq
  cases hs : x.2.l[j]? with
  | none => rw [hs] at hq; cases hq
  | some s =>
    rw [hs] at hq; cases hq
    exact ⟨s, rfl, h.sv s (List.mem_of_getElem? hs)⟩
theorem events_w {f : Fl} {p : Pr} {x : Nat × NA} {n : Nat} (k : Int) (w : World) (h : NetAt w f p x n) (hn8 : n ≤ 8) : Calls Tryz.prog 15 #[.pointer (some ⟨x.1, 0, none⟩), .int .i64 k] w fun e w' => e = .returned (.slice none 0 0) ∧ Bel w w' := by
  have hb := h.lt
  have hr := h.row
  have hsn := h.sn
  by_cases hk : 0 ≤ k ∧ k < n
  case neg =>
    refine H_enter Tryz.func15 rfl Tryz.ntmps15 rfl ?_
    refine H_seq ?_
    refine R0 ?_
    refine xV (e_as (v := .slice _ _ _) (q0 rfl)) rfl rfl ?_
    refine XN ?_
    refine thenJ_normal ?_
    refine H_seq ?_
    refine H_seq ?_
    refine R0 ?_
    refine xV (e_mv (v := .pointer _) (q0 rfl)) rfl rfl ?_
    refine xV (e_mv (v := .int _ _) (q0 rfl)) rfl rfl ?_
    refine xC (en Tryz.call40 (ha2 (q0 rfl) (q0 rfl))) (fun _ w hw => has_w k w (h.mem hw)) rfl rfl ?_
    refine xV (e_not (q0 rfl)) rfl rfl ?_
    refine XN ?_
    refine thenJ_normal ?_
    refine H_cond rfl (fun hh => ?_) (fun hh => ?_)
    · refine H_seq ?_
      refine R0 ?_
      refine xV (e_as (v := .slice _ _ _) (q0 rfl)) rfl rfl ?_
      refine XN ?_
      refine thenJ_normal ?_
      refine H_ret ?_
      refine thenJ_ret ?_
      exact ret1 (v := .slice _ _ _) rfl rfl rfl fun w' hw => ⟨rfl, hw.1⟩
    · exact absurd (by simpa using hh) hk
  case pos =>
    obtain ⟨j, rfl⟩ : ∃ j : Nat, k = j := ⟨k.toNat, by omega⟩
    have hj : j < x.2.s.length := by omega
    obtain ⟨b, off, q, hA, hbl, hq, hrx⟩ := h.sl.at_ hj
    obtain ⟨s, rfl, hs⟩ := sv_of h hq
    have hs1 := hs.lt
    have hs2 := hs.row
    obtain ⟨nb, d, t, pp, l, ss, sA, sc, bb, bA, bc⟩ := x
    have hA : sA = some ⟨b, off, none⟩ := hA
    subst hA
    have hj : j < ss.length := hj
    refine H_enter Tryz.func15 rfl Tryz.ntmps15 rfl ?_
    refine H_seq ?_
    refine R0 ?_
    refine xV (e_as (v := .slice _ _ _) (q0 rfl)) rfl rfl ?_
    refine XN ?_
    refine thenJ_normal ?_
    refine H_seq ?_
    refine H_seq ?_
    refine R0 ?_
    refine xV (e_mv (v := .pointer _) (q0 rfl)) rfl rfl ?_
    refine xV (e_mv (v := .int _ _) (q0 rfl)) rfl rfl ?_
    refine xC (en Tryz.call40 (ha2 (q0 rfl) (q0 rfl))) (fun _ w hw => has_w (j : Int) w (h.mem hw)) rfl rfl ?_
    refine xV (e_not (q0 rfl)) rfl rfl ?_
    refine XN ?_
    refine thenJ_normal ?_
    refine H_cond rfl (fun hh => ?_) (fun hh => ?_)
    · exfalso
      simp at hh
      omega
    · refine H_skip ?_
      refine thenJ_normal ?_
      refine H_seq ?_
      refine R0 ?_
      refine xV (e_mv (v := .pointer _) (q0 rfl)) rfl rfl ?_
      refine xV (e_nilc (q0 rfl)) rfl rfl ?_
      refine xV (e_fld Tryz.underlying97 rfl Tryz.sizeOf94 rfl (q0 rfl)) rfl rfl ?_
      refine xV (eL Tryz.isAgg94 (q0 rfl)) rfl rfl ?_
      refine xV (e_mv (v := .int _ _) (q0 rfl)) rfl rfl ?_
      refine xV (e_idx _ Tryz.underlying94 Tryz.sizeOf98 (q0 rfl) (q0 rfl) (fun _ => ⟨rfl, by omega⟩)) rfl rfl ?_
      refine xV (eL Tryz.isAgg98 (q0 rfl)) rfl rfl ?_
      refine xV (e_nilc (q0 rfl)) rfl rfl ?_
      refine xV (e_fld Tryz.underlying102 rfl Tryz.sizeOf68 rfl (q0 rfl)) rfl rfl ?_
      refine xV (eL Tryz.isAgg68 (q0 rfl)) rfl rfl ?_
      refine xC (en Tryz.call30 (ha1 (q0 rfl))) (fun _ w hw => gev_w w (hs.mem hw).rp) rfl rfl ?_
      refine xV (e_as (v := .slice _ _ _) (q0 rfl)) rfl rfl ?_
      refine XN ?_
      refine thenJ_normal ?_
      refine H_ret ?_
      exact ret1 (v := .slice _ _ _) rfl rfl rfl fun w' hw => ⟨rfl, hw.1⟩
theorem waiting_w {f : Fl} {p : Pr} {x : Nat × NA} {n : Nat} (k : Int) (w : World) (h : NetAt w f p x n) (hn8 : n ≤ 8) : Calls Tryz.prog 16 #[.pointer (some ⟨x.1, 0, none⟩), .int .i64 k] w fun e w' => e = .returned (.slice none 0 0) ∧ Bel w w' := by
  have hb := h.lt
  have hr := h.row
  have hsn := h.sn
  by_cases hk : 0 ≤ k ∧ k < n
  case neg =>
    refine H_enter Tryz.func16 rfl Tryz.ntmps16 rfl ?_
    refine H_seq ?_
    refine R0 ?_
    refine xV (e_as (v := .slice _ _ _) (q0 rfl)) rfl rfl ?_
    refine XN ?_
    refine thenJ_normal ?_
    refine H_seq ?_
    refine H_seq ?_
    refine R0 ?_
    refine xV (e_mv (v := .pointer _) (q0 rfl)) rfl rfl ?_
    refine xV (e_mv (v := .int _ _) (q0 rfl)) rfl rfl ?_
    refine xC (en Tryz.call40 (ha2 (q0 rfl) (q0 rfl))) (fun _ w hw => has_w k w (h.mem hw)) rfl rfl ?_
    refine xV (e_not (q0 rfl)) rfl rfl ?_
    refine XN ?_
    refine thenJ_normal ?_
    refine H_cond rfl (fun hh => ?_) (fun hh => ?_)
    · refine H_seq ?_
      refine R0 ?_
      refine xV (e_as (v := .slice _ _ _) (q0 rfl)) rfl rfl ?_
      refine XN ?_
      refine thenJ_normal ?_
      refine H_ret ?_
      refine thenJ_ret ?_
      exact ret1 (v := .slice _ _ _) rfl rfl rfl fun w' hw => ⟨rfl, hw.1⟩
    · exact absurd (by simpa using hh) hk
  case pos =>
    obtain ⟨j, rfl⟩ : ∃ j : Nat, k = j := ⟨k.toNat, by omega⟩
    have hj : j < x.2.s.length := by omega
    obtain ⟨b, off, q, hA, hbl, hq, hrx⟩ := h.sl.at_ hj
    obtain ⟨s, rfl, hs⟩ := sv_of h hq
    have hs1 := hs.lt
    have hs2 := hs.row
    obtain ⟨nb, d, t, pp, l, ss, sA, sc, bb, bA, bc⟩ := x
    have hA : sA = some ⟨b, off, none⟩ := hA
    subst hA
    have hj : j < ss.length := hj
    refine H_enter Tryz.func16 rfl Tryz.ntmps16 rfl ?_
    refine H_seq ?_
    refine R0 ?_
    refine xV (e_as (v := .slice _ _ _) (q0 rfl)) rfl rfl ?_
    refine XN ?_
    refine thenJ_normal ?_
    refine H_seq ?_
    refine H_seq ?_
    refine R0 ?_
    refine xV (e_mv (v := .pointer _) (q0 rfl)) rfl rfl ?_
    refine xV (e_mv (v := .int _ _) (q0 rfl)) rfl rfl ?_
    refine xC (en Tryz.call40 (ha2 (q0 rfl) (q0 rfl))) (fun _ w hw => has_w (j : Int) w (h.mem hw)) rfl rfl ?_
    refine xV (e_not (q0 rfl)) rfl rfl ?_
    refine XN ?_
    refine thenJ_normal ?_
    refine H_cond rfl (fun hh => ?_) (fun hh => ?_)
    · exfalso
      simp at hh
      omega
    · refine H_skip ?_
      refine thenJ_normal ?_
      refine H_seq ?_
      refine R0 ?_
      refine xV (e_mv (v := .pointer _) (q0 rfl)) rfl rfl ?_
      refine xV (e_nilc (q0 rfl)) rfl rfl ?_
      refine xV (e_fld Tryz.underlying97 rfl Tryz.sizeOf94 rfl (q0 rfl)) rfl rfl ?_
      refine xV (eL Tryz.isAgg94 (q0 rfl)) rfl rfl ?_
      refine xV (e_mv (v := .int _ _) (q0 rfl)) rfl rfl ?_
      refine xV (e_idx _ Tryz.underlying94 Tryz.sizeOf98 (q0 rfl) (q0 rfl) (fun _ => ⟨rfl, by omega⟩)) rfl rfl ?_
      refine xV (eL Tryz.isAgg98 (q0 rfl)) rfl rfl ?_
      refine xV (e_nilc (q0 rfl)) rfl rfl ?_
      refine xV (e_fld Tryz.underlying102 rfl Tryz.sizeOf99 rfl (q0 rfl)) rfl rfl ?_
      refine xV (eL Tryz.isAgg99 (q0 rfl)) rfl rfl ?_
      refine xC (en Tryz.call41 (ha1 (q0 rfl))) (fun _ w hw => open_w w (hs.mem hw).dlt (hs.mem hw).drow) rfl rfl ?_
      refine xV (e_as (v := .slice _ _ _) (q0 rfl)) rfl rfl ?_
      refine XN ?_
      refine thenJ_normal ?_
      refine H_ret ?_
      exact ret1 (v := .slice _ _ _) rfl rfl rfl fun w' hw => ⟨rfl, hw.1⟩
theorem clonePay_w (w : World) : Calls Tryz.prog 42 #[.slice none 0 0] w fun e w' => e = .returned (.slice none 0 0) ∧ Bel w w' := by
  refine H_enter Tryz.func42 rfl Tryz.ntmps42 rfl ?_
  refine H_seq ?_
  refine R0 ?_
  refine xV (e_as (v := .slice _ _ _) (q0 rfl)) rfl rfl ?_
  refine XN ?_
  refine thenJ_normal ?_
  refine H_seq ?_
  refine H_seq ?_
  refine R0 ?_
  refine xV (e_mv (v := .slice _ _ _) (q0 rfl)) rfl rfl ?_
  refine xV (e_eqNilS Tryz.underlying40 (q0 rfl)) rfl rfl ?_
  refine XN ?_
  refine thenJ_normal ?_
  refine H_cond rfl (fun h1 => ?_) (fun h1 => ?_)
  · refine H_seq ?_
    refine R0 ?_
    refine xV (e_as (v := .slice _ _ _) (q0 rfl)) rfl rfl ?_
    refine XN ?_
    refine thenJ_normal ?_
    refine H_ret ?_
    refine thenJ_ret ?_
    exact ret1 (v := .slice _ _ _) rfl rfl rfl fun w' hw => ⟨rfl, hw.1⟩
  · cases h1
theorem bank_w {f : Fl} {p : Pr} {x : Nat × NA} {n : Nat} (w : World) (h : NetAt w f p x n) : Calls Tryz.prog 17 #[.pointer (some ⟨x.1, 0, none⟩)] w fun e w' => e = .returned (.agg #[.slice none 0 0]) ∧ Bel w w' := by
  have hb := h.lt
  have hr := h.row
  refine H_enter Tryz.func17 rfl Tryz.ntmps17 rfl ?_
  refine H_seq ?_
  refine R0 ?_
  refine X_alloc Tryz.zeroValue42 rfl fun b2 => ?_
  refine XN ?_
  refine thenJ_normal ?_
  refine H_seq ?_
  refine H_seq ?_
  refine R0 ?_
  refine xV (e_mv (v := .pointer _) (q0 rfl)) rfl rfl ?_
  refine xV (e_eqNilP Tryz.underlying33 (q0 rfl)) rfl rfl ?_
  refine XN ?_
  refine thenJ_normal ?_
  refine H_cond rfl (fun hn => ?_) (fun hn => ?_)
  · cases hn
  · have _ht : True := trivial
    refine H_skip ?_
    refine thenJ_normal ?_
    refine H_seq ?_
    refine R0 ?_
    refine xV (e_mv (v := .pointer _) (q0 rfl)) rfl rfl ?_
    refine xV (e_nilc (q0 rfl)) rfl rfl ?_
    refine xV (e_fld Tryz.underlying97 rfl Tryz.sizeOf42 rfl (q0 rfl)) rfl rfl ?_
    refine xV (e_fld Tryz.underlying42 rfl Tryz.sizeOf40 rfl (q0 rfl)) rfl rfl ?_
    refine xV (e_ld (v := .slice none 0 0) Tryz.isAgg40 (q0 rfl) (by exact rc (j := 14) hr hb rfl)) rfl rfl ?_
    refine xC (en Tryz.call42 (ha1 (q0 rfl))) (fun _ w _ => clonePay_w w) rfl rfl ?_
    refine xV (e_build Tryz.underlying42 fl42 Tryz.zeroValue42 (pt (v := .slice _ _ _) rfl E.p0) rfl) rfl rfl ?_
    refine X_st (v := .agg _) rfl rfl Tryz.sizeOf42 ?_
    refine XN ?_
    refine thenJ_normal ?_
    refine H_ret ?_
    exact ret_of rfl (resC rfl rfl Tryz.isAgg42 Tryz.sizeOf42) fun w' hw => ⟨rfl, hw.1⟩
end Go.Proofs.Hom

/-
  The walks: the reference's networks; few; the law on homes.
-/
namespace Go.Proofs.Hom
open Go Go.RowKit Go.Proofs.E Go.Proofs.Cus Go.Proofs.Far

def nlC (_ : Unit) : List Value := [.slice none 0 0]
def dkC (_ : Unit) : List Value := [.slice none 0 0, .slice none 0 0, .slice none 0 0]
abbrev evsRow (A : Option Addr) (c : Nat) (l : List Unit) : E.Item := rowT 49 1 nlC A c l
abbrev dksRow (A : Option Addr) (c : Nat) (l : List Unit) : E.Item := rowT 106 3 dkC A c l
/-- the reference's network: who serves, and three lists -/
def rC (f : Fl) (fa : FA) (p : Pr) (a : PrA) (n : Nat) (x : Sl × Sl × Sl) : List Value := [.int .i64 f.bikes, .int .i64 f.riders, .int .i64 f.devices, .slice fa.dA fa.dn fa.dc, .slice fa.tA fa.tn fa.tc, .slice a.t.A a.t.n a.t.c, .slice a.p.A a.p.n a.p.c, .slice a.pl.A a.pl.n a.pl.c, .slice a.d.A a.d.n a.d.c, .int .i64 p.cap, .slice a.f.A a.f.n a.f.c, .int .i64 p.days, .int .i64 n, x.1.v, x.2.1.v, x.2.2.v, .slice none 0 0, .slice none 0 0]
def r0C : List Value := [.int .i64 0, .int .i64 0, .int .i64 0, .slice none 0 0, .slice none 0 0, .slice none 0 0, .slice none 0 0, .slice none 0 0, .slice none 0 0, .int .i64 0, .slice none 0 0, .int .i64 0, .int .i64 0, .slice none 0 0, .slice none 0 0, .slice none 0 0, .slice none 0 0, .slice none 0 0]
theorem setAt_mid : ∀ (vs cs : List Value) (i : Nat), i + vs.length ≤ cs.length → setAt cs i vs = cs.take i ++ vs ++ cs.drop (i + vs.length)
  | [], cs, i, h => by simp [setAt]
  | v :: r, cs, i, h => by
    simp only [List.length_cons] at h
    rw [setAt, setAt_mid r _ (i + 1) (by simp; omega)]
    rw [List.take_set, List.drop_set]
    rw [if_pos (by omega), show i + (v :: r).length = i + 1 + r.length by simp; omega]
    rw [List.take_add_one, List.set_append_right _ _ (by rw [List.length_take]; exact Nat.min_le_left _ _)]
    rw [List.getElem?_eq_getElem (by omega)]
    simp [Nat.min_eq_left (show i ≤ cs.length by omega), Nat.min_le_left]
theorem setAt_all {cs vs : List Value} (h : cs.length = vs.length) : setAt cs 0 vs = vs := by
  rw [setAt_mid vs cs 0 (by omega)]
  simp [← h]
theorem rnewBad_w (f : Fl) (fa : FA) (p : Pr) (a : PrA) (k : Int) (w : World) (hf : FlAt w f fa) (hp : PrAt w p a) (hk : netErr f p k ≠ 0) : Calls Tryz.prog 12 #[.agg (f.cells fa).toArray, .agg (p.cells a).toArray, .int .i64 k] w fun e w' => e = .returned (.tuple #[.agg r0C.toArray, .int .i64 (netErr f p k)]) ∧ Bel w w' := by
  refine H_enter Tryz.func12 rfl Tryz.ntmps12 rfl ?_
  refine H_seq ?_
  refine R0 ?_
  refine X_box (v := .agg _) rfl rfl fun b3 => ?_
  refine X_box (v := .agg _) rfl rfl fun b4 => ?_
  refine X_alloc Tryz.zeroValue44 rfl fun b6 => ?_
  refine xV (e_as (v := .int _ _) (q0 rfl)) rfl rfl ?_
  refine XN ?_
  refine thenJ_normal ?_
  refine H_seq ?_
  refine H_seq ?_
  refine R0 ?_
  refine xV (eS Tryz.isAgg24 Tryz.sizeOf24 (q0 rfl)) rfl rfl ?_
  refine xV (eS Tryz.isAgg28 Tryz.sizeOf28 (q0 rfl)) rfl rfl ?_
  refine xC (en Tryz.call39 (ha2 (q0 rfl) (q0 rfl))) (fun _ w hw => rfcheck_w f fa p a w (hf.mem hw) (hp.mem hw)) rfl rfl ?_
  refine xV (e_as (v := .int _ _) (q0 rfl)) rfl rfl ?_
  refine XN ?_
  refine thenJ_normal ?_
  refine H_seq ?_
  refine R0 ?_
  refine xV (e_mv (v := .int _ _) (q0 rfl)) rfl rfl ?_
  refine xV (e_ne (q0 rfl) (q0 rfl)) rfl rfl ?_
  refine XN ?_
  refine thenJ_normal ?_
  refine H_cond rfl (fun h1 => ?_) (fun h1 => ?_)
  · have h1' : prErr f p ≠ 0 := by simpa using h1
    refine H_seq ?_
    refine R0 ?_
    refine xV (e_build Tryz.underlying44 fl44 Tryz.zeroValue44 E.p0 rfl) rfl rfl ?_
    refine xV (e_mv (v := .int _ _) (q0 rfl)) rfl rfl ?_
    refine X_st (v := .agg _) rfl rfl Tryz.sizeOf44 ?_
    refine xV (e_as (v := .int _ _) (q0 rfl)) rfl rfl ?_
    refine XN ?_
    refine thenJ_normal ?_
    refine H_ret ?_
    refine thenJ_ret ?_
    exact ret_of rfl (resc2 0 rfl rfl rfl Tryz.isAgg44 Tryz.sizeOf44 rfl rfl) fun w' hw => ⟨by unfold netErr; rw [if_pos h1']; rfl, hw.1⟩
  · have h1' : prErr f p = 0 := by simpa using h1
    refine H_skip ?_
    refine thenJ_normal ?_
    refine H_seq ?_
    refine H_seq ?_
    refine R0 ?_
    refine xV (e_mv (v := .int _ _) (q0 rfl)) rfl rfl ?_
    refine xV (e_lt (q0 rfl) (q0 rfl)) rfl rfl ?_
    refine xV (e_mv (v := .bool _) (q0 rfl)) rfl rfl ?_
    refine xVF (e_mv (v := .int _ _) (q0 rfl)) rfl rfl rfl rfl ?_
    refine xVF (e_gt (q1 rfl) (q0 rfl)) rfl rfl rfl rfl ?_
    refine xV (e_or (q0 rfl) rfl (fun h => by first | rfl | (rw [h]; rfl))) rfl rfl ?_
    refine XN ?_
    refine thenJ_normal ?_
    refine H_cond rfl (fun h2 => ?_) (fun h2 => ?_)
    · have h2' : k < 1 ∨ 8 < k := by simpa using h2
      refine H_seq ?_
      refine R0 ?_
      refine xV (e_build Tryz.underlying44 fl44 Tryz.zeroValue44 E.p0 rfl) rfl rfl ?_
      refine X_st (v := .agg _) rfl rfl Tryz.sizeOf44 ?_
      refine xV (e_as (v := .int _ _) (q0 rfl)) rfl rfl ?_
      refine XN ?_
      refine thenJ_normal ?_
      refine H_ret ?_
      refine thenJ_ret ?_
      exact ret_of rfl (resc2 0 rfl rfl rfl Tryz.isAgg44 Tryz.sizeOf44 rfl rfl) fun w' hw => ⟨by unfold netErr; rw [if_neg (fun h => h h1'), if_pos h2']; rfl, hw.1⟩
    · exfalso
      have h2' : ¬(k < 1 ∨ 8 < k) := by simpa using h2
      unfold netErr at hk
      rw [if_neg (fun h => h h1'), if_neg h2'] at hk
      exact hk rfl
set_option maxRecDepth 20000 in
set_option maxHeartbeats 2000000 in
theorem rnewOk_w (f : Fl) (fa : FA) (p : Pr) (a : PrA) (n : Nat) (w : World) (hf : FlAt w f fa) (hp : PrAt w p a) (h0 : prErr f p = 0) (hn1 : 1 ≤ n) (hn8 : n ≤ 8) : Calls Tryz.prog 12 #[.agg (f.cells fa).toArray, .agg (p.cells a).toArray, .int .i64 n] w fun e w' => ∃ x : Sl × Sl × Sl, e = .returned (.tuple #[.agg (rC f fa p a n x).toArray, .int .i64 0]) ∧ Mem w [] w' := by
  refine H_enter Tryz.func12 rfl Tryz.ntmps12 rfl ?_
  refine H_seq ?_
  refine R0 ?_
  refine X_box (v := .agg _) rfl rfl fun b3 => ?_
  refine X_box (v := .agg _) rfl rfl fun b4 => ?_
  refine X_alloc Tryz.zeroValue44 rfl fun b6 => ?_
  refine xV (e_as (v := .int _ _) (q0 rfl)) rfl rfl ?_
  refine XN ?_
  refine thenJ_normal ?_
  refine H_seq ?_
  refine H_seq ?_
  refine R0 ?_
  refine xV (eS Tryz.isAgg24 Tryz.sizeOf24 (q0 rfl)) rfl rfl ?_
  refine xV (eS Tryz.isAgg28 Tryz.sizeOf28 (q0 rfl)) rfl rfl ?_
  refine xC (en Tryz.call39 (ha2 (q0 rfl) (q0 rfl))) (fun _ w hw => rfcheck_w f fa p a w (hf.mem hw) (hp.mem hw)) rfl rfl ?_
  refine xV (e_as (v := .int _ _) (q0 rfl)) rfl rfl ?_
  refine XN ?_
  refine thenJ_normal ?_
  refine H_seq ?_
  refine R0 ?_
  refine xV (e_mv (v := .int _ _) (q0 rfl)) rfl rfl ?_
  refine xV (e_ne (q0 rfl) (q0 rfl)) rfl rfl ?_
  refine XN ?_
  refine thenJ_normal ?_
  refine H_cond rfl (fun h1 => ?_) (fun h1 => ?_)
  · exact absurd h0 (by simpa using h1)
  · refine H_skip ?_
    refine thenJ_normal ?_
    refine H_seq ?_
    refine H_seq ?_
    refine R0 ?_
    refine xV (e_mv (v := .int _ _) (q0 rfl)) rfl rfl ?_
    refine xV (e_lt (q0 rfl) (q0 rfl)) rfl rfl ?_
    refine xV (e_mv (v := .bool _) (q0 rfl)) rfl rfl ?_
    refine xVF (e_mv (v := .int _ _) (q0 rfl)) rfl rfl rfl rfl ?_
    refine xVF (e_gt (q1 rfl) (q0 rfl)) rfl rfl rfl rfl ?_
    refine xV (e_or (q0 rfl) rfl (fun h => by first | rfl | (rw [h]; rfl))) rfl rfl ?_
    refine XN ?_
    refine thenJ_normal ?_
    refine H_cond rfl (fun h2 => ?_) (fun h2 => ?_)
    · exfalso; simp at h2; omega
    · refine H_skip ?_
      refine thenJ_normal ?_
      refine H_seq ?_
      refine R0 ?_
      refine xV (eS Tryz.isAgg24 Tryz.sizeOf24 (q0 rfl)) rfl rfl ?_
      refine xV (eS Tryz.isAgg28 Tryz.sizeOf28 (q0 rfl)) rfl rfl ?_
      refine xV (e_mv (v := .int _ _) (q0 rfl)) rfl rfl ?_
      refine xV (e_build Tryz.underlying44 fl44 Tryz.zeroValue44 (pt (v := .agg _) rfl (pt (v := .agg _) rfl (pt (v := .int _ _) rfl E.p0))) rfl) rfl rfl ?_
      refine X_alloc Tryz.zeroValue44 rfl fun b9 => ?_
      refine X_st (v := .agg _) rfl rfl Tryz.sizeOf44 ?_
      refine XN ?_
      refine thenJ_normal ?_
      refine H_seq ?_
      refine H_seq ?_
      refine H_mem (L' := [box b9 44 (rC f fa p a n (⟨none, 0, 0⟩, ⟨none, 0, 0⟩, ⟨none, 0, 0⟩)), box b6 44 r0C, box b4 28 (p.cells a), box b3 24 (f.cells fa)]) (fun w hw => by
        have hw : Mem _ [box b9 44 (setAt r0C 0 (rC f fa p a n (⟨none, 0, 0⟩, ⟨none, 0, 0⟩, ⟨none, 0, 0⟩))), box b6 44 r0C, box b4 28 (p.cells a), box b3 24 (f.cells fa)] w := hw
        rwa [setAt_all (cs := r0C) (vs := rC f fa p a n (⟨none, 0, 0⟩, ⟨none, 0, 0⟩, ⟨none, 0, 0⟩)) rfl] at hw) rfl ?_
      refine R0 ?_
      refine xV (e_as (v := .int _ _) (q0 rfl)) rfl rfl ?_
      refine XN ?_
      refine thenJ_normal ?_
      refine H_block ?_
      refine H_loop [10, 29, 30, 31, 32, 33, 34, 35, 36, 37, 38, 39, 40, 41, 42, 43, 44, 45, 46, 47, 48, 49] (fun s : (Nat × List Unit × Option Addr × Nat) × (List Unit × Option Addr × Nat) × List Int × Option Addr × Nat => [(10, .int .i64 s.1.1)]) (fun s => [evsRow s.1.2.2.1 s.1.2.2.2 s.1.2.1, dksRow s.2.1.2.1 s.2.1.2.2 s.2.1.1, intRow s.2.2.2.1 s.2.2.2.2 s.2.2.1, box b9 44 (rC f fa p a n (⟨s.1.2.2.1, s.1.2.1.length, s.1.2.2.2⟩, ⟨s.2.1.2.1, s.2.1.1.length, s.2.1.2.2⟩, ⟨s.2.2.2.1, s.2.2.1.length, s.2.2.2.2⟩)), box b6 44 r0C, box b4 28 (p.cells a), box b3 24 (f.cells fa)]) (fun s => s.1.1 ≤ n ∧ s.1.2.1.length = s.1.1 ∧ s.2.1.1.length = s.1.1 ∧ s.2.2.1.length = s.1.1) (fun s => n - s.1.1) ((0, [], none, 0), ([], none, 0), [], none, 0) ⟨rfl, trivial⟩ (fun w hw => ((hw.nilRow 3 1 encInt rfl).nilRow 106 3 dkC rfl).nilRow 49 1 nlC rfl) rfl ⟨Nat.zero_le _, rfl, rfl, rfl⟩ ?_
      rintro ⟨⟨k, el, eA, ec⟩, ⟨dl, dA, dc⟩, rl, rA, rc⟩ g ⟨hk, hel, hdl, hrl⟩
      have hk : k ≤ n := hk
      have hel : el.length = k := hel
      have hdl : dl.length = k := hdl
      have hrl : rl.length = k := hrl
      refine H_seq ?_
      refine H_seq ?_
      refine R0 ?_
      refine xV (e_mv (v := .int _ _) (q0 rfl)) rfl rfl ?_
      refine xV (e_mv (v := .int _ _) (q0 rfl)) rfl rfl ?_
      refine xV (e_lt (q0 rfl) (q0 rfl)) rfl rfl ?_
      refine XN ?_
      refine thenJ_normal ?_
      refine H_cond rfl (fun hlt => ?_) (fun hlt => ?_)
      · have hlt' : k < n := by simpa using hlt
        refine H_skip ?_
        refine thenJ_normal ?_
        refine H_seq ?_
        refine H_block ?_
        refine H_seq ?_
        refine R0 ?_
        refine xV (e_fld Tryz.underlying44 rfl Tryz.sizeOf37 rfl (q0 rfl)) rfl rfl ?_
        refine xV (eL Tryz.isAgg37 (q0 rfl)) rfl rfl ?_
        refine X_push (k := 1) (i := Tryz.t49) 0 (()) Tryz.underlying37 (by kernel_rfl) rfl rfl rfl rfl Tryz.sizeOf49 Tryz.zeroValue49 rfl rfl rfl rfl rfl rfl ⟨by omega, by decide⟩ rfl rfl fun B1 A1 c1 => ?_
        refine xV (e_fld Tryz.underlying44 rfl Tryz.sizeOf37 rfl (q0 rfl)) rfl rfl ?_
        refine X_st (v := .slice _ _ _) rfl rfl Tryz.sizeOf37 ?_
        refine XN ?_
        refine thenJ_normal ?_
        refine H_seq ?_
        refine R0 ?_
        refine xV (e_fld Tryz.underlying44 rfl Tryz.sizeOf38 rfl (q0 rfl)) rfl rfl ?_
        refine xV (eL Tryz.isAgg38 (q0 rfl)) rfl rfl ?_
        refine xV (e_build Tryz.underlying106 fl106 Tryz.zeroValue106 E.p0 rfl) rfl rfl ?_
        refine X_push (k := 3) (i := Tryz.t106) 1 (()) Tryz.underlying38 (by kernel_rfl) rfl rfl rfl rfl Tryz.sizeOf106 Tryz.zeroValue106 rfl rfl rfl rfl rfl rfl ⟨by omega, by decide⟩ rfl rfl fun B2 A2 c2 => ?_
        refine xV (e_fld Tryz.underlying44 rfl Tryz.sizeOf38 rfl (q0 rfl)) rfl rfl ?_
        refine X_st (v := .slice _ _ _) rfl rfl Tryz.sizeOf38 ?_
        refine XN ?_
        refine thenJ_normal ?_
        refine R0 ?_
        refine xV (e_fld Tryz.underlying44 rfl Tryz.sizeOf22 rfl (q0 rfl)) rfl rfl ?_
        refine xV (eL Tryz.isAgg22 (q0 rfl)) rfl rfl ?_
        refine X_push (k := 1) (i := Tryz.t3) 2 ((0 : Int)) Tryz.underlying22 (by kernel_rfl) rfl rfl rfl rfl Tryz.sizeOf3 Tryz.zeroValue3 rfl rfl rfl rfl rfl rfl ⟨by omega, by decide⟩ rfl rfl fun B3 A3 c3 => ?_
        refine xV (e_fld Tryz.underlying44 rfl Tryz.sizeOf22 rfl (q0 rfl)) rfl rfl ?_
        refine X_st (v := .slice _ _ _) rfl rfl Tryz.sizeOf22 ?_
        refine XN ?_
        refine blockJ_normal ?_
        refine thenJ_normal ?_
        refine R0 ?_
        refine xV (e_mv (v := .int _ _) (q0 rfl)) rfl rfl ?_
        refine xV (e_add (q0 rfl) (q0 rfl) (fun _ => ⟨rfl, by omega, by omega⟩)) rfl rfl ?_
        refine xV (e_as (v := .int _ _) (q0 rfl)) rfl rfl ?_
        refine XN ?_
        exact loopJ_normal ((k + 1, el ++ [()], A1, c1), (dl ++ [()], A2, c2), rl ++ [0], A3, c3) (by repeat (first | exact agree_self | exact agree_over | refine agree_upd rfl ?_ | refine agree_updL rfl ?_ | refine agree_over2 rfl ?_)) ⟨rfl, trivial⟩ (fun w hw => hw) rfl ⟨by show k + 1 ≤ n; omega, by show (el ++ [()]).length = k + 1; rw [List.length_append, hel]; rfl, by show (dl ++ [()]).length = k + 1; rw [List.length_append, hdl]; rfl, by show (rl ++ [0]).length = k + 1; rw [List.length_append, hrl]; rfl⟩ (by show n - (k + 1) < n - k; omega)
      · refine H_exit ?_
        refine thenJ_exit ?_
        refine loopJ_exit ?_
        refine blockJ_hit ?_
        refine thenJ_normal ?_
        refine H_seq ?_
        refine R0 ?_
        refine xV (eS Tryz.isAgg44 Tryz.sizeOf44 (q0 rfl)) rfl rfl ?_
        refine X_st (v := .agg _) rfl rfl Tryz.sizeOf44 ?_
        refine xV (e_as (v := .int _ _) (q0 rfl)) rfl rfl ?_
        refine XN ?_
        refine thenJ_normal ?_
        refine H_ret ?_
        exact ret_of rfl (resc2 4 (cs := rC f fa p a n (⟨eA, el.length, ec⟩, ⟨dA, dl.length, dc⟩, ⟨rA, rl.length, rc⟩)) rfl rfl rfl Tryz.isAgg44 Tryz.sizeOf44 (by rw [← setAt_all (cs := r0C) (vs := rC f fa p a n (⟨eA, el.length, ec⟩, ⟨dA, dl.length, dc⟩, ⟨rA, rl.length, rc⟩)) rfl]; rfl) rfl) fun w' hw => ⟨(⟨eA, el.length, ec⟩, ⟨dA, dl.length, dc⟩, ⟨rA, rl.length, rc⟩), rfl, mem_nil.2 hw.1⟩
theorem rhome_w (c0 c1 c2 c3 c4 c5 c6 c7 c8 c9 c10 c11 c13 c14 c15 c16 c17 : Value) (n : Nat) (k : Int) (w : World) (h1 : 1 ≤ n) : Calls Tryz.prog 14 #[.agg #[c0, c1, c2, c3, c4, c5, c6, c7, c8, c9, c10, c11, .int .i64 n, c13, c14, c15, c16, c17], .int .i64 k] w fun e w' => e = .returned (.int .i64 (homeE n k)) ∧ Bel w w' := by
  refine H_enter Tryz.func14 rfl Tryz.ntmps14 rfl ?_
  refine H_seq ?_
  refine R0 ?_
  refine X_box (v := .agg _) rfl rfl fun b2 => ?_
  refine xV (e_as (v := .int _ _) (q0 rfl)) rfl rfl ?_
  refine XN ?_
  refine thenJ_normal ?_
  refine H_seq ?_
  refine H_seq ?_
  refine R0 ?_
  refine xV (e_mv (v := .int _ _) (q0 rfl)) rfl rfl ?_
  refine xV (e_lt (q0 rfl) (q0 rfl)) rfl rfl ?_
  refine xV (e_mv (v := .bool _) (q0 rfl)) rfl rfl ?_
  refine xVF (e_mv (v := .int _ _) (q0 rfl)) rfl rfl rfl rfl ?_
  refine xVF (e_ge (q1 rfl) (q0 rfl)) rfl rfl rfl rfl ?_
  refine xV (e_or (q0 rfl) rfl (fun h => by first | rfl | (rw [h]; rfl))) rfl rfl ?_
  refine xV (e_mv (v := .bool _) (q0 rfl)) rfl rfl ?_
  refine xVF (e_fld Tryz.underlying44 rfl Tryz.sizeOf3 rfl (q0 rfl)) rfl rfl rfl rfl ?_
  refine xVF (eL Tryz.isAgg3 (q1 rfl)) rfl rfl rfl rfl ?_
  refine xVF (e_lt (q1 rfl) (q0 rfl)) rfl rfl rfl rfl ?_
  refine xV (e_or (q0 rfl) rfl (fun h => by first | rfl | (rw [h]; rfl))) rfl rfl ?_
  refine XN ?_
  refine thenJ_normal ?_
  refine H_cond rfl (fun hk => ?_) (fun hk => ?_)
  · have hk' : k < 0 ∨ 128 ≤ k := by simp at hk; omega
    refine H_seq ?_
    refine R0 ?_
    refine xV (e_as (v := .int _ _) (q0 rfl)) rfl rfl ?_
    refine XN ?_
    refine thenJ_normal ?_
    refine H_ret ?_
    refine thenJ_ret ?_
    exact ret1 (v := .int _ _) rfl rfl rfl fun w' hw => ⟨by unfold homeE; rw [if_pos hk'], hw.1⟩
  · have hk' : ¬(k < 0 ∨ 128 ≤ k) := by simp at hk; omega
    refine H_skip ?_
    refine thenJ_normal ?_
    refine H_seq ?_
    refine R0 ?_
    refine xV (e_mv (v := .int _ _) (q0 rfl)) rfl rfl ?_
    refine xV (e_fld Tryz.underlying44 rfl Tryz.sizeOf3 rfl (q0 rfl)) rfl rfl ?_
    refine xV (eL Tryz.isAgg3 (q0 rfl)) rfl rfl ?_
    refine xV (e_rem (q0 rfl) (q0 rfl) (fun _ => by omega)) rfl rfl ?_
    refine xV (e_as (v := .int _ _) (q0 rfl)) rfl rfl ?_
    refine XN ?_
    refine thenJ_normal ?_
    refine H_ret ?_
    exact ret1 (v := .int _ _) rfl rfl rfl fun w' hw => ⟨by unfold homeE; rw [if_neg hk'], hw.1⟩
theorem rhome0_w (k : Int) (w : World) : Calls Tryz.prog 14 #[.agg r0C.toArray, .int .i64 k] w fun e w' => e = .returned (.int .i64 0) ∧ Bel w w' := by
  refine H_enter Tryz.func14 rfl Tryz.ntmps14 rfl ?_
  refine H_seq ?_
  refine R0 ?_
  refine X_box (v := .agg _) rfl rfl fun b2 => ?_
  refine xV (e_as (v := .int _ _) (q0 rfl)) rfl rfl ?_
  refine XN ?_
  refine thenJ_normal ?_
  refine H_seq ?_
  refine H_seq ?_
  refine R0 ?_
  refine xV (e_mv (v := .int _ _) (q0 rfl)) rfl rfl ?_
  refine xV (e_lt (q0 rfl) (q0 rfl)) rfl rfl ?_
  refine xV (e_mv (v := .bool _) (q0 rfl)) rfl rfl ?_
  refine xVF (e_mv (v := .int _ _) (q0 rfl)) rfl rfl rfl rfl ?_
  refine xVF (e_ge (q1 rfl) (q0 rfl)) rfl rfl rfl rfl ?_
  refine xV (e_or (q0 rfl) rfl (fun h => by first | rfl | (rw [h]; rfl))) rfl rfl ?_
  refine xV (e_mv (v := .bool _) (q0 rfl)) rfl rfl ?_
  refine xVF (e_fld Tryz.underlying44 rfl Tryz.sizeOf3 rfl (q0 rfl)) rfl rfl rfl rfl ?_
  refine xVF (eL Tryz.isAgg3 (q1 rfl)) rfl rfl rfl rfl ?_
  refine xVF (e_lt (q1 rfl) (q0 rfl)) rfl rfl rfl rfl ?_
  refine xV (e_or (q0 rfl) rfl (fun h => by first | rfl | (rw [h]; rfl))) rfl rfl ?_
  refine XN ?_
  refine thenJ_normal ?_
  refine H_cond rfl (fun hk => ?_) (fun hk => ?_)
  · refine H_seq ?_
    refine R0 ?_
    refine xV (e_as (v := .int _ _) (q0 rfl)) rfl rfl ?_
    refine XN ?_
    refine thenJ_normal ?_
    refine H_ret ?_
    refine thenJ_ret ?_
    exact ret1 (v := .int _ _) rfl rfl rfl fun w' hw => ⟨rfl, hw.1⟩
  · exfalso
    simp at hk
def fewB (fa : FA) (a : PrA) : Bool := decide ((0 : Int) ≤ 40) && decide ((a.p.n : Int) ≤ 20) && decide ((a.t.n : Int) ≤ 20) && decide ((a.pl.n : Int) ≤ 80) && decide ((a.d.n : Int) ≤ 40) && decide ((a.f.n : Int) ≤ 600) && decide ((fa.dn : Int) ≤ 40) && decide ((fa.tn : Int) ≤ 20)
def cityC (f : Fl) (fa : FA) (p : Pr) (a : PrA) (k : Int) : List Value := [.int .i64 f.bikes, .int .i64 f.riders, .int .i64 f.devices, .slice fa.dA fa.dn fa.dc, .slice fa.tA fa.tn fa.tc, .slice a.t.A a.t.n a.t.c, .slice a.p.A a.p.n a.p.c, .slice a.pl.A a.pl.n a.pl.c, .slice a.d.A a.d.n a.d.c, .int .i64 p.cap, .slice a.f.A a.f.n a.f.c, .int .i64 p.days, .int .i64 k]
set_option maxRecDepth 20000 in
theorem few_w (f : Fl) (fa : FA) (p : Pr) (a : PrA) (k : Int) (w : World) : Calls Tryz.prog 9 #[.agg (cityC f fa p a k).toArray, .slice none 0 0] w fun e w' => e = .returned (.bool (fewB fa a)) ∧ Bel w w' := by
  refine H_enter Tryz.func9 rfl Tryz.ntmps9 rfl ?_
  refine H_seq ?_
  refine R0 ?_
  refine X_box (v := .agg _) rfl rfl fun b2 => ?_
  refine xV (e_as (v := .bool _) (q0 rfl)) rfl rfl ?_
  refine XN ?_
  refine thenJ_normal ?_
  refine H_seq ?_
  refine R0 ?_
  refine xV (e_fld Tryz.underlying30 rfl Tryz.sizeOf28 rfl (q0 rfl)) rfl rfl ?_
  refine xV (eP Tryz.isAgg28 Tryz.sizeOf28 (q0 rfl)) rfl rfl ?_
  refine X_alloc Tryz.zeroValue28 rfl fun b5 => ?_
  refine X_st (v := .agg _) rfl rfl Tryz.sizeOf28 ?_
  refine XN ?_
  refine thenJ_normal ?_
  refine H_seq ?_
  refine R0 ?_
  refine xV (e_mv (v := .slice _ _ _) (q0 rfl)) rfl rfl ?_
  refine xV (e_len Tryz.underlying54 (q0 rfl)) rfl rfl ?_
  refine xV (e_le (q0 rfl) (q0 rfl)) rfl rfl ?_
  refine xV (e_mv (v := .bool _) (q0 rfl)) rfl rfl ?_
  refine xVT (e_fld Tryz.underlying28 rfl Tryz.sizeOf26 rfl (q0 rfl)) rfl rfl rfl rfl ?_
  refine xVT (eL Tryz.isAgg26 (q1 rfl)) rfl rfl rfl rfl ?_
  refine xVT (e_len Tryz.underlying26 (q1 rfl)) rfl rfl rfl rfl ?_
  refine xVT (e_le (q1 rfl) (q0 rfl)) rfl rfl rfl rfl ?_
  refine xV (e_and (q0 rfl) rfl (fun h => by first | rfl | (rw [h]; rfl))) rfl rfl ?_
  refine xV (e_mv (v := .bool _) (q0 rfl)) rfl rfl ?_
  refine xVT (e_fld Tryz.underlying28 rfl Tryz.sizeOf25 rfl (q0 rfl)) rfl rfl rfl rfl ?_
  refine xVT (eL Tryz.isAgg25 (q1 rfl)) rfl rfl rfl rfl ?_
  refine xVT (e_len Tryz.underlying25 (q1 rfl)) rfl rfl rfl rfl ?_
  refine xVT (e_le (q1 rfl) (q0 rfl)) rfl rfl rfl rfl ?_
  refine xV (e_and (q0 rfl) rfl (fun h => by first | rfl | (rw [h]; rfl))) rfl rfl ?_
  refine xV (e_mv (v := .bool _) (q0 rfl)) rfl rfl ?_
  refine xVT (e_fld Tryz.underlying28 rfl Tryz.sizeOf22 rfl (q0 rfl)) rfl rfl rfl rfl ?_
  refine xVT (eL Tryz.isAgg22 (q1 rfl)) rfl rfl rfl rfl ?_
  refine xVT (e_len Tryz.underlying22 (q1 rfl)) rfl rfl rfl rfl ?_
  refine xVT (e_le (q1 rfl) (q0 rfl)) rfl rfl rfl rfl ?_
  refine xV (e_and (q0 rfl) rfl (fun h => by first | rfl | (rw [h]; rfl))) rfl rfl ?_
  refine xV (e_mv (v := .bool _) (q0 rfl)) rfl rfl ?_
  refine xVT (e_fld Tryz.underlying28 rfl Tryz.sizeOf22 rfl (q0 rfl)) rfl rfl rfl rfl ?_
  refine xVT (eL Tryz.isAgg22 (q1 rfl)) rfl rfl rfl rfl ?_
  refine xVT (e_len Tryz.underlying22 (q1 rfl)) rfl rfl rfl rfl ?_
  refine xVT (e_le (q1 rfl) (q0 rfl)) rfl rfl rfl rfl ?_
  refine xV (e_and (q0 rfl) rfl (fun h => by first | rfl | (rw [h]; rfl))) rfl rfl ?_
  refine xV (e_mv (v := .bool _) (q0 rfl)) rfl rfl ?_
  refine xVT (e_fld Tryz.underlying28 rfl Tryz.sizeOf22 rfl (q0 rfl)) rfl rfl rfl rfl ?_
  refine xVT (eL Tryz.isAgg22 (q1 rfl)) rfl rfl rfl rfl ?_
  refine xVT (e_len Tryz.underlying22 (q1 rfl)) rfl rfl rfl rfl ?_
  refine xVT (e_le (q1 rfl) (q0 rfl)) rfl rfl rfl rfl ?_
  refine xV (e_and (q0 rfl) rfl (fun h => by first | rfl | (rw [h]; rfl))) rfl rfl ?_
  refine xV (e_mv (v := .bool _) (q0 rfl)) rfl rfl ?_
  refine xVT (e_fld Tryz.underlying30 rfl Tryz.sizeOf24 rfl (q0 rfl)) rfl rfl rfl rfl ?_
  refine xVT (e_fld Tryz.underlying24 rfl Tryz.sizeOf22 rfl (q1 rfl)) rfl rfl rfl rfl ?_
  refine xVT (eL Tryz.isAgg22 (q1 rfl)) rfl rfl rfl rfl ?_
  refine xVT (e_len Tryz.underlying22 (q1 rfl)) rfl rfl rfl rfl ?_
  refine xVT (e_le (q1 rfl) (q0 rfl)) rfl rfl rfl rfl ?_
  refine xV (e_and (q0 rfl) rfl (fun h => by first | rfl | (rw [h]; rfl))) rfl rfl ?_
  refine xV (e_mv (v := .bool _) (q0 rfl)) rfl rfl ?_
  refine xVT (e_fld Tryz.underlying30 rfl Tryz.sizeOf24 rfl (q0 rfl)) rfl rfl rfl rfl ?_
  refine xVT (e_fld Tryz.underlying24 rfl Tryz.sizeOf22 rfl (q1 rfl)) rfl rfl rfl rfl ?_
  refine xVT (eL Tryz.isAgg22 (q1 rfl)) rfl rfl rfl rfl ?_
  refine xVT (e_len Tryz.underlying22 (q1 rfl)) rfl rfl rfl rfl ?_
  refine xVT (e_le (q1 rfl) (q0 rfl)) rfl rfl rfl rfl ?_
  refine xV (e_and (q0 rfl) rfl (fun h => by first | rfl | (rw [h]; rfl))) rfl rfl ?_
  refine xV (e_as (v := .bool _) (q0 rfl)) rfl rfl ?_
  refine XN ?_
  refine thenJ_normal ?_
  refine H_ret ?_
  exact ret1 (v := .bool _) rfl rfl rfl fun w' hw => ⟨rfl, hw.1⟩
end Go.Proofs.Hom

/-
  The walks: the law on homes.
-/
namespace Go.Proofs.Hom
open Go Go.RowKit Go.Proofs.E Go.Proofs.Cus Go.Proofs.Far

theorem fewB_ok {fa : FA} {a : PrA} (h : fewB fa a = true) : fa.dn ≤ 100000 ∧ fa.tn ≤ 100000 ∧ PrN a := by
  simp only [fewB, Bool.and_eq_true, decide_eq_true_eq] at h
  exact ⟨by omega, by omega, ⟨by omega, by omega, by omega, by omega, by omega⟩⟩
set_option maxRecDepth 20000 in
theorem homesMany_w (f : Fl) (fa : FA) (p : Pr) (a : PrA) (k rider server : Int) (w : World) (hb : fewB fa a = false) : Calls Tryz.prog 3 #[.agg (cityC f fa p a k).toArray, .int .i64 rider, .int .i64 server] w fun e w' => e = .returned (.bool true) ∧ Bel w w' := by
  refine H_enter Tryz.func3 rfl Tryz.ntmps3 rfl ?_
  refine H_seq ?_
  refine R0 ?_
  refine X_box (v := .agg _) rfl rfl fun b3 => ?_
  refine xV (e_as (v := .bool _) (q0 rfl)) rfl rfl ?_
  refine XN ?_
  refine thenJ_normal ?_
  refine H_seq ?_
  refine H_seq ?_
  refine R0 ?_
  refine xV (eS Tryz.isAgg30 Tryz.sizeOf30 (q0 rfl)) rfl rfl ?_
  refine xC (en Tryz.call9 (ha2 (q0 rfl) (q0 rfl))) (fun _ w _ => few_w f fa p a k w) rfl rfl ?_
  refine xV (e_not (q0 rfl)) rfl rfl ?_
  refine XN ?_
  refine thenJ_normal ?_
  refine H_cond rfl (fun hq => ?_) (fun hq => ?_)
  · refine H_seq ?_
    refine R0 ?_
    refine xC (en Tryz.call10 (ha0)) (fun _ w _ => Go.Proofs.O.awake_w w) rfl rfl ?_
    refine xV (e_as (v := .bool _) (q0 rfl)) rfl rfl ?_
    refine XN ?_
    refine thenJ_normal ?_
    refine H_ret ?_
    refine thenJ_ret ?_
    exact ret1 (v := .bool _) rfl rfl rfl fun w' hw => ⟨rfl, hw.1⟩
  · exfalso
    rw [hb] at hq
    cases hq
set_option maxRecDepth 20000 in
set_option maxHeartbeats 2000000 in
theorem homesBad_w (f : Fl) (fa : FA) (p : Pr) (a : PrA) (k rider server : Int) (w : World) (hf : FlAt w f fa) (hp : PrAt w p a) (hb : fewB fa a = true) (hz : netErr f p k ≠ 0) : Calls Tryz.prog 3 #[.agg (cityC f fa p a k).toArray, .int .i64 rider, .int .i64 server] w fun e w' => e = .returned (.bool true) ∧ Bel w w' := by
  refine H_enter Tryz.func3 rfl Tryz.ntmps3 rfl ?_
  refine H_seq ?_
  refine R0 ?_
  refine X_box (v := .agg _) rfl rfl fun b3 => ?_
  refine xV (e_as (v := .bool _) (q0 rfl)) rfl rfl ?_
  refine XN ?_
  refine thenJ_normal ?_
  refine H_seq ?_
  refine H_seq ?_
  refine R0 ?_
  refine xV (eS Tryz.isAgg30 Tryz.sizeOf30 (q0 rfl)) rfl rfl ?_
  refine xC (en Tryz.call9 (ha2 (q0 rfl) (q0 rfl))) (fun _ w _ => few_w f fa p a k w) rfl rfl ?_
  refine xV (e_not (q0 rfl)) rfl rfl ?_
  refine XN ?_
  refine thenJ_normal ?_
  refine H_cond rfl (fun hq => ?_) (fun hq => ?_)
  · exfalso
    rw [hb] at hq
    cases hq
  · refine H_skip ?_
    refine thenJ_normal ?_
    refine H_seq ?_
    refine R0 ?_
    refine xV (e_fld Tryz.underlying30 rfl Tryz.sizeOf24 rfl (q0 rfl)) rfl rfl ?_
    refine xV (eP Tryz.isAgg24 Tryz.sizeOf24 (q0 rfl)) rfl rfl ?_
    refine xV (e_fld Tryz.underlying30 rfl Tryz.sizeOf28 rfl (q0 rfl)) rfl rfl ?_
    refine xV (eP Tryz.isAgg28 Tryz.sizeOf28 (q0 rfl)) rfl rfl ?_
    refine xV (e_fld Tryz.underlying30 rfl Tryz.sizeOf3 rfl (q0 rfl)) rfl rfl ?_
    refine xV (eL Tryz.isAgg3 (q0 rfl)) rfl rfl ?_
    refine xC (en Tryz.call11 (ha3 (q0 rfl) (q0 rfl) (q0 rfl))) (fun _ w hw => newBad_w f fa p a k w (hf.mem hw) (hp.mem hw) hz) rfl rfl ?_
    refine xV (e_mv (q0 rfl)) rfl rfl ?_
    refine xV (e_ext (q0 rfl) rfl) rfl rfl ?_
    refine xV (e_ext (q0 rfl) rfl) rfl rfl ?_
    refine xV (e_as (v := .pointer _) (q0 rfl)) rfl rfl ?_
    refine xV (e_as (v := .int _ _) (q0 rfl)) rfl rfl ?_
    refine XN ?_
    refine thenJ_normal ?_
    refine H_seq ?_
    refine R0 ?_
    refine xV (e_fld Tryz.underlying30 rfl Tryz.sizeOf24 rfl (q0 rfl)) rfl rfl ?_
    refine xV (eP Tryz.isAgg24 Tryz.sizeOf24 (q0 rfl)) rfl rfl ?_
    refine xV (e_fld Tryz.underlying30 rfl Tryz.sizeOf28 rfl (q0 rfl)) rfl rfl ?_
    refine xV (eP Tryz.isAgg28 Tryz.sizeOf28 (q0 rfl)) rfl rfl ?_
    refine xV (e_fld Tryz.underlying30 rfl Tryz.sizeOf3 rfl (q0 rfl)) rfl rfl ?_
    refine xV (eL Tryz.isAgg3 (q0 rfl)) rfl rfl ?_
    refine xC (en Tryz.call12 (ha3 (q0 rfl) (q0 rfl) (q0 rfl))) (fun _ w hw => rnewBad_w f fa p a k w (hf.mem hw) (hp.mem hw) hz) rfl rfl ?_
    refine xV (e_mv (q0 rfl)) rfl rfl ?_
    refine xV (e_ext (q0 rfl) rfl) rfl rfl ?_
    refine xV (e_ext (q0 rfl) rfl) rfl rfl ?_
    refine X_alloc Tryz.zeroValue44 rfl fun b9 => ?_
    refine X_st (v := .agg _) rfl rfl Tryz.sizeOf44 ?_
    refine xV (e_as (v := .int _ _) (q0 rfl)) rfl rfl ?_
    refine XN ?_
    refine thenJ_normal ?_
    refine H_seq ?_
    refine H_seq ?_
    refine H_mem (L' := [box b9 44 r0C, box b3 30 (cityC f fa p a k)]) (fun w hw => by
        have hw : Mem _ [box b9 44 (setAt r0C 0 r0C), box b3 30 (cityC f fa p a k)] w := hw
        rwa [setAt_all (cs := r0C) (vs := r0C) rfl] at hw) rfl ?_
    refine R0 ?_
    refine xV (e_mv (v := .int _ _) (q0 rfl)) rfl rfl ?_
    refine xV (e_mv (v := .int _ _) (q0 rfl)) rfl rfl ?_
    refine xV (e_ne (q0 rfl) (q0 rfl)) rfl rfl ?_
    refine xV (e_mv (v := .bool _) (q0 rfl)) rfl rfl ?_
    refine xVF (e_mv (v := .pointer _) (q0 rfl)) rfl rfl rfl rfl ?_
    refine xVF (e_eqNilP Tryz.underlying33 (q1 rfl)) rfl rfl rfl rfl ?_
    refine xVF (e_mv (v := .int _ _) (q0 rfl)) rfl rfl rfl rfl ?_
    refine xVF (e_ne (q1 rfl) (q0 rfl)) rfl rfl rfl rfl ?_
    refine xVF (e_neb Tryz.underlying4 (q1 rfl) (q1 rfl)) rfl rfl rfl rfl ?_
    refine xV (e_or (q0 rfl) rfl (fun h => by first | rfl | (rw [h]; rfl))) rfl rfl ?_
    refine XN ?_
    refine thenJ_normal ?_
    refine H_cond rfl (fun hh => ?_) (fun hh => ?_)
    · exfalso
      simp [hz] at hh
    · refine H_skip ?_
      refine thenJ_normal ?_
      refine H_seq ?_
      refine R1 rfl (by decide +kernel) ?_
      refine xV (e_mv (v := .pointer _) (q0 rfl)) rfl rfl ?_
      refine xV (e_mv (v := .int _ _) (q0 rfl)) rfl rfl ?_
      refine xC (en Tryz.call13 (ha2 (q0 rfl) (q0 rfl))) (fun _ w _ => homeNil_w rider w) rfl rfl ?_
      refine xV (eS Tryz.isAgg44 Tryz.sizeOf44 (q0 rfl)) rfl rfl ?_
      refine xV (e_mv (v := .int _ _) (q0 rfl)) rfl rfl ?_
      refine xC (en Tryz.call14 (ha2 (q0 rfl) (q0 rfl))) (fun _ w _ => rhome0_w rider w) rfl rfl ?_
      refine xV (e_eq (q0 rfl) (q0 rfl)) rfl rfl ?_
      refine xV (e_mv (v := .bool _) (q0 rfl)) rfl rfl ?_
      refine xVT (e_mv (v := .pointer _) (q0 rfl)) rfl rfl rfl rfl ?_
      refine xVT (e_mv (v := .int _ _) (q0 rfl)) rfl rfl rfl rfl ?_
      refine xCT (en Tryz.call15 (ha2 (q1 (v := .pointer _) rfl) (q1 (v := .int _ _) rfl))) (fun _ w _ => Nil.events_w server w) rfl rfl rfl rfl ?_
      refine xVT (e_len Tryz.underlying49 (q1 rfl)) rfl rfl rfl rfl ?_
      refine xVT (e_eq (q1 rfl) (q0 rfl)) rfl rfl rfl rfl ?_
      refine xV (e_and (q0 rfl) rfl (fun h => by first | rfl | (rw [h]; rfl))) rfl rfl ?_
      refine xV (e_mv (v := .bool _) (q0 rfl)) rfl rfl ?_
      refine xVT (e_mv (v := .pointer _) (q0 rfl)) rfl rfl rfl rfl ?_
      refine xVT (e_mv (v := .int _ _) (q0 rfl)) rfl rfl rfl rfl ?_
      refine xCT (en Tryz.call16 (ha2 (q1 (v := .pointer _) rfl) (q1 (v := .int _ _) rfl))) (fun _ w _ => Nil.waiting_w server w) rfl rfl rfl rfl ?_
      refine xVT (e_len Tryz.underlying40 (q1 rfl)) rfl rfl rfl rfl ?_
      refine xVT (e_eq (q1 rfl) (q0 rfl)) rfl rfl rfl rfl ?_
      refine xV (e_and (q0 rfl) rfl (fun h => by first | rfl | (rw [h]; rfl))) rfl rfl ?_
      refine xV (e_mv (v := .bool _) (q0 rfl)) rfl rfl ?_
      refine xVT (e_mv (v := .pointer _) (q0 rfl)) rfl rfl rfl rfl ?_
      refine xCT (en Tryz.call17 (ha1 (q1 (v := .pointer _) rfl))) (fun _ w _ => Nil.bank_w w) rfl rfl rfl rfl ?_
      refine xVT (e_fv Tryz.underlying42 rfl Tryz.isAgg40 (q1 rfl) rfl) rfl rfl rfl rfl ?_
      refine xVT (e_len Tryz.underlying40 (q1 rfl)) rfl rfl rfl rfl ?_
      refine xVT (e_eq (q1 rfl) (q0 rfl)) rfl rfl rfl rfl ?_
      refine xV (e_and (q0 rfl) rfl (fun h => by first | rfl | (rw [h]; rfl))) rfl rfl ?_
      refine xV (e_mv (v := .bool _) (q0 rfl)) rfl rfl ?_
      refine xCT (en Tryz.call10 (ha0)) (fun _ w _ => Go.Proofs.O.awake_w w) rfl rfl rfl rfl ?_
      refine xV (e_and (q0 rfl) rfl (fun h => by first | rfl | (rw [h]; rfl))) rfl rfl ?_
      refine xV (e_as (v := .bool _) (q0 rfl)) rfl rfl ?_
      refine XN ?_
      refine thenJ_normal ?_
      refine H_ret ?_
      exact ret1 (v := .bool _) rfl rfl rfl fun w' hw => ⟨rfl, hw.1⟩
set_option maxRecDepth 20000 in
set_option maxHeartbeats 2000000 in
theorem homesOk_w (f : Fl) (fa : FA) (p : Pr) (a : PrA) (n : Nat) (rider server : Int) (w : World) (hf : FlAt w f fa) (hp : PrAt w p a) (hb : fewB fa a = true) (h0 : prErr f p = 0) (hn1 : 1 ≤ n) (hn8 : n ≤ 8) : Calls Tryz.prog 3 #[.agg (cityC f fa p a n).toArray, .int .i64 rider, .int .i64 server] w fun e w' => e = .returned (.bool true) ∧ Bel w w' := by
  obtain ⟨hd, ht, hn⟩ := fewB_ok hb
  refine H_enter Tryz.func3 rfl Tryz.ntmps3 rfl ?_
  refine H_seq ?_
  refine R0 ?_
  refine X_box (v := .agg _) rfl rfl fun b3 => ?_
  refine xV (e_as (v := .bool _) (q0 rfl)) rfl rfl ?_
  refine XN ?_
  refine thenJ_normal ?_
  refine H_seq ?_
  refine H_seq ?_
  refine R0 ?_
  refine xV (eS Tryz.isAgg30 Tryz.sizeOf30 (q0 rfl)) rfl rfl ?_
  refine xC (en Tryz.call9 (ha2 (q0 rfl) (q0 rfl))) (fun _ w _ => few_w f fa p a n w) rfl rfl ?_
  refine xV (e_not (q0 rfl)) rfl rfl ?_
  refine XN ?_
  refine thenJ_normal ?_
  refine H_cond rfl (fun hq => ?_) (fun hq => ?_)
  · exfalso
    rw [hb] at hq
    cases hq
  · refine H_skip ?_
    refine thenJ_normal ?_
    refine H_seq ?_
    refine R0 ?_
    refine xV (e_fld Tryz.underlying30 rfl Tryz.sizeOf24 rfl (q0 rfl)) rfl rfl ?_
    refine xV (eP Tryz.isAgg24 Tryz.sizeOf24 (q0 rfl)) rfl rfl ?_
    refine xV (e_fld Tryz.underlying30 rfl Tryz.sizeOf28 rfl (q0 rfl)) rfl rfl ?_
    refine xV (eP Tryz.isAgg28 Tryz.sizeOf28 (q0 rfl)) rfl rfl ?_
    refine xV (e_fld Tryz.underlying30 rfl Tryz.sizeOf3 rfl (q0 rfl)) rfl rfl ?_
    refine xV (eL Tryz.isAgg3 (q0 rfl)) rfl rfl ?_
    refine xCX (en Tryz.call11 (ha3 (q0 rfl) (q0 rfl) (q0 rfl))) (fun w hw => newOk_w f fa p a n w (hf.mem hw) (hp.mem hw) hd ht hn h0 hn1 hn8) rfl (fun _ => rfl) fun y => ?_
    refine xV (e_mv (q0 rfl)) rfl rfl ?_
    refine xV (e_ext (q0 rfl) rfl) rfl rfl ?_
    refine xV (e_ext (q0 rfl) rfl) rfl rfl ?_
    refine xV (e_as (v := .pointer _) (q0 rfl)) rfl rfl ?_
    refine xV (e_as (v := .int _ _) (q0 rfl)) rfl rfl ?_
    refine XN ?_
    refine thenJ_normal ?_
    refine H_seq ?_
    refine R0 ?_
    refine xV (e_fld Tryz.underlying30 rfl Tryz.sizeOf24 rfl (q0 rfl)) rfl rfl ?_
    refine xV (eP Tryz.isAgg24 Tryz.sizeOf24 (q0 rfl)) rfl rfl ?_
    refine xV (e_fld Tryz.underlying30 rfl Tryz.sizeOf28 rfl (q0 rfl)) rfl rfl ?_
    refine xV (eP Tryz.isAgg28 Tryz.sizeOf28 (q0 rfl)) rfl rfl ?_
    refine xV (e_fld Tryz.underlying30 rfl Tryz.sizeOf3 rfl (q0 rfl)) rfl rfl ?_
    refine xV (eL Tryz.isAgg3 (q0 rfl)) rfl rfl ?_
    refine xCX (en Tryz.call12 (ha3 (q0 rfl) (q0 rfl) (q0 rfl))) (fun w hw => rnewOk_w f fa p a n w (hf.mem hw) (hp.mem hw) h0 hn1 hn8) rfl (fun _ => rfl) fun z => ?_
    refine xV (e_mv (q0 rfl)) rfl rfl ?_
    refine xV (e_ext (q0 rfl) rfl) rfl rfl ?_
    refine xV (e_ext (q0 rfl) rfl) rfl rfl ?_
    refine X_alloc Tryz.zeroValue44 rfl fun b9 => ?_
    refine X_st (v := .agg _) rfl rfl Tryz.sizeOf44 ?_
    refine xV (e_as (v := .int _ _) (q0 rfl)) rfl rfl ?_
    refine XN ?_
    refine thenJ_normal ?_
    refine H_seq ?_
    refine H_seq ?_
    refine H_mem (L' := box b9 44 (rC f fa p a n z) :: (netL f p y.1 ++ [box b3 30 (cityC f fa p a n)])) (fun w hw => by
        have hw : Mem _ (box b9 44 (setAt r0C 0 (rC f fa p a n z)) :: (netL f p y.1 ++ [box b3 30 (cityC f fa p a n)])) w := hw
        rwa [setAt_all (cs := r0C) (vs := rC f fa p a n z) rfl] at hw) rfl ?_
    refine R0 ?_
    refine xV (e_mv (v := .int _ _) (q0 rfl)) rfl rfl ?_
    refine xV (e_mv (v := .int _ _) (q0 rfl)) rfl rfl ?_
    refine xV (e_ne (q0 rfl) (q0 rfl)) rfl rfl ?_
    refine xV (e_mv (v := .bool _) (q0 rfl)) rfl rfl ?_
    refine xVF (e_mv (v := .pointer _) (q0 rfl)) rfl rfl rfl rfl ?_
    refine xVF (e_eqNilP Tryz.underlying33 (q1 rfl)) rfl rfl rfl rfl ?_
    refine xVF (e_mv (v := .int _ _) (q0 rfl)) rfl rfl rfl rfl ?_
    refine xVF (e_ne (q1 rfl) (q0 rfl)) rfl rfl rfl rfl ?_
    refine xVF (e_neb Tryz.underlying4 (q1 rfl) (q1 rfl)) rfl rfl rfl rfl ?_
    refine xV (e_or (q0 rfl) rfl (fun h => by first | rfl | (rw [h]; rfl))) rfl rfl ?_
    refine XN ?_
    refine thenJ_normal ?_
    refine H_cond rfl (fun hh => ?_) (fun hh => ?_)
    · exfalso
      simp at hh
    · refine H_skip ?_
      refine thenJ_normal ?_
      refine H_seq ?_
      refine R1 rfl (by decide +kernel) ?_
      refine xV (e_mv (v := .pointer _) (q0 rfl)) rfl rfl ?_
      refine xV (e_mv (v := .int _ _) (q0 rfl)) rfl rfl ?_
      refine xC (en Tryz.call13 (ha2 (q0 rfl) (q0 rfl))) (fun _ w hw => home_w rider w (netAt_of hw.tail y.2.1 y.2.2 hn8) hn1 hn8) rfl rfl ?_
      refine xV (eS Tryz.isAgg44 Tryz.sizeOf44 (q0 rfl)) rfl rfl ?_
      refine xV (e_mv (v := .int _ _) (q0 rfl)) rfl rfl ?_
      refine xC (en Tryz.call14 (ha2 (q0 rfl) (q0 rfl))) (fun _ w _ => rhome_w _ _ _ _ _ _ _ _ _ _ _ _ _ _ _ _ _ n rider w hn1) rfl rfl ?_
      refine xV (e_eq (q0 rfl) (q0 rfl)) rfl rfl ?_
      refine xV (e_mv (v := .bool _) (q0 rfl)) rfl rfl ?_
      refine xVT (e_mv (v := .pointer _) (q0 rfl)) rfl rfl rfl rfl ?_
      refine xVT (e_mv (v := .int _ _) (q0 rfl)) rfl rfl rfl rfl ?_
      refine xCT (en Tryz.call15 (ha2 (q1 (v := .pointer _) rfl) (q1 (v := .int _ _) rfl))) (fun _ w hw => events_w server w (netAt_of hw.tail y.2.1 y.2.2 hn8) hn8) rfl rfl rfl rfl ?_
      refine xVT (e_len Tryz.underlying49 (q1 rfl)) rfl rfl rfl rfl ?_
      refine xVT (e_eq (q1 rfl) (q0 rfl)) rfl rfl rfl rfl ?_
      refine xV (e_and (q0 rfl) rfl (fun h => by first | rfl | (rw [h]; rfl))) rfl rfl ?_
      refine xV (e_mv (v := .bool _) (q0 rfl)) rfl rfl ?_
      refine xVT (e_mv (v := .pointer _) (q0 rfl)) rfl rfl rfl rfl ?_
      refine xVT (e_mv (v := .int _ _) (q0 rfl)) rfl rfl rfl rfl ?_
      refine xCT (en Tryz.call16 (ha2 (q1 (v := .pointer _) rfl) (q1 (v := .int _ _) rfl))) (fun _ w hw => waiting_w server w (netAt_of hw.tail y.2.1 y.2.2 hn8) hn8) rfl rfl rfl rfl ?_
      refine xVT (e_len Tryz.underlying40 (q1 rfl)) rfl rfl rfl rfl ?_
      refine xVT (e_eq (q1 rfl) (q0 rfl)) rfl rfl rfl rfl ?_
      refine xV (e_and (q0 rfl) rfl (fun h => by first | rfl | (rw [h]; rfl))) rfl rfl ?_
      refine xV (e_mv (v := .bool _) (q0 rfl)) rfl rfl ?_
      refine xVT (e_mv (v := .pointer _) (q0 rfl)) rfl rfl rfl rfl ?_
      refine xCT (en Tryz.call17 (ha1 (q1 (v := .pointer _) rfl))) (fun _ w hw => bank_w w (netAt_of hw.tail y.2.1 y.2.2 hn8)) rfl rfl rfl rfl ?_
      refine xVT (e_fv Tryz.underlying42 rfl Tryz.isAgg40 (q1 rfl) rfl) rfl rfl rfl rfl ?_
      refine xVT (e_len Tryz.underlying40 (q1 rfl)) rfl rfl rfl rfl ?_
      refine xVT (e_eq (q1 rfl) (q0 rfl)) rfl rfl rfl rfl ?_
      refine xV (e_and (q0 rfl) rfl (fun h => by first | rfl | (rw [h]; rfl))) rfl rfl ?_
      refine xV (e_mv (v := .bool _) (q0 rfl)) rfl rfl ?_
      refine xCT (en Tryz.call10 (ha0)) (fun _ w _ => Go.Proofs.O.awake_w w) rfl rfl rfl rfl ?_
      refine xV (e_and (q0 rfl) rfl (fun h => by first | rfl | (rw [h]; rfl))) rfl rfl ?_
      refine xV (e_as (v := .bool _) (q0 rfl)) rfl rfl ?_
      refine XN ?_
      refine thenJ_normal ?_
      refine H_ret ?_
      exact ret1 (v := .bool _) rfl rfl rfl fun w' hw => ⟨by simp, hw.1⟩
theorem homesLaw_w (f : Fl) (fa : FA) (p : Pr) (a : PrA) (k rider server : Int) (w : World) (hf : FlAt w f fa) (hp : PrAt w p a) : Calls Tryz.prog 3 #[.agg (cityC f fa p a k).toArray, .int .i64 rider, .int .i64 server] w fun e w' => e = .returned (.bool true) ∧ Bel w w' := by
  cases hb : fewB fa a with
  | false => exact homesMany_w f fa p a k rider server w hb
  | true =>
    by_cases hz : netErr f p k = 0
    · have h0 : prErr f p = 0 := by
        refine Classical.byContradiction fun hn => ?_
        unfold netErr at hz
        rw [if_pos hn] at hz
        exact hn hz
      have hk : ¬(k < 1 ∨ 8 < k) := fun hn => by
        unfold netErr at hz
        rw [if_neg (fun h => h h0), if_pos hn] at hz
        cases hz
      obtain ⟨n, rfl⟩ : ∃ n : Nat, k = n := ⟨k.toNat, by omega⟩
      exact homesOk_w f fa p a n rider server w hf hp hb h0 (by omega) (by omega)
    · exact homesBad_w f fa p a k rider server w hf hp hb hz
end Go.Proofs.Hom

/-
  The readings of a city among the arguments.
-/
namespace Go.Proofs.Hom
open Go Go.RowKit Go.Proofs.E Go.Proofs.Cus Go.Proofs.Far Go.ChangeShapes Go.WideShapes Go.ChangeAt

theorem cellsInt : Tryz.prog.cellsOf 3 = 1 := by kernel_rfl
theorem cellsInts : Tryz.prog.cellsOf 22 = 1 := by kernel_rfl
theorem cellsCt : Tryz.prog.cellsOf 30 = 13 := by kernel_rfl
structure Wn where
  lo : Int
  hi : Int
def Wn.cells (x : Wn) : List Value := [.int .i64 x.lo, .int .i64 x.hi]
section
variable {H : Type} {enc : TypeId × Value → H} {W : World} {sp : Nat → Bool} {held : Bool} {base : Nat} {v : Value} {d : DataW H} {ps : List MemPlace}
theorem rd_ints {fuel : Nat} {cs : List Value} {x : DataW H × List MemPlace} (h : DataW.trod enc Tryz.prog W 0 sp held fuel 22 cs = some x) : ∃ A n c xs, cs = [.slice A n c] ∧ IntsAt W A n xs := by
  obtain ⟨A, n, c, xs, rfl, hs, _, _, hx⟩ := rd_rows Tryz.underlying22 cellsInt (by decide) h
  obtain ⟨ys, hy, _⟩ := hs.recode (enc := encInt) (Q := fun _ => True) fun x hx' => by
    obtain ⟨_, f, y, ht⟩ := hx x hx'
    obtain ⟨m, rfl, _⟩ := rd_int Tryz.underlying3 ht
    exact ⟨m, rfl, trivial⟩
  exact ⟨A, n, c, ys, rfl, hy⟩
set_option maxRecDepth 100000 in
theorem rd_tf {fuel : Nat} {cs : List Value} {x : DataW H × List MemPlace} (hl : cs.length = 6) (h : DataW.trod enc Tryz.prog W 0 sp held fuel 144 cs = some x) : ∃ g : Tf, Tf.cells g = cs := by
  match cs, hl with
  | [c0, c1, c2, c3, c4, c5], _ =>
    obtain ⟨_, _, h0⟩ := rd_field Tryz.underlying144 h 0 rfl cellsInt
    obtain ⟨_, _, h1⟩ := rd_field Tryz.underlying144 h 1 rfl cellsInt
    obtain ⟨_, _, h2⟩ := rd_field Tryz.underlying144 h 2 rfl cellsInt
    obtain ⟨_, _, h3⟩ := rd_field Tryz.underlying144 h 3 rfl cellsInt
    obtain ⟨_, _, h4⟩ := rd_field Tryz.underlying144 h 4 rfl cellsInt
    obtain ⟨_, _, h5⟩ := rd_field Tryz.underlying144 h 5 rfl cellsInt
    obtain ⟨m0, e0, _⟩ := rd_int Tryz.underlying3 h0
    obtain ⟨m1, e1, _⟩ := rd_int Tryz.underlying3 h1
    obtain ⟨m2, e2, _⟩ := rd_int Tryz.underlying3 h2
    obtain ⟨m3, e3, _⟩ := rd_int Tryz.underlying3 h3
    obtain ⟨m4, e4, _⟩ := rd_int Tryz.underlying3 h4
    obtain ⟨m5, e5, _⟩ := rd_int Tryz.underlying3 h5
    simp at e0 e1 e2 e3 e4 e5
    subst e0 e1 e2 e3 e4 e5
    exact ⟨⟨m0, m1, m2, m3, m4, m5⟩, rfl⟩
theorem cells_tf : Tryz.prog.cellsOf 144 = 6 := by kernel_rfl
set_option maxRecDepth 100000 in
theorem rd_tfs {fuel : Nat} {cs : List Value} {x : DataW H × List MemPlace} (h : DataW.trod enc Tryz.prog W 0 sp held fuel 25 cs = some x) : ∃ A n c xs, cs = [.slice A n c] ∧ SlAt W 6 Tf.cells A n xs := by
  obtain ⟨A, n, c, xs, rfl, hs, _, _, hx⟩ := rd_rows Tryz.underlying25 cells_tf (by decide) h
  obtain ⟨ys, hy, _⟩ := hs.recode (enc := Tf.cells) (Q := fun _ => True) fun x hx' => by
    obtain ⟨hl, f, y, ht⟩ := hx x hx'
    obtain ⟨g, hg⟩ := rd_tf hl ht
    exact ⟨g, hg, trivial⟩
  exact ⟨A, n, c, ys, rfl, hy⟩
set_option maxRecDepth 100000 in
theorem rd_wn {fuel : Nat} {cs : List Value} {x : DataW H × List MemPlace} (hl : cs.length = 2) (h : DataW.trod enc Tryz.prog W 0 sp held fuel 153 cs = some x) : ∃ g : Wn, Wn.cells g = cs := by
  match cs, hl with
  | [c0, c1], _ =>
    obtain ⟨_, _, h0⟩ := rd_field Tryz.underlying153 h 0 rfl cellsInt
    obtain ⟨_, _, h1⟩ := rd_field Tryz.underlying153 h 1 rfl cellsInt
    obtain ⟨m0, e0, _⟩ := rd_int Tryz.underlying3 h0
    obtain ⟨m1, e1, _⟩ := rd_int Tryz.underlying3 h1
    simp at e0 e1
    subst e0 e1
    exact ⟨⟨m0, m1⟩, rfl⟩
theorem cellsWn : Tryz.prog.cellsOf 153 = 2 := by kernel_rfl
set_option maxRecDepth 100000 in
theorem rd_pas {fuel : Nat} {cs : List Value} {x : DataW H × List MemPlace} (hl : cs.length = 6) (h : DataW.trod enc Tryz.prog W 0 sp held fuel 155 cs = some x) : ∃ g : Pas, Pas.cells g = cs := by
  match cs, hl with
  | [c0, c1, c2, c3, c4, c5], _ =>
    obtain ⟨_, _, h0⟩ := rd_field Tryz.underlying155 h 0 rfl cellsInt
    obtain ⟨_, _, h1⟩ := rd_field Tryz.underlying155 h 1 rfl cellsInt
    obtain ⟨_, _, h2⟩ := rd_field Tryz.underlying155 h 2 rfl cellsWn
    obtain ⟨_, _, h3⟩ := rd_field Tryz.underlying155 h 3 rfl cellsInt
    obtain ⟨_, _, h4⟩ := rd_field Tryz.underlying155 h 4 rfl cellsInt
    obtain ⟨m0, e0, _⟩ := rd_int Tryz.underlying3 h0
    obtain ⟨m1, e1, _⟩ := rd_int Tryz.underlying3 h1
    obtain ⟨m3, e3, _⟩ := rd_int Tryz.underlying3 h3
    obtain ⟨m4, e4, _⟩ := rd_int Tryz.underlying3 h4
    obtain ⟨s2, e2⟩ := rd_wn (cs := [c2, c3]) rfl h2
    simp at e0 e1 e3 e4
    simp [Wn.cells] at e2
    obtain ⟨e2, e2'⟩ := e2
    subst e0 e1 e2 e2' e3 e4
    exact ⟨⟨m0, m1, s2.lo, s2.hi, m3, m4⟩, rfl⟩
theorem cells_pas : Tryz.prog.cellsOf 155 = 6 := by kernel_rfl
set_option maxRecDepth 100000 in
theorem rd_pass {fuel : Nat} {cs : List Value} {x : DataW H × List MemPlace} (h : DataW.trod enc Tryz.prog W 0 sp held fuel 26 cs = some x) : ∃ A n c xs, cs = [.slice A n c] ∧ SlAt W 6 Pas.cells A n xs := by
  obtain ⟨A, n, c, xs, rfl, hs, _, _, hx⟩ := rd_rows Tryz.underlying26 cells_pas (by decide) h
  obtain ⟨ys, hy, _⟩ := hs.recode (enc := Pas.cells) (Q := fun _ => True) fun x hx' => by
    obtain ⟨hl, f, y, ht⟩ := hx x hx'
    obtain ⟨g, hg⟩ := rd_pas hl ht
    exact ⟨g, hg, trivial⟩
  exact ⟨A, n, c, ys, rfl, hy⟩
theorem cellsTfs : Tryz.prog.cellsOf 25 = 1 := by kernel_rfl
theorem cellsPas : Tryz.prog.cellsOf 26 = 1 := by kernel_rfl
theorem cellsFl : Tryz.prog.cellsOf 24 = 5 := by kernel_rfl
theorem cellsPr : Tryz.prog.cellsOf 28 = 7 := by kernel_rfl
set_option maxRecDepth 100000 in
theorem rd_fl {fuel : Nat} {cs : List Value} {x : DataW H × List MemPlace} (hl : cs.length = 5) (h : DataW.trod enc Tryz.prog W 0 sp held fuel 24 cs = some x) : ∃ (f : Fl) (a : FA), f.cells a = cs ∧ FlAt W f a := by
  match cs, hl with
  | [c0, c1, c2, c3, c4], _ =>
    obtain ⟨_, _, h0⟩ := rd_field Tryz.underlying24 h 0 rfl cellsInt
    obtain ⟨_, _, h1⟩ := rd_field Tryz.underlying24 h 1 rfl cellsInt
    obtain ⟨_, _, h2⟩ := rd_field Tryz.underlying24 h 2 rfl cellsInt
    obtain ⟨_, _, h3⟩ := rd_field Tryz.underlying24 h 3 rfl cellsInts
    obtain ⟨_, _, h4⟩ := rd_field Tryz.underlying24 h 4 rfl cellsInts
    obtain ⟨m0, e0, _⟩ := rd_int Tryz.underlying3 h0
    obtain ⟨m1, e1, _⟩ := rd_int Tryz.underlying3 h1
    obtain ⟨m2, e2, _⟩ := rd_int Tryz.underlying3 h2
    obtain ⟨A3, n3, k3, x3, e3, hx3⟩ := rd_ints h3
    obtain ⟨A4, n4, k4, x4, e4, hx4⟩ := rd_ints h4
    simp at e0 e1 e2 e3 e4
    subst e0 e1 e2 e3 e4
    exact ⟨⟨m0, m1, m2, x3, x4⟩, ⟨A3, n3, k3, A4, n4, k4⟩, rfl, hx3, hx4⟩
set_option maxRecDepth 100000 in
theorem rd_pr {fuel : Nat} {cs : List Value} {x : DataW H × List MemPlace} (hl : cs.length = 7) (h : DataW.trod enc Tryz.prog W 0 sp held fuel 28 cs = some x) : ∃ (p : Pr) (a : PrA), p.cells a = cs ∧ PrAt W p a := by
  match cs, hl with
  | [c0, c1, c2, c3, c4, c5, c6], _ =>
    obtain ⟨_, _, h0⟩ := rd_field Tryz.underlying28 h 0 rfl cellsTfs
    obtain ⟨_, _, h1⟩ := rd_field Tryz.underlying28 h 1 rfl cellsPas
    obtain ⟨_, _, h2⟩ := rd_field Tryz.underlying28 h 2 rfl cellsInts
    obtain ⟨_, _, h3⟩ := rd_field Tryz.underlying28 h 3 rfl cellsInts
    obtain ⟨_, _, h4⟩ := rd_field Tryz.underlying28 h 4 rfl cellsInt
    obtain ⟨_, _, h5⟩ := rd_field Tryz.underlying28 h 5 rfl cellsInts
    obtain ⟨_, _, h6⟩ := rd_field Tryz.underlying28 h 6 rfl cellsInt
    obtain ⟨A0, n0, k0, x0, e0, hx0⟩ := rd_tfs h0
    obtain ⟨A1, n1, k1, x1, e1, hx1⟩ := rd_pass h1
    obtain ⟨A2, n2, k2, x2, e2, hx2⟩ := rd_ints h2
    obtain ⟨A3, n3, k3, x3, e3, hx3⟩ := rd_ints h3
    obtain ⟨A5, n5, k5, x5, e5, hx5⟩ := rd_ints h5
    obtain ⟨m4, e4, _⟩ := rd_int Tryz.underlying3 h4
    obtain ⟨m6, e6, _⟩ := rd_int Tryz.underlying3 h6
    simp at e0 e1 e2 e3 e4 e5 e6
    subst e0 e1 e2 e3 e4 e5 e6
    exact ⟨⟨x0, x1, x2, x3, m4, x5, m6⟩, ⟨⟨A0, n0, k0⟩, ⟨A1, n1, k1⟩, ⟨A2, n2, k2⟩, ⟨A3, n3, k3⟩, ⟨A5, n5, k5⟩⟩, rfl, hx0, hx1, hx2, hx3, hx5⟩
set_option maxRecDepth 100000 in
theorem open_city (hv : Value.okWide Tryz.prog W .any base 30 v) (h : DataW.Trod enc Tryz.prog W 0 sp held 30 v d ps) : ∃ (f : Fl) (a : FA) (p : Pr) (q : PrA) (k : Int), v = .agg (cityC f a p q k).toArray ∧ FlAt W f a ∧ PrAt W p q := by
  obtain ⟨cs, rfl, hsz⟩ := okWide_struct Tryz.underlying30 hv
  rw [cellsCt] at hsz
  obtain ⟨l⟩ := cs
  match l, hsz with
  | [c0, c1, c2, c3, c4, c5, c6, c7, c8, c9, c10, c11, c12], _ =>
    obtain ⟨_, hf⟩ := h
    obtain ⟨_, _, h0⟩ := rd_field Tryz.underlying30 hf 0 rfl cellsFl
    obtain ⟨_, _, h1⟩ := rd_field Tryz.underlying30 hf 1 rfl cellsPr
    obtain ⟨_, _, h2⟩ := rd_field Tryz.underlying30 hf 2 rfl cellsInt
    obtain ⟨f, a, e0, hf0⟩ := rd_fl (cs := [c0, c1, c2, c3, c4]) rfl h0
    obtain ⟨p, q, e1, hp0⟩ := rd_pr (cs := [c5, c6, c7, c8, c9, c10, c11]) rfl h1
    obtain ⟨m2, e2, _⟩ := rd_int Tryz.underlying3 h2
    refine ⟨f, a, p, q, m2, ?_, hf0, hp0⟩
    have e3 : cityC f a p q m2 = f.cells a ++ p.cells q ++ [.int .i64 m2] := rfl
    rw [e3, e0, e1, ← e2]; rfl
end
def zCity : Value := .agg #[.int .i64 0, .int .i64 0, .int .i64 0, .slice none 0 0, .slice none 0 0, .slice none 0 0, .slice none 0 0, .slice none 0 0, .slice none 0 0, .int .i64 0, .slice none 0 0, .int .i64 0, .int .i64 0]
end Go.Proofs.Hom
