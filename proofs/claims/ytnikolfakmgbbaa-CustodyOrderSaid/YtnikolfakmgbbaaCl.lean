/-
  The walks: the run over the events, whatever is told of them to whom.
-/
import Derived.Test.YtnikolfakmgbbaaCk
import Derived.Test.YtnikolfakmgbbaaSr
namespace Go.Proofs.Cus
open Go Go.RowKit Go.Proofs.E

/-- one who is told of each event: what it holds (z, at places x), what it makes of it -/
structure CbOK {σ τ : Type} (f : Fl) (a : FA) (n : Nat) (g : FuncId) (lb : List Value) (cb : σ → PS → Ev → Int → σ) (CI : σ → τ → List E.Item) (J : Nat → σ → Prop) : Prop where
  enter : ∀ args w, (callFunc g args).run Try.prog w = .ok (.enter g args) w
  run : ∀ {w0 : World} {L : List E.Item} {s : SA} {t : TS} {z : σ} {x : τ} {k : Nat} (e : Ev) (er : Int), marks L = [] → s.n = n → t.spots.length = n → n ≤ 1000 → FlAt w0 f a → k ≤ 10000 → J k z → ∀ w, Mem w0 (CI z x ++ (stL f a s t ++ L)) w →
    Calls Try.prog g (([.pointer (some ⟨s.sb, 0, none⟩), .agg e.cells.toArray, .int .i64 er] : List Value) ++ lb).toArray w fun r w' => ∃ x' : τ, r = .returned (.tuple #[]) ∧ Mem w0 (CI (cb z t.plain e er) x' ++ (stL f a s t ++ L)) w'
  keep : ∀ k z s e er, J k z → J (k + 1) (cb z s e er)
def CbIs {σ τ : Type} (f : Fl) (a : FA) (n : Nat) (o : Option (FuncId × List Value)) (cb : σ → PS → Ev → Int → σ) (CI : σ → τ → List E.Item) (J : Nat → σ → Prop) : Prop :=
  match o with
  | none => ∀ z s e er, cb z s e er = z
  | some gl => CbOK f a n gl.1 gl.2 cb CI J
def cbv : Option (FuncId × List Value) → Value
  | none => .nilFunc
  | some gl => .func (.func gl.1) #[] gl.2.toArray

theorem runErr_w (f : Fl) (a : FA) (A : Option Addr) (n c : Nat) (v : Value) (w : World) (hf : FlAt w f a) (he : flErr f ≠ 0) :
    Calls Try.prog 37 #[.agg (f.cells a).toArray, .slice A n c, v] w fun e w' => e = .returned (.tuple #[.pointer none, .int .i64 (flErr f)]) ∧ Bel w w' := by
  refine H_enter Try.func37 rfl Try.ntmps37 rfl ?_
  refine H_seq ?_
  refine R0 ?_
  refine X_box (v := .agg _) rfl rfl fun b3 => ?_
  refine xV (e_as (v := .pointer _) (q0 rfl)) rfl rfl ?_
  refine xV (e_as (v := .int _ _) (q0 rfl)) rfl rfl ?_
  refine XN ?_
  refine thenJ_normal ?_
  refine H_seq ?_
  refine H_seq ?_
  refine R0 ?_
  refine xV (e_lds Try.isAgg24 Try.sizeOf24 (q0 rfl) (by first | exact bxs 0 rfl | exact bxs 1 rfl | exact bxs 2 rfl | exact bxs 3 rfl | exact bxs 4 rfl | exact bxs 5 rfl | exact bxs 6 rfl | exact bxs 7 rfl | exact bxs 8 rfl | exact bxs 9 rfl | exact rcs ‹_› ‹_› | exact rrs 0 rfl ‹_› | exact rrs 1 rfl ‹_› | exact rrs 2 rfl ‹_› | exact rrs 3 rfl ‹_› | exact rrs 4 rfl ‹_› | exact rrs 5 rfl ‹_› | exact rrs 6 rfl ‹_› | exact rrs 7 rfl ‹_›) rfl) rfl rfl ?_
  refine xC (en Try.call42 (ha1 (q0 rfl))) (fun _ w hm => fleet_w f a w (hf.mem hm)) rfl rfl ?_
  refine xV (e_as (v := .int _ _) (q0 rfl)) rfl rfl ?_
  refine XN ?_
  refine thenJ_normal ?_
  refine H_seq ?_
  refine R0 ?_
  refine xV (e_mv (v := .int _ _) (q0 rfl)) rfl rfl ?_
  refine xV (e_ne (q0 rfl) (q0 rfl)) rfl rfl ?_
  refine XN ?_
  refine thenJ_normal ?_
  refine H_cond rfl (fun h => ?_) (fun h => ?_)
  · refine H_seq ?_
    refine R0 ?_
    refine xV (e_mv (v := .int _ _) (q0 rfl)) rfl rfl ?_
    refine xV (e_as (v := .pointer _) (q0 rfl)) rfl rfl ?_
    refine xV (e_as (v := .int _ _) (q0 rfl)) rfl rfl ?_
    refine XN ?_
    refine thenJ_normal ?_
    refine H_ret ?_
    refine thenJ_ret ?_
    exact ret2 (v := .pointer _) (x := .int _ _) rfl rfl rfl rfl fun w' hw => ⟨rfl, hw.1⟩
  · exact absurd (by simpa using h) he

set_option maxRecDepth 20000 in
theorem run_w {σ τ : Type} (f : Fl) (a : FA) (A : Option Addr) (n c nb : Nat) (xs : List Ev) (o : Option (FuncId × List Value)) (cb : σ → PS → Ev → Int → σ) (CI : σ → τ → List E.Item) (J : Nat → σ → Prop) (hcbs : CbIs f a nb o cb CI J) (hJn : ∀ k z, J k z → J (k + 1) z)
    {w0 w : World} {L : List E.Item} {z0 : σ} {x0 : τ} (hw : Mem w0 (CI z0 x0 ++ L) w) (hmL : marks L = []) (hmC : ∀ z x, marks (CI z x) = []) (hJ0 : J 0 z0) (hf : FlAt w0 f a) (hx : EvsAt w0 A n xs) (hn : n ≤ 10000) (hok : flErr f = 0) (hnb : f.bikes = nb)
    (hpl : ∀ e ∈ xs, -9223372036854775808 ≤ e.place ∧ e.place ≤ 9223372036854775807) :
    Calls Try.prog 37 #[.agg (f.cells a).toArray, .slice A n c, cbv o] w fun e w' => ∃ y : { y : SA × TS × τ // y.1.n = nb ∧ y.2.1.plain = (runR f cb (setOf xs) (beginP nb, z0)).1 }, e = .returned (.tuple #[.pointer (some ⟨y.1.1.sb, 0, none⟩), .int .i64 0]) ∧ Mem w0 (stL f a y.1.1 y.1.2.1 ++ (CI (runR f cb (setOf xs) (beginP nb, z0)).2 y.1.2.2 ++ L)) w' := by
  have hmk2 : ∀ z x, marks (CI z x ++ L) = [] := fun z x => by rw [marks_append, hmC, hmL]; rfl
  have hmk := hmL
  obtain ⟨hbk, -⟩ := flErr_ok hok
  have hys : ∀ e ∈ setOf xs, -9223372036854775808 ≤ e.place ∧ e.place ≤ 9223372036854775807 := fun e he => hpl e ((set_isSet xs).mem e |>.1 he).1
  have hylen := setOf_len xs
  have hxl := hx.1
  refine H_enterM hw (hmk2 _ _) Try.func37 rfl Try.ntmps37 rfl ?_
  refine H_seq ?_
  refine R0 ?_
  refine X_box (v := .agg _) rfl rfl fun b3 => ?_
  refine xV (e_as (v := .pointer _) (q0 rfl)) rfl rfl ?_
  refine xV (e_as (v := .int _ _) (q0 rfl)) rfl rfl ?_
  refine XN ?_
  refine thenJ_normal ?_
  refine H_seq ?_
  refine H_seq ?_
  refine R0 ?_
  refine xV (e_lds Try.isAgg24 Try.sizeOf24 (q0 rfl) (by first | exact bxs 0 rfl | exact bxs 1 rfl | exact bxs 2 rfl | exact bxs 3 rfl | exact bxs 4 rfl | exact bxs 5 rfl | exact bxs 6 rfl | exact bxs 7 rfl | exact bxs 8 rfl | exact bxs 9 rfl | exact rcs ‹_› ‹_› | exact rrs 0 rfl ‹_› | exact rrs 1 rfl ‹_› | exact rrs 2 rfl ‹_› | exact rrs 3 rfl ‹_› | exact rrs 4 rfl ‹_› | exact rrs 5 rfl ‹_› | exact rrs 6 rfl ‹_› | exact rrs 7 rfl ‹_›) rfl) rfl rfl ?_
  refine xC (en Try.call42 (ha1 (q0 rfl))) (fun _ w hm => fleet_w f a w (hf.mem hm)) rfl rfl ?_
  refine xV (e_as (v := .int _ _) (q0 rfl)) rfl rfl ?_
  refine XN ?_
  refine thenJ_normal ?_
  refine H_seq ?_
  refine R0 ?_
  refine xV (e_mv (v := .int _ _) (q0 rfl)) rfl rfl ?_
  refine xV (e_ne (q0 rfl) (q0 rfl)) rfl rfl ?_
  refine XN ?_
  refine thenJ_normal ?_
  refine H_cond rfl (fun h => ?_) (fun h => ?_)
  · exact absurd hok (by simpa using h)
  · refine H_skip ?_
    refine thenJ_normal ?_
    refine H_seq ?_
    refine R0 ?_
    refine xV (e_lds Try.isAgg24 Try.sizeOf24 (q0 rfl) (by first | exact bxs 0 rfl | exact bxs 1 rfl | exact bxs 2 rfl | exact bxs 3 rfl | exact bxs 4 rfl | exact bxs 5 rfl | exact bxs 6 rfl | exact bxs 7 rfl | exact bxs 8 rfl | exact bxs 9 rfl | exact rcs ‹_› ‹_› | exact rrs 0 rfl ‹_› | exact rrs 1 rfl ‹_› | exact rrs 2 rfl ‹_› | exact rrs 3 rfl ‹_› | exact rrs 4 rfl ‹_› | exact rrs 5 rfl ‹_› | exact rrs 6 rfl ‹_› | exact rrs 7 rfl ‹_›) rfl) rfl rfl ?_
    refine xCX (en Try.call68 (ha1 (q0 rfl))) (fun w hw => begin_w f a nb hnb (by omega) w) rfl (fun _ => rfl) fun s => ?_
    refine xV (e_as (v := .pointer _) (q0 rfl)) rfl rfl ?_
    refine XN ?_
    refine thenJ_normal ?_
    refine H_seq ?_
    refine H_seq ?_
    refine R0 ?_
    refine xV (e_mv (v := .slice _ _ _) (q0 rfl)) rfl rfl ?_
    refine xCX (en Try.call33 (ha1 (q0 rfl))) (fun w hw => set_w A n c xs w (hx.mem hw) hn) rfl (fun _ => rfl) fun Y => ?_
    refine xV (e_len Try.underlying25 (q0 rfl)) rfl rfl ?_
    refine xV (e_mv (v := .int _ _) (q0 rfl)) rfl rfl ?_
    refine XN ?_
    refine thenJ_normal ?_
    refine H_block ?_
    obtain ⟨s, hsn⟩ := s
    generalize hys0 : setOf xs = ys at *
    obtain ⟨R, hR⟩ : ∃ R : Nat → PS × σ, R = fun k => runR f cb (ys.take k) (beginP nb, z0) := ⟨_, rfl⟩
    have hR0 : R 0 = (beginP nb, z0) := by rw [hR]; rfl
    have hRn : R ys.length = runR f cb ys (beginP nb, z0) := by rw [hR]; simp only [List.take_length]
    have hRs : ∀ k e, ys[k]? = some e → R (k + 1) = tellR cb (R k).2 e (stepR f (R k).1 e) := fun k e he => by rw [hR]; exact runR_snoc ys _ k e he
    have hRI : ∀ k, PInv nb (R k).1 := fun k => by rw [hR]; exact runR_inv hnb _ _ (PInv.begin nb)
    clear hR
    refine H_loop [11, 12, 23, 24, 25, 26, 27, 28, 29, 30, 31, 32, 33, 34, 35, 36, 37, 38, 39, 40, 41, 42, 43, 44, 45, 46, 47, 48, 49, 50, 51, 52, 53, 54] (fun q : Nat × TS × τ => [(23, .int .i64 q.1)]) (fun q => evRow Y.1 Y.2 ys :: (stL f a s q.2.1 ++ (box b3 24 (f.cells a) :: (CI (R q.1).2 q.2.2 ++ L)))) (fun q => q.1 ≤ ys.length ∧ q.2.1.plain = (R q.1).1 ∧ J q.1 (R q.1).2) (fun q => ys.length - q.1) (0, beginT nb, x0) ⟨rfl, trivial⟩ (fun w hw => by show Mem w0 (evRow _ _ _ :: (stL f a s _ ++ (_ :: (CI (R 0).2 _ ++ L)))) w; rw [hR0]; exact hw) ((hmk2 _ _).trans (hmk2 _ _).symm) ⟨Nat.zero_le _, by rw [hR0]; rfl, by show J 0 (R 0).2; rw [hR0]; exact hJ0⟩ ?_
    rintro ⟨k, t, x⟩ g ⟨hk, htp, hJ⟩
    simp only at hk htp hJ
    refine H_seq ?_
    refine R0 ?_
    refine xV (e_lt (q0 rfl) (q0 rfl)) rfl rfl ?_
    refine XN ?_
    refine thenJ_normal ?_
    refine H_seq ?_
    refine H_cond rfl (fun hlt => ?_) (fun hlt => ?_)
    · have hlt' : k < ys.length := by simpa using hlt
      obtain ⟨e, he⟩ : ∃ e, ys[k]? = some e := ⟨_, List.getElem?_eq_getElem hlt'⟩
      have hRk := hRs k e he
      have hplc := hys e (List.mem_of_getElem? he)
      have hIk := hRI k
      rw [← htp] at hIk hRk
      have hlT : t.spots.length = s.n := by rw [hsn]; exact hIk.len
      refine H_know (fun w hw => rowT_at (j := 0) hw rfl (by omega)) fun ⟨b, hb4⟩ => ?_
      obtain ⟨Y1, Y2⟩ := Y
      simp only at hb4
      subst hb4
      obtain ⟨Y, hY⟩ : ∃ Y : Nat × Nat, Y.2 = Y2 := ⟨(0, Y2), rfl⟩
      rw [← hY]
      refine H_skip ?_
      refine thenJ_normal ?_
      refine H_seq ?_
      refine H_block ?_
      refine H_seq ?_
      refine R0 ?_
      refine xV (e_idx _ Try.underlying25 Try.sizeOf67 (q0 rfl) (q0 rfl) (fun _ => ⟨rfl, by omega⟩)) rfl rfl ?_
      refine xV (e_lds Try.isAgg67 Try.sizeOf67 (q0 rfl) (by first | exact bxs 0 rfl | exact bxs 1 rfl | exact bxs 2 rfl | exact bxs 3 rfl | exact bxs 4 rfl | exact bxs 5 rfl | exact bxs 6 rfl | exact bxs 7 rfl | exact bxs 8 rfl | exact bxs 9 rfl | exact rcs ‹_› ‹_› | exact rrs 0 rfl ‹_› | exact rrs 1 rfl ‹_› | exact rrs 2 rfl ‹_› | exact rrs 3 rfl ‹_› | exact rrs 4 rfl ‹_› | exact rrs 5 rfl ‹_› | exact rrs 6 rfl ‹_› | exact rrs 7 rfl ‹_›) rfl) rfl rfl ?_
      refine X_alloc Try.zeroValue67 rfl fun b11 => ?_
      (first | refine X_store 0 (v := .agg _) rfl rfl Try.sizeOf67 rfl rfl rfl rfl ?_ | refine X_store 1 (v := .agg _) rfl rfl Try.sizeOf67 rfl rfl rfl rfl ?_ | refine X_store 2 (v := .agg _) rfl rfl Try.sizeOf67 rfl rfl rfl rfl ?_ | refine X_store 3 (v := .agg _) rfl rfl Try.sizeOf67 rfl rfl rfl rfl ?_ | refine X_store 4 (v := .agg _) rfl rfl Try.sizeOf67 rfl rfl rfl rfl ?_ | refine X_store 5 (v := .agg _) rfl rfl Try.sizeOf67 rfl rfl rfl rfl ?_ | refine X_store 6 (v := .agg _) rfl rfl Try.sizeOf67 rfl rfl rfl rfl ?_ | refine X_store 7 (v := .agg _) rfl rfl Try.sizeOf67 rfl rfl rfl rfl ?_ | refine X_store 8 (v := .agg _) rfl rfl Try.sizeOf67 rfl rfl rfl rfl ?_)
      refine XN ?_
      refine thenJ_normal ?_
      refine H_seq ?_
      refine R0 ?_
      refine xV (e_lds Try.isAgg24 Try.sizeOf24 (q0 rfl) (by first | exact bxs 0 rfl | exact bxs 1 rfl | exact bxs 2 rfl | exact bxs 3 rfl | exact bxs 4 rfl | exact bxs 5 rfl | exact bxs 6 rfl | exact bxs 7 rfl | exact bxs 8 rfl | exact bxs 9 rfl | exact rcs ‹_› ‹_› | exact rrs 0 rfl ‹_› | exact rrs 1 rfl ‹_› | exact rrs 2 rfl ‹_› | exact rrs 3 rfl ‹_› | exact rrs 4 rfl ‹_› | exact rrs 5 rfl ‹_› | exact rrs 6 rfl ‹_› | exact rrs 7 rfl ‹_›) rfl) rfl rfl ?_
      refine xV (e_lds Try.isAgg67 Try.sizeOf67 (q0 rfl) (by first | exact bxs 0 rfl | exact bxs 1 rfl | exact bxs 2 rfl | exact bxs 3 rfl | exact bxs 4 rfl | exact bxs 5 rfl | exact bxs 6 rfl | exact bxs 7 rfl | exact bxs 8 rfl | exact bxs 9 rfl | exact rcs ‹_› ‹_› | exact rrs 0 rfl ‹_› | exact rrs 1 rfl ‹_› | exact rrs 2 rfl ‹_› | exact rrs 3 rfl ‹_› | exact rrs 4 rfl ‹_› | exact rrs 5 rfl ‹_› | exact rrs 6 rfl ‹_› | exact rrs 7 rfl ‹_›) rfl) rfl rfl ?_
      refine xC (en Try.call34 (ha2 (q0 rfl) (q0 rfl))) (fun _ w hm => check_w f a e w (hf.mem hm) hplc) rfl rfl ?_
      refine xV (e_as (v := .int _ _) (q0 rfl)) rfl rfl ?_
      refine XN ?_
      refine thenJ_normal ?_
      refine H_seq ?_
      refine H_seq ?_
      refine R0 ?_
      refine xV (e_mv (v := .int _ _) (q0 rfl)) rfl rfl ?_
      refine xV (e_eq (q0 rfl) (q0 rfl)) rfl rfl ?_
      refine xV (e_mv (v := .bool _) (q0 rfl)) rfl rfl ?_
      refine xVT (e_fld Try.underlying67 rfl Try.sizeOf3 rfl (q0 rfl)) rfl rfl rfl rfl ?_
      refine xVT (e_ld Try.isAgg3 (q1 rfl) (by first | exact bx 0 rfl rfl | exact bx 1 rfl rfl | exact bx 2 rfl rfl | exact bx 3 rfl rfl | exact bx 4 rfl rfl | exact bx 5 rfl rfl | exact bx 6 rfl rfl | exact bx 7 rfl rfl | exact bx 8 rfl rfl | exact bx 9 rfl rfl | exact rc ‹_› ‹_› rfl | exact rc0 ‹_› ‹_› rfl | exact xc ‹_› ‹_› | exact rr 0 rfl ‹_› rfl | exact rr0 0 rfl ‹_› rfl | exact rr 1 rfl ‹_› rfl | exact rr0 1 rfl ‹_› rfl | exact rr 2 rfl ‹_› rfl | exact rr0 2 rfl ‹_› rfl | exact rr 3 rfl ‹_› rfl | exact rr0 3 rfl ‹_› rfl | exact rr 4 rfl ‹_› rfl | exact rr0 4 rfl ‹_› rfl | exact rr 5 rfl ‹_› rfl | exact rr0 5 rfl ‹_› rfl | exact rr 6 rfl ‹_› rfl | exact rr0 6 rfl ‹_› rfl | exact rr 7 rfl ‹_› rfl | exact rr0 7 rfl ‹_› rfl)) rfl rfl rfl rfl ?_
      refine xVT (e_eq (q1 rfl) (q0 rfl)) rfl rfl rfl rfl ?_
      refine xV (e_and (q0 rfl) rfl (fun h => by first | rfl | (rw [h]; rfl))) rfl rfl ?_
      refine XN ?_
      refine thenJ_normal ?_
      refine H_cond rfl (fun hbeat => ?_) (fun hbeat => ?_)
      · have hb10 : evErr f e = 0 ∧ e.kind = 10 := by simpa using hbeat
        have hst : R (k + 1) = (t.plain, (R k).2) := by rw [hRk]; unfold stepR tellR; rw [if_pos hb10]
        refine H_exit ?_
        refine thenJ_exit ?_
        refine blockJ_hit ?_
        refine thenJ_normal ?_
        refine R0 ?_
        refine xV (e_add (q0 rfl) (q0 rfl) (fun _ => ⟨rfl, by omega, by omega⟩)) rfl rfl ?_
        refine xV (e_mv (v := .int _ _) (q0 rfl)) rfl rfl ?_
        refine XN ?_
        exact loopJ_normal (k + 1, t, x) (by repeat (first | exact agree_self | exact agree_over | refine agree_upd rfl ?_ | refine agree_updL rfl ?_ | refine agree_over2 rfl ?_)) ⟨rfl, trivial⟩ (fun w hw => by show Mem w0 (evRow _ _ _ :: (stL f a s _ ++ (_ :: (CI (R (k + 1)).2 _ ++ L)))) w; rw [hst]; exact hw.tail) ((hmk2 _ _).trans (hmk2 _ _).symm) ⟨by show k + 1 ≤ _; omega, by show t.plain = (R (k + 1)).1; rw [hst], by show J (k + 1) (R (k + 1)).2; rw [hst]; exact hJn k _ hJ⟩ (by show ys.length - (k + 1) < ys.length - k; omega)
      · have hb10 : ¬ (evErr f e = 0 ∧ e.kind = 10) := by simpa using hbeat
        refine H_skip ?_
        refine thenJ_normal ?_
        refine H_seq ?_
        refine H_seq ?_
        refine R0 ?_
        refine xV (e_mv (v := .int _ _) (q0 rfl)) rfl rfl ?_
        refine xV (e_eq (q0 rfl) (q0 rfl)) rfl rfl ?_
        refine XN ?_
        refine thenJ_normal ?_
        refine H_cond rfl (fun h0 => ?_) (fun h0 => ?_)
        · have h0' : evErr f e = 0 := by simpa using h0
          obtain ⟨_, hbike, hp7, _, _⟩ := evErr_ok h0'
          refine R0 ?_
          refine xV (e_mv (v := .pointer _) (q0 rfl)) rfl rfl ?_
          refine xV (e_lds Try.isAgg67 Try.sizeOf67 (q0 rfl) (by first | exact bxs 0 rfl | exact bxs 1 rfl | exact bxs 2 rfl | exact bxs 3 rfl | exact bxs 4 rfl | exact bxs 5 rfl | exact bxs 6 rfl | exact bxs 7 rfl | exact bxs 8 rfl | exact bxs 9 rfl | exact rcs ‹_› ‹_› | exact rrs 0 rfl ‹_› | exact rrs 1 rfl ‹_› | exact rrs 2 rfl ‹_› | exact rrs 3 rfl ‹_› | exact rrs 4 rfl ‹_› | exact rrs 5 rfl ‹_› | exact rrs 6 rfl ‹_› | exact rrs 7 rfl ‹_›) rfl) rfl rfl ?_
          refine xC (en Try.call69 (ha2 (q0 rfl) (q0 rfl))) (fun _ w hm => scheck_w (s := s) e w (stAt_of (s := s) (hf.mem hm) hlT (by omega) (Mem.rot (X := [_, _]) (S := stL f a s t) hm)) (by omega) hp7) rfl rfl ?_
          refine xV (e_as (v := .int _ _) (q0 rfl)) rfl rfl ?_
          refine XN ?_
          refine thenJ_normal ?_
          refine H_seq ?_
          refine H_seq ?_
          refine R0 ?_
          refine xV (e_mv (v := .int _ _) (q0 rfl)) rfl rfl ?_
          refine xV (e_eq (q0 rfl) (q0 rfl)) rfl rfl ?_
          refine XN ?_
          refine thenJ_normal ?_
          refine H_cond rfl (fun hc => ?_) (fun hc => ?_)
          · have hc' : checkP f.trucks t.plain e = 0 := by simpa using hc
            refine R0 ?_
            refine xV (e_mv (v := .pointer _) (q0 rfl)) rfl rfl ?_
            refine xV (e_lds Try.isAgg67 Try.sizeOf67 (q0 rfl) (by first | exact bxs 0 rfl | exact bxs 1 rfl | exact bxs 2 rfl | exact bxs 3 rfl | exact bxs 4 rfl | exact bxs 5 rfl | exact bxs 6 rfl | exact bxs 7 rfl | exact bxs 8 rfl | exact bxs 9 rfl | exact rcs ‹_› ‹_› | exact rrs 0 rfl ‹_› | exact rrs 1 rfl ‹_› | exact rrs 2 rfl ‹_› | exact rrs 3 rfl ‹_› | exact rrs 4 rfl ‹_› | exact rrs 5 rfl ‹_› | exact rrs 6 rfl ‹_› | exact rrs 7 rfl ‹_›) rfl) rfl rfl ?_
            refine X_eff (f_callM (en Try.call70 (ha2 (q0 rfl) (q0 rfl))) (fun w hw => do_w (s := s) e (Mem.rot (X := [_, _]) (S := stL f a s t) hw) (hmk2 _ _) (by rw [hsn]; exact hIk) (by omega) hc') rfl (fun _ => rfl) fun t2 => ?_)
            obtain ⟨t2, ht2⟩ := t2
            have hst : (R (k + 1)).1 = t2.plain ∧ (R (k + 1)).2 = cb (R k).2 t2.plain e 0 := by
              rw [hRk]; unfold stepR tellR; rw [if_neg hb10]; simp only; rw [if_pos h0', hc', if_pos rfl, ht2]; exact ⟨rfl, rfl⟩
            have hlT2 : t2.spots.length = s.n := by
              have := (hRI (k + 1)).len
              rw [hst.1] at this
              rw [hsn]; exact this
            refine XN ?_
            refine thenJ_normal ?_
            refine H_seq ?_
            refine H_mem (fun w hw => Mem.rot (X := stL f a s t2) (S := [_, _]) hw) rfl ?_
            rw [hc']
            cases o with
            | none =>
              refine R0 ?_
              refine xV (e_mv (q0 rfl)) rfl rfl ?_
              refine xV (e_neNilF0 Try.underlying76 (q0 rfl)) rfl rfl ?_
              refine XN ?_
              refine thenJ_normal ?_
              refine H_cond rfl (fun hcb => ?_) (fun hcb => ?_)
              · cases hcb
              · refine H_skip ?_
                refine blockJ_normal ?_
                refine thenJ_normal ?_
                refine R0 ?_
                refine xV (e_add (q0 rfl) (q0 rfl) (fun _ => ⟨rfl, by omega, by omega⟩)) rfl rfl ?_
                refine xV (e_mv (v := .int _ _) (q0 rfl)) rfl rfl ?_
                refine XN ?_
                have hz := hcbs (R k).2 t2.plain e 0
                exact loopJ_normal (k + 1, t2, x) (by repeat (first | exact agree_self | exact agree_over | refine agree_upd rfl ?_ | refine agree_updL rfl ?_ | refine agree_over2 rfl ?_)) ⟨rfl, trivial⟩ (fun w hw => by show Mem w0 (evRow _ _ _ :: (stL f a s t2 ++ (_ :: (CI (R (k + 1)).2 x ++ L)))) w; rw [hst.2, hz]; exact hw.tail) ((hmk2 _ _).trans (hmk2 _ _).symm) ⟨by show k + 1 ≤ _; omega, by show t2.plain = (R (k + 1)).1; rw [hst.1], by show J (k + 1) (R (k + 1)).2; rw [hst.2, hz]; exact hJn k _ hJ⟩ (by show ys.length - (k + 1) < ys.length - k; omega)
            | some gl =>
              have hcbr := hcbs.run (w0 := w0) (L := [box b11 67 e.cells, evRow (some ⟨b, 0, none⟩) Y.2 ys, box b3 24 (f.cells a)] ++ L) (s := s) (t := t2) (z := (R k).2) (x := x) (k := k) e 0 hmk hsn (by rw [← hsn]; exact hlT2) (by omega) hf (by omega) hJ
              refine R0 ?_
              refine xV (e_mv (q0 rfl)) rfl rfl ?_
              refine xV (e_neNilF Try.underlying76 (q0 rfl)) rfl rfl ?_
              refine XN ?_
              refine thenJ_normal ?_
              refine H_cond rfl (fun hcb => ?_) (fun hcb => ?_)
              · refine R0 ?_
                refine xV (e_mv (q0 rfl)) rfl rfl ?_
                refine xV (e_mv (v := .pointer _) (q0 rfl)) rfl rfl ?_
                refine xV (e_lds Try.isAgg67 Try.sizeOf67 (q0 rfl) (by first | exact bxs 0 rfl | exact bxs 1 rfl | exact bxs 2 rfl | exact bxs 3 rfl | exact bxs 4 rfl | exact bxs 5 rfl | exact bxs 6 rfl | exact bxs 7 rfl | exact bxs 8 rfl | exact bxs 9 rfl | exact rcs ‹_› ‹_› | exact rrs 0 rfl ‹_› | exact rrs 1 rfl ‹_› | exact rrs 2 rfl ‹_› | exact rrs 3 rfl ‹_› | exact rrs 4 rfl ‹_› | exact rrs 5 rfl ‹_› | exact rrs 6 rfl ‹_› | exact rrs 7 rfl ‹_›) rfl) rfl rfl ?_
                refine xV (e_mv (v := .int _ _) (q0 rfl)) rfl rfl ?_
                refine X_eff (f_callM (enV hcbs.enter (q0 rfl) (fun _ => rfl)) (fun w hw => (hcbr w (Mem.rot (X := [_, _, _, _, _, _, _]) (S := CI (R k).2 x) (Mem.rot (X := [_, _]) (S := stL f a s t2) hw))).mono fun _ _ ⟨x', h1, h2⟩ => ⟨x', h1, Mem.rot (X := stL f a s t2) (S := [_, _]) (Mem.rot (X := CI _ x') (S := [_, _, _, _, _, _, _]) h2)⟩) rfl (fun _ => (hmk2 _ _).trans (hmk2 _ _).symm) fun x' => ?_)
                refine XN ?_
                refine blockJ_normal ?_
                refine thenJ_normal ?_
                refine R0 ?_
                refine xV (e_add (q0 rfl) (q0 rfl) (fun _ => ⟨rfl, by omega, by omega⟩)) rfl rfl ?_
                refine xV (e_mv (v := .int _ _) (q0 rfl)) rfl rfl ?_
                refine XN ?_
                exact loopJ_normal (k + 1, t2, x') (by repeat (first | exact agree_self | exact agree_over | refine agree_upd rfl ?_ | refine agree_updL rfl ?_ | refine agree_over2 rfl ?_)) ⟨rfl, trivial⟩ (fun w hw => by show Mem w0 (evRow _ _ _ :: (stL f a s t2 ++ (_ :: (CI (R (k + 1)).2 x' ++ L)))) w; rw [hst.2]; exact hw.tail) ((hmk2 _ _).trans (hmk2 _ _).symm) ⟨by show k + 1 ≤ _; omega, by show t2.plain = (R (k + 1)).1; rw [hst.1], by show J (k + 1) (R (k + 1)).2; rw [hst.2]; exact hcbs.keep k _ _ _ _ hJ⟩ (by show ys.length - (k + 1) < ys.length - k; omega)
              · cases hcb
          · have hc' : ¬ checkP f.trucks t.plain e = 0 := by simpa using hc
            have hst : (R (k + 1)).1 = t.plain ∧ (R (k + 1)).2 = cb (R k).2 t.plain e (checkP f.trucks t.plain e) := by
              rw [hRk]; unfold stepR tellR; rw [if_neg hb10]; simp only; rw [if_pos h0', if_neg hc']; exact ⟨rfl, rfl⟩
            refine H_skip ?_
            refine thenJ_normal ?_
            refine H_seq ?_
            cases o with
            | none =>
              refine R0 ?_
              refine xV (e_mv (q0 rfl)) rfl rfl ?_
              refine xV (e_neNilF0 Try.underlying76 (q0 rfl)) rfl rfl ?_
              refine XN ?_
              refine thenJ_normal ?_
              refine H_cond rfl (fun hcb => ?_) (fun hcb => ?_)
              · cases hcb
              · refine H_skip ?_
                refine blockJ_normal ?_
                refine thenJ_normal ?_
                refine R0 ?_
                refine xV (e_add (q0 rfl) (q0 rfl) (fun _ => ⟨rfl, by omega, by omega⟩)) rfl rfl ?_
                refine xV (e_mv (v := .int _ _) (q0 rfl)) rfl rfl ?_
                refine XN ?_
                have hz := hcbs (R k).2 t.plain e (checkP f.trucks t.plain e)
                exact loopJ_normal (k + 1, t, x) (by repeat (first | exact agree_self | exact agree_over | refine agree_upd rfl ?_ | refine agree_updL rfl ?_ | refine agree_over2 rfl ?_)) ⟨rfl, trivial⟩ (fun w hw => by show Mem w0 (evRow _ _ _ :: (stL f a s t ++ (_ :: (CI (R (k + 1)).2 x ++ L)))) w; rw [hst.2, hz]; exact hw.tail) ((hmk2 _ _).trans (hmk2 _ _).symm) ⟨by show k + 1 ≤ _; omega, by show t.plain = (R (k + 1)).1; rw [hst.1], by show J (k + 1) (R (k + 1)).2; rw [hst.2, hz]; exact hJn k _ hJ⟩ (by show ys.length - (k + 1) < ys.length - k; omega)
            | some gl =>
              have hcbr := hcbs.run (w0 := w0) (L := [box b11 67 e.cells, evRow (some ⟨b, 0, none⟩) Y.2 ys, box b3 24 (f.cells a)] ++ L) (s := s) (t := t) (z := (R k).2) (x := x) (k := k) e (checkP f.trucks t.plain e) hmk hsn (by rw [← hsn]; exact hlT) (by omega) hf (by omega) hJ
              refine R0 ?_
              refine xV (e_mv (q0 rfl)) rfl rfl ?_
              refine xV (e_neNilF Try.underlying76 (q0 rfl)) rfl rfl ?_
              refine XN ?_
              refine thenJ_normal ?_
              refine H_cond rfl (fun hcb => ?_) (fun hcb => ?_)
              · refine R0 ?_
                refine xV (e_mv (q0 rfl)) rfl rfl ?_
                refine xV (e_mv (v := .pointer _) (q0 rfl)) rfl rfl ?_
                refine xV (e_lds Try.isAgg67 Try.sizeOf67 (q0 rfl) (by first | exact bxs 0 rfl | exact bxs 1 rfl | exact bxs 2 rfl | exact bxs 3 rfl | exact bxs 4 rfl | exact bxs 5 rfl | exact bxs 6 rfl | exact bxs 7 rfl | exact bxs 8 rfl | exact bxs 9 rfl | exact rcs ‹_› ‹_› | exact rrs 0 rfl ‹_› | exact rrs 1 rfl ‹_› | exact rrs 2 rfl ‹_› | exact rrs 3 rfl ‹_› | exact rrs 4 rfl ‹_› | exact rrs 5 rfl ‹_› | exact rrs 6 rfl ‹_› | exact rrs 7 rfl ‹_›) rfl) rfl rfl ?_
                refine xV (e_mv (v := .int _ _) (q0 rfl)) rfl rfl ?_
                refine X_eff (f_callM (enV hcbs.enter (q0 rfl) (fun _ => rfl)) (fun w hw => (hcbr w (Mem.rot (X := [_, _, _, _, _, _, _]) (S := CI (R k).2 x) (Mem.rot (X := [_, _]) (S := stL f a s t) hw))).mono fun _ _ ⟨x', h1, h2⟩ => ⟨x', h1, Mem.rot (X := stL f a s t) (S := [_, _]) (Mem.rot (X := CI _ x') (S := [_, _, _, _, _, _, _]) h2)⟩) rfl (fun _ => (hmk2 _ _).trans (hmk2 _ _).symm) fun x' => ?_)
                refine XN ?_
                refine blockJ_normal ?_
                refine thenJ_normal ?_
                refine R0 ?_
                refine xV (e_add (q0 rfl) (q0 rfl) (fun _ => ⟨rfl, by omega, by omega⟩)) rfl rfl ?_
                refine xV (e_mv (v := .int _ _) (q0 rfl)) rfl rfl ?_
                refine XN ?_
                exact loopJ_normal (k + 1, t, x') (by repeat (first | exact agree_self | exact agree_over | refine agree_upd rfl ?_ | refine agree_updL rfl ?_ | refine agree_over2 rfl ?_)) ⟨rfl, trivial⟩ (fun w hw => by show Mem w0 (evRow _ _ _ :: (stL f a s t ++ (_ :: (CI (R (k + 1)).2 x' ++ L)))) w; rw [hst.2]; exact hw.tail) ((hmk2 _ _).trans (hmk2 _ _).symm) ⟨by show k + 1 ≤ _; omega, by show t.plain = (R (k + 1)).1; rw [hst.1], by show J (k + 1) (R (k + 1)).2; rw [hst.2]; exact hcbs.keep k _ _ _ _ hJ⟩ (by show ys.length - (k + 1) < ys.length - k; omega)
              · cases hcb
        · have h0' : ¬ evErr f e = 0 := by simpa using h0
          have hst : (R (k + 1)).1 = t.plain ∧ (R (k + 1)).2 = cb (R k).2 t.plain e (evErr f e) := by
            rw [hRk]; unfold stepR tellR; rw [if_neg hb10]; simp only; rw [if_neg h0', if_neg h0']; exact ⟨rfl, rfl⟩
          refine H_skip ?_
          refine thenJ_normal ?_
          refine H_seq ?_
          refine H_seq ?_
          refine R0 ?_
          refine xV (e_mv (v := .int _ _) (q0 rfl)) rfl rfl ?_
          refine xV (e_eq (q0 rfl) (q0 rfl)) rfl rfl ?_
          refine XN ?_
          refine thenJ_normal ?_
          refine H_cond rfl (fun hc => ?_) (fun hc => ?_)
          · exact absurd (by simpa using hc) h0'
          · have _ht : True := trivial
            refine H_skip ?_
            refine thenJ_normal ?_
            refine H_seq ?_
            cases o with
            | none =>
              refine R0 ?_
              refine xV (e_mv (q0 rfl)) rfl rfl ?_
              refine xV (e_neNilF0 Try.underlying76 (q0 rfl)) rfl rfl ?_
              refine XN ?_
              refine thenJ_normal ?_
              refine H_cond rfl (fun hcb => ?_) (fun hcb => ?_)
              · cases hcb
              · refine H_skip ?_
                refine blockJ_normal ?_
                refine thenJ_normal ?_
                refine R0 ?_
                refine xV (e_add (q0 rfl) (q0 rfl) (fun _ => ⟨rfl, by omega, by omega⟩)) rfl rfl ?_
                refine xV (e_mv (v := .int _ _) (q0 rfl)) rfl rfl ?_
                refine XN ?_
                have hz := hcbs (R k).2 t.plain e (evErr f e)
                exact loopJ_normal (k + 1, t, x) (by repeat (first | exact agree_self | exact agree_over | refine agree_upd rfl ?_ | refine agree_updL rfl ?_ | refine agree_over2 rfl ?_)) ⟨rfl, trivial⟩ (fun w hw => by show Mem w0 (evRow _ _ _ :: (stL f a s t ++ (_ :: (CI (R (k + 1)).2 x ++ L)))) w; rw [hst.2, hz]; exact hw.tail) ((hmk2 _ _).trans (hmk2 _ _).symm) ⟨by show k + 1 ≤ _; omega, by show t.plain = (R (k + 1)).1; rw [hst.1], by show J (k + 1) (R (k + 1)).2; rw [hst.2, hz]; exact hJn k _ hJ⟩ (by show ys.length - (k + 1) < ys.length - k; omega)
            | some gl =>
              have hcbr := hcbs.run (w0 := w0) (L := [box b11 67 e.cells, evRow (some ⟨b, 0, none⟩) Y.2 ys, box b3 24 (f.cells a)] ++ L) (s := s) (t := t) (z := (R k).2) (x := x) (k := k) e (evErr f e) hmk hsn (by rw [← hsn]; exact hlT) (by omega) hf (by omega) hJ
              refine R0 ?_
              refine xV (e_mv (q0 rfl)) rfl rfl ?_
              refine xV (e_neNilF Try.underlying76 (q0 rfl)) rfl rfl ?_
              refine XN ?_
              refine thenJ_normal ?_
              refine H_cond rfl (fun hcb => ?_) (fun hcb => ?_)
              · refine R0 ?_
                refine xV (e_mv (q0 rfl)) rfl rfl ?_
                refine xV (e_mv (v := .pointer _) (q0 rfl)) rfl rfl ?_
                refine xV (e_lds Try.isAgg67 Try.sizeOf67 (q0 rfl) (by first | exact bxs 0 rfl | exact bxs 1 rfl | exact bxs 2 rfl | exact bxs 3 rfl | exact bxs 4 rfl | exact bxs 5 rfl | exact bxs 6 rfl | exact bxs 7 rfl | exact bxs 8 rfl | exact bxs 9 rfl | exact rcs ‹_› ‹_› | exact rrs 0 rfl ‹_› | exact rrs 1 rfl ‹_› | exact rrs 2 rfl ‹_› | exact rrs 3 rfl ‹_› | exact rrs 4 rfl ‹_› | exact rrs 5 rfl ‹_› | exact rrs 6 rfl ‹_› | exact rrs 7 rfl ‹_›) rfl) rfl rfl ?_
                refine xV (e_mv (v := .int _ _) (q0 rfl)) rfl rfl ?_
                refine X_eff (f_callM (enV hcbs.enter (q0 rfl) (fun _ => rfl)) (fun w hw => (hcbr w (Mem.rot (X := [_, _, _, _, _, _, _]) (S := CI (R k).2 x) (Mem.rot (X := [_, _]) (S := stL f a s t) hw))).mono fun _ _ ⟨x', h1, h2⟩ => ⟨x', h1, Mem.rot (X := stL f a s t) (S := [_, _]) (Mem.rot (X := CI _ x') (S := [_, _, _, _, _, _, _]) h2)⟩) rfl (fun _ => (hmk2 _ _).trans (hmk2 _ _).symm) fun x' => ?_)
                refine XN ?_
                refine blockJ_normal ?_
                refine thenJ_normal ?_
                refine R0 ?_
                refine xV (e_add (q0 rfl) (q0 rfl) (fun _ => ⟨rfl, by omega, by omega⟩)) rfl rfl ?_
                refine xV (e_mv (v := .int _ _) (q0 rfl)) rfl rfl ?_
                refine XN ?_
                exact loopJ_normal (k + 1, t, x') (by repeat (first | exact agree_self | exact agree_over | refine agree_upd rfl ?_ | refine agree_updL rfl ?_ | refine agree_over2 rfl ?_)) ⟨rfl, trivial⟩ (fun w hw => by show Mem w0 (evRow _ _ _ :: (stL f a s t ++ (_ :: (CI (R (k + 1)).2 x' ++ L)))) w; rw [hst.2]; exact hw.tail) ((hmk2 _ _).trans (hmk2 _ _).symm) ⟨by show k + 1 ≤ _; omega, by show t.plain = (R (k + 1)).1; rw [hst.1], by show J (k + 1) (R (k + 1)).2; rw [hst.2]; exact hcbs.keep k _ _ _ _ hJ⟩ (by show ys.length - (k + 1) < ys.length - k; omega)
              · cases hcb
    · have hend : k = ys.length := by simp at hlt; omega
      subst hend
      have hfin : ∀ w', Mem w0 (stL f a s t ++ (box b3 24 (f.cells a) :: (CI (R ys.length).2 x ++ L))) w' → Mem w0 (stL f a s t ++ (CI (runR f cb ys (beginP nb, z0)).2 x ++ L)) w' := fun w' h => by rw [← hRn]; exact Mem.cutM (X := [_]) h
      refine H_exit ?_
      refine thenJ_exit ?_
      refine loopJ_exit ?_
      refine blockJ_hit ?_
      refine thenJ_normal ?_
      refine H_seq ?_
      refine R0 ?_
      refine xV (e_mv (v := .pointer _) (q0 rfl)) rfl rfl ?_
      refine xV (e_as (v := .pointer _) (q0 rfl)) rfl rfl ?_
      refine xV (e_as (v := .int _ _) (q0 rfl)) rfl rfl ?_
      refine XN ?_
      refine thenJ_normal ?_
      refine H_ret ?_
      exact ret2 (v := .pointer _) (x := .int _ _) rfl rfl rfl (hmk2 _ _) fun w' hw => ⟨⟨(s, t, x), hsn, by rw [htp, hRn]⟩, rfl, hfin _ hw.tail⟩

end Go.Proofs.Cus
