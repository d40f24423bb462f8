import Derived.Test.YtnikolfakmgbbaaEng2
import Derived.Test.YtnikolfakmgbbaaCusE
set_option linter.unusedVariables false
set_option linter.unusedSimpArgs false
/-
  More operations among those that turn memory.
-/
namespace Go.Proofs.E
open Go Go.RowKit

/-- an operation that only reads, among those that turn memory -/
theorem f_ev {c : Cx} {w0 : World} {L : List Item} {f : Fr} {K : List Item → Fr → Prop} {d : Nat} {op : Op} {ty : TypeId} {pos : String} {af : Array Edge} {v : Value} (h : EvG true c w0 L f op ty v) (hnd : isDefer op = false) (hd : Nat.blt d c.N = true) (next : K L (upd f d v)) : Eff c w0 L f ⟨some d, op, ty, pos, af, none⟩ K :=
  ⟨rfl, hnd, hd, fun w hw => by rw [h rfl _ _ _ _ w hw]; exact ⟨L, hw, rfl, next⟩⟩

end Go.Proofs.E

/-
  Plain facts: the reference's stays and loads, step by step.
-/
namespace Go.Proofs.Cus

/-- accepted events, one behind the other -/
def Replay (f : Fl) : PS → List Ev → Prop
  | _, [] => True
  | s, e :: l => evErr f e = 0 ∧ e.kind ≠ 10 ∧ checkP f.trucks s e = 0 ∧ Replay f (doP s e) l
section
variable {β : Type} {f : Fl} {g : PS → β}
def trOf (g : PS → β) : PS → List Ev → List (Int × β)
  | _, [] => []
  | s, e :: l => (e.at_, g (doP s e)) :: trOf g (doP s e) l
theorem trOf_len : ∀ (l : List Ev) (s : PS), (trOf g s l).length = l.length
  | [], _ => rfl
  | e :: l, s => by simp [trOf, trOf_len l]
theorem run_replay : ∀ (l : List Ev) (s : PS) (za : List Ev) (zt : List (Int × β)), ∃ t, (runR f accCb l (s, za)).2 = za ++ t ∧ (runR f (trCb g) l (s, zt)).2 = zt ++ trOf g s t ∧ Replay f s t
  | [], _, za, zt => ⟨[], by simp [runR], by simp [runR, trOf], trivial⟩
  | e :: l, s, za, zt => by
    show ∃ t, (runR f accCb l (tellR accCb za e (stepR f s e))).2 = za ++ t ∧ (runR f (trCb g) l (tellR (trCb g) zt e (stepR f s e))).2 = zt ++ trOf g s t ∧ _
    by_cases h0 : errR f s e = 0
    · by_cases hk : e.kind = 10
      · rw [step_beat h0 hk]
        exact run_replay l s za zt
      · obtain ⟨h1, h2, h3⟩ := step_do h0 hk
        rw [h1]
        obtain ⟨t, a1, a2, a3⟩ := run_replay l (doP s e) (za ++ [e]) (zt ++ [(e.at_, g (doP s e))])
        refine ⟨e :: t, ?_, ?_, h2, hk, h3, a3⟩
        · show (runR f accCb l (doP s e, accCb za (doP s e) e 0)).2 = _
          rw [show accCb za (doP s e) e 0 = za ++ [e] from rfl, a1]; simp
        · show (runR f (trCb g) l (doP s e, trCb g zt (doP s e) e 0)).2 = _
          rw [show trCb g zt (doP s e) e 0 = zt ++ [(e.at_, g (doP s e))] from rfl, a2]; simp [trOf]
    · rw [step_err h0]
      show ∃ t, (runR f accCb l (s, accCb za s e (errR f s e))).2 = za ++ t ∧ (runR f (trCb g) l (s, trCb g zt s e (errR f s e))).2 = zt ++ trOf g s t ∧ _
      rw [show accCb za s e (errR f s e) = za by unfold accCb; rw [if_neg h0], show trCb g zt s e (errR f s e) = zt by unfold trCb; rw [if_neg h0]]
      exact run_replay l s za zt
/-- the state before the k-th -/
def stK (s : PS) (l : List Ev) (k : Nat) : PS := (l.take k).foldl doP s
theorem Replay.at_ : ∀ {l : List Ev} {s : PS}, Replay f s l → ∀ {k : Nat} {e : Ev}, l[k]? = some e → evErr f e = 0 ∧ e.kind ≠ 10 ∧ checkP f.trucks (stK s l k) e = 0 ∧ stK s l (k + 1) = doP (stK s l k) e ∧ (trOf g s l)[k]? = some (e.at_, g (stK s l (k + 1)))
  | [], _, _, k, e, he => by simp at he
  | x :: l, s, ⟨h1, h2, h3, h4⟩, 0, e, he => by
    simp at he
    subst he
    exact ⟨h1, h2, h3, rfl, rfl⟩
  | x :: l, s, ⟨h1, h2, h3, h4⟩, k + 1, e, he => by
    have := Replay.at_ h4 (k := k) (e := e) (by simpa using he)
    exact this
end

section
variable {β : Type} [DecidableEq β]
def rone (nx : Option Int) (z : List (Tri β) × (Int × β)) (q : Int × β) : List (Tri β) × (Int × β) :=
  if nx = some q.1 then z else if z.2.2 = q.2 then z else if z.2.1 = q.1 then (z.1, q) else (z.1 ++ [(z.2.1, q.1, z.2.2)], q)
theorem rgo_cons (z : List (Tri β) × (Int × β)) (q : Int × β) (B : List (Int × β)) : rgo z.1 z.2 (q :: B) = rgo (rone (B.head?.map (·.1)) z q).1 (rone (B.head?.map (·.1)) z q).2 B := by
  conv => lhs; unfold rgo
  unfold rone
  split
  · rfl
  · split
    · rfl
    · split <;> rfl
def rK (T : List (Int × β)) (p0 : β) : Nat → List (Tri β) × (Int × β)
  | 0 => ([], (0, p0))
  | k + 1 => match T[k]? with | some q => rone (T[k + 1]?.map (·.1)) (rK T p0 k) q | none => rK T p0 k
theorem rK_go (T : List (Int × β)) (p0 : β) : ∀ k, k ≤ T.length → rgo (rK T p0 k).1 (rK T p0 k).2 (T.drop k) = rgo [] (0, p0) T
  | 0, _ => rfl
  | k + 1, hk => by
    have ih := rK_go T p0 k (by omega)
    have hq : T[k]? = some T[k] := List.getElem?_eq_getElem (by omega)
    rw [List.drop_eq_getElem_cons (by omega), rgo_cons, List.head?_drop] at ih
    show rgo (rK T p0 (k + 1)).1 (rK T p0 (k + 1)).2 (T.drop (k + 1)) = _
    have hr : rK T p0 (k + 1) = rone (T[k + 1]?.map (·.1)) (rK T p0 k) T[k] := by
      conv => lhs; unfold rK
      rw [hq]
    rw [hr]
    exact ih
theorem rK_end (T : List (Int × β)) (p0 : β) : rK T p0 T.length = rgo [] (0, p0) T := by
  have := rK_go T p0 T.length (Nat.le_refl _)
  rw [List.drop_length] at this
  exact this
theorem rK_RI {p0 : β} {M : Int} (T : List (Int × β)) (hT : Mono T) (hb : ∀ q ∈ T, 0 ≤ q.1 ∧ q.1 ≤ M) (hM : 0 ≤ M) : ∀ k, k ≤ T.length → RI (vOf p0 T) M (T.drop k) (rK T p0 k).1 (rK T p0 k).2
  | 0, _ => by
    have hnt0 : 0 ≤ nt M T := by
      cases T with
      | nil => show 0 ≤ M + 1; omega
      | cons b B => exact (hb b (by simp)).1
    have hMT : nt M T ≤ M + 1 := by
      cases T with
      | nil => exact Int.le_refl _
      | cons b B => have := hb b (by simp); show b.1 ≤ M + 1; omega
    exact ⟨rfl, fun y hy => (by cases hy), fun t h1 h2 => vOf_mid (p0 := p0) (A := []) (B := T) (t := t) (fun q hq => by simp at hq) (hT.lt h2 (by rw [List.drop_zero] at h2; omega)), .inl ⟨rfl, rfl⟩, ⟨hnt0, hM⟩⟩
  | k + 1, hk => by
    have hz := rK_RI (p0 := p0) T hT hb hM k (by omega)
    obtain ⟨q, hq⟩ : ∃ q, T[k]? = some q := ⟨_, List.getElem?_eq_getElem (by omega)⟩
    have hdq : T.drop k = q :: T.drop (k + 1) := by
      rw [List.drop_eq_getElem_cons (by omega)]
      congr 1
      exact (List.getElem?_eq_some_iff.1 hq).2
    have hr : rK T p0 (k + 1) = rone (T[k + 1]?.map (·.1)) (rK T p0 k) q := by
      conv => lhs; unfold rK
      rw [hq]
    rw [hr]
    have hTk : T = (T.take k ++ [q]) ++ T.drop (k + 1) := by
      rw [List.append_assoc, List.singleton_append, ← hdq, List.take_append_drop]
    rw [hdq] at hz
    generalize hB : T.drop (k + 1) = B at *
    generalize hA : T.take k = A at *
    have hnx : T[k + 1]?.map (·.1) = B.head?.map (·.1) := by rw [← hB, List.head?_drop]
    rw [hnx]
    generalize rK T p0 k = z at *
    have hm := hT
    rw [hTk] at hm
    obtain ⟨m1, m2, m3⟩ := hm.parts
    have hqb := hb q (by rw [hTk]; simp)
    have hnt : nt M (q :: B) = q.1 := rfl
    have hq1 : q.1 ≤ nt M B := by
      cases B with
      | nil => show q.1 ≤ M + 1; omega
      | cons b B => exact m3 q (by simp) b (by simp)
    have hMb : nt M B ≤ M + 1 := by
      cases B with
      | nil => exact Int.le_refl _
      | cons b B => have := hb b (by rw [hTk]; simp); show b.1 ≤ M + 1; omega
    have hend : endP p0 (A ++ [q]) = q.2 := by unfold endP; simp
    have hval : ∀ t, q.1 ≤ t → t < nt M B → vOf p0 T t = q.2 := fun t h1 h2 => by
      rw [hTk, vOf_mid (fun a ha => ?_) (m2.lt h2 (by omega)), hend]
      rcases List.mem_append.1 ha with ha | ha
      · have := (List.pairwise_append.1 m1).2.2 a ha q (by simp); omega
      · rw [List.mem_singleton.1 ha]; exact h1
    have hle := hz.le
    rw [hnt] at hle
    unfold rone
    by_cases h1 : (B.head?.map (·.1)) = some q.1
    · rw [if_pos h1]
      have hn2 : nt M B = q.1 := by unfold nt; rw [h1]; rfl
      refine ⟨hz.chain, hz.ne, fun t a b => hz.val t a (by rw [hnt]; omega), ?_, by omega⟩
      rcases hz.lt with h | h
      · exact .inl h
      · right; rw [hnt] at h; omega
    · rw [if_neg h1]
      have hlt : q.1 < nt M B := by
        rcases Int.lt_or_eq_of_le hq1 with h | h
        · exact h
        · cases B with
          | nil => have : q.1 = M + 1 := h; omega
          | cons b B => exact absurd (by rw [show (List.head? (b :: B)) = some b from rfl]; exact congrArg some (show b.1 = q.1 from h.symm)) h1
      by_cases h2 : z.2.2 = q.2
      · rw [if_pos h2]
        refine ⟨hz.chain, hz.ne, fun t a b => ?_, .inr (by omega), by omega⟩
        rcases Int.lt_or_le t q.1 with h4 | h4
        · exact hz.val t a (by rw [hnt]; exact h4)
        · rw [hval t h4 b, h2]
      · rw [if_neg h2]
        by_cases h3 : z.2.1 = q.1
        · rw [if_pos h3]
          have hl : z.1 = [] ∧ z.2.1 = 0 := by
            rcases hz.lt with h | h
            · exact h
            · rw [hnt] at h; omega
          refine ⟨?_, fun y hy => ?_, hval, .inr hlt, by simp only; omega⟩
          · have := hz.chain; rw [h3] at this; exact this
          · rw [hl.1] at hy; cases hy
        · rw [if_neg h3]
          refine ⟨hz.chain.snoc (by omega) (fun t a b => hz.val t a (by rw [hnt]; exact b)) hz.ne, fun y hy => ?_, hval, .inr hlt, by simp only; omega⟩
          simp at hy
          subst hy
          exact h2
end

/-! stays -/
def ofTri (bike : Int) (x : Tri Pos) : Sty := ⟨bike, x.2.2.1, x.2.2.2.1, x.2.2.2.2, x.1, x.2.1⟩
theorem tri_of (bike : Int) (x : Tri Pos) : tri (ofTri bike x) = x := rfl
def outS (bike : Int) (z : List (Tri Pos) × (Int × Pos)) : List Sty := z.1.map (ofTri bike) ++ [ofTri bike (z.2.1, 4294944000, z.2.2)]
theorem stays_ref {f : Fl} {bike : Int} (h : stayErr f bike = 0) (xs : List Ev) : staysOf f xs bike = outS bike (rgo [] (0, ((5, 0, 0) : Pos)) (trB f xs bike.toNat)) := by
  obtain ⟨h1, h2, h3⟩ := stays_chain h xs
  obtain ⟨t1, t2⟩ := tr_ok f xs (posAt bike.toNat)
  have hc := ref_chain (p0 := ((5, 0, 0) : Pos)) (M := 4294943999) (trB f xs bike.toNat) t1 t2 (by decide)
  have hp := prog_chain (p0 := ((5, 0, 0) : Pos)) (M := 4294943999) (trB f xs bike.toNat) t1 t2 (by decide)
  rw [show (4294943999 + 1 : Int) = 4294944000 from rfl] at hp hc
  rw [← h2] at hp
  refine tri_inj h1 (fun x hx => ?_) ?_
  · unfold outS at hx
    rcases List.mem_append.1 hx with hx | hx
    · obtain ⟨y, _, rfl⟩ := List.mem_map.1 hx; rfl
    · rw [List.mem_singleton.1 hx]; rfl
  · rw [hp.unique hc]
    unfold outS rout
    have hco : tri ∘ ofTri bike = id := by funext x; rfl
    simp [tri_of, hco]
/-! loads -/
def outL (z : List (Tri Int) × (Int × Int)) : List Lv := z.1.map (fun x => ⟨x.1, x.2.2⟩) ++ [⟨z.2.1, z.2.2⟩]
theorem prL_inj : ∀ {l m : List Lv}, l.map prL = m.map prL → l = m
  | [], [], _ => rfl
  | [], _ :: _, h => by simp at h
  | _ :: _, [], h => by simp at h
  | ⟨a, b⟩ :: l, ⟨c, d⟩ :: m, h => by
    simp only [List.map_cons, List.cons.injEq, prL, Prod.mk.injEq] at h
    rw [h.1.1, h.1.2, prL_inj h.2]
theorem loads_ref {f : Fl} {truck : Int} (h : loadErr f truck = 0) (xs : List Ev) : loadsOf f xs truck = outL (rgo [] (0, (0 : Int)) (trK f xs truck.toNat)) := by
  have h3 := loads_chain h xs
  obtain ⟨t1, t2⟩ := tr_ok f xs (cntAt truck.toNat)
  have hc := ref_chain (p0 := (0 : Int)) (M := 4294943999) (trK f xs truck.toNat) t1 t2 (by decide)
  have hv : vOf (0 : Int) (trK f xs truck.toNat) = fun t => cntAt truck.toNat (stAtT f xs t) := by
    funext t
    rw [← v_at f xs (cntAt truck.toNat) t, cntAt_begin]
    rfl
  rw [hv, show (4294943999 + 1 : Int) = 4294944000 from rfl] at hc
  have he := h3.unique hc
  refine prL_inj ?_
  rw [← spans_back 4294944000 ((loadsOf f xs truck).map prL), he]
  unfold outL rout
  simp [prL]

end Go.Proofs.Cus

/-
  The walks: the reference's stays.
-/
namespace Go.Proofs.Cus
open Go Go.RowKit Go.Proofs.E

theorem rstay_w (bike : Int) (x : Sp) (from_ : Int) (w : World) : Calls Try.prog 49 #[.int .i64 bike, .agg x.cells.toArray, .int .i64 from_] w fun e w' => e = .returned (.agg (ofTri bike (from_, 4294944000, posS x)).cells.toArray) ∧ Bel w w' := by
  refine H_enter Try.func49 rfl Try.ntmps49 rfl ?_
  refine H_seq ?_
  refine R0 ?_
  refine X_box (v := .agg _) rfl rfl fun b4 => ?_
  refine X_alloc Try.zeroValue57 rfl fun b6 => ?_
  refine XN ?_
  refine thenJ_normal ?_
  refine H_seq ?_
  refine R0 ?_
  refine xV (e_mv (v := .int _ _) (q0 rfl)) rfl rfl ?_
  refine xV (e_fld Try.underlying41 rfl Try.sizeOf3 rfl (q0 rfl)) rfl rfl ?_
  refine xV (eL Try.isAgg3 (q0 rfl)) rfl rfl ?_
  refine xV (e_fld Try.underlying41 rfl Try.sizeOf3 rfl (q0 rfl)) rfl rfl ?_
  refine xV (eL Try.isAgg3 (q0 rfl)) rfl rfl ?_
  refine xV (e_fld Try.underlying41 rfl Try.sizeOf3 rfl (q0 rfl)) rfl rfl ?_
  refine xV (eL Try.isAgg3 (q0 rfl)) rfl rfl ?_
  refine xV (e_mv (v := .int _ _) (q0 rfl)) rfl rfl ?_
  refine xV (e_build Try.underlying55 fl55 Try.zeroValue55 (pt (v := .int _ _) rfl (pt (v := .int _ _) rfl E.p0)) rfl) rfl rfl ?_
  refine xV (e_build Try.underlying57 fl57 Try.zeroValue57 (pt (v := .int _ _) rfl (pt (v := .int _ _) rfl (pt (v := .int _ _) rfl (pt (v := .int _ _) rfl (pt (v := .agg _) rfl E.p0))))) rfl) rfl rfl ?_
  refine X_st (v := .agg _) rfl rfl Try.sizeOf57 ?_
  refine XN ?_
  refine thenJ_normal ?_
  refine H_ret ?_
  exact ret_of rfl (resc1 0 rfl rfl Try.isAgg57 Try.sizeOf57 rfl rfl) fun w' hw => ⟨rfl, hw.1⟩

theorem rK_step {β : Type} [DecidableEq β] {T : List (Int × β)} {p0 : β} {k : Nat} {q : Int × β} (h : T[k]? = some q) : rK T p0 (k + 1) = rone (T[k + 1]?.map (·.1)) (rK T p0 k) q := by
  conv => lhs; unfold rK
  rw [h]
/-- what the reference's loops lean on: the accepted events, their states, the trace -/
theorem replay_of {β : Type} {f : Fl} (hok : flErr f = 0) (xs : List Ev) (g : PS → β) : Replay f (beginP (nbOf f)) (accOf f xs) ∧ (runR f (trCb g) (setOf xs) (beginP (nbOf f), [])).2 = trOf g (beginP (nbOf f)) (accOf f xs) := by
  obtain ⟨t, h1, h2, h3⟩ := run_replay (f := f) (g := g) (setOf xs) (beginP (nbOf f)) [] []
  have ha : accOf f xs = t := by unfold accOf; rw [if_pos hok, h1]; simp
  rw [ha, h2]
  exact ⟨h3, by simp⟩
theorem accOf_len (f : Fl) (xs : List Ev) : (accOf f xs).length ≤ xs.length := by
  unfold accOf
  split
  · obtain ⟨S, Ac, Rj_, hst, hS, hA, hRj⟩ := steps_of f (setOf xs)
    rw [← hA]
    have h1 := (hst.len _ (Nat.le_refl _)).1
    have h2 := setOf_len xs
    omega
  · simp
structure StX where
  x : RX
  r : RS
  oA : Option Addr
  oc : Nat
attribute [local irreducible] accOf rejOf flErr setOf stayErr staysOf rK
set_option maxHeartbeats 2000000 in
set_option maxRecDepth 20000 in
theorem rstays_w (f : Fl) (a : FA) (A : Option Addr) (n c : Nat) (xs : List Ev) (bike : Int) (w : World) (hf : FlAt w f a) (hx : EvsAt w A n xs) (hn : n ≤ 1000) (hpl : PlOk xs) :
    Calls Try.prog 26 #[.agg (f.cells a).toArray, .slice A n c, .int .i64 bike] w fun r w' => ∃ x : Option Addr × Nat, r = .returned (.tuple #[.slice x.1 (staysOf f xs bike).length x.2, .int .i64 (stayErr f bike)]) ∧ Mem w [styRow x.1 x.2 (staysOf f xs bike)] w' := by
  have hxl := hx.1
  refine H_enter Try.func26 rfl Try.ntmps26 rfl ?_
  refine H_seq ?_
  refine R0 ?_
  refine X_box (v := .agg _) rfl rfl fun b3 => ?_
  refine xV (e_as (v := .slice _ _ _) (q0 rfl)) rfl rfl ?_
  refine xV (e_as (v := .int _ _) (q0 rfl)) rfl rfl ?_
  refine XN ?_
  refine thenJ_normal ?_
  refine H_seq ?_
  refine H_seq ?_
  refine R0 ?_
  refine xV (eS Try.isAgg24 Try.sizeOf24 (q0 rfl)) rfl rfl ?_
  refine xC (en Try.call39 (ha1 (q0 rfl))) (fun _ w hm => rfleet_w f a w (hf.mem hm)) rfl rfl ?_
  refine xV (e_as (v := .int _ _) (q0 rfl)) rfl rfl ?_
  refine XN ?_
  refine thenJ_normal ?_
  refine H_seq ?_
  refine R0 ?_
  refine xV (e_mv (v := .int _ _) (q0 rfl)) rfl rfl ?_
  refine xV (e_ne (q0 rfl) (q0 rfl)) rfl rfl ?_
  refine XN ?_
  refine thenJ_normal ?_
  refine H_cond rfl (fun h1 => ?_) (fun h1 => ?_)
  · have h1' : flErr f ≠ 0 := by simpa using h1
    have he : stayErr f bike = flErr f := by unfold stayErr; rw [if_pos h1']
    have hs : staysOf f xs bike = [] := by unfold staysOf; rw [if_neg (by rw [he]; exact h1')]
    rw [he, hs]
    refine H_seq ?_
    refine R0 ?_
    refine xV (e_mv (v := .int _ _) (q0 rfl)) rfl rfl ?_
    refine xV (e_as (v := .slice _ _ _) (q0 rfl)) rfl rfl ?_
    refine xV (e_as (v := .int _ _) (q0 rfl)) rfl rfl ?_
    refine XN ?_
    refine thenJ_normal ?_
    refine H_ret ?_
    refine thenJ_ret ?_
    exact ret2 (v := .slice _ _ _) (x := .int _ _) rfl rfl rfl rfl fun w' hw => ⟨(none, 0), rfl, (mem_nil.2 hw.1).nilRow _ _ _ rfl⟩
  · have h1' : flErr f = 0 := by simpa using h1
    obtain ⟨hbk, -⟩ := flErr_ok h1'
    have hnb := nb_eq h1'
    refine H_skip ?_
    refine thenJ_normal ?_
    refine H_seq ?_
    refine H_seq ?_
    refine R0 ?_
    refine xV (e_mv (v := .int _ _) (q0 rfl)) rfl rfl ?_
    refine xV (e_lt (q0 rfl) (q0 rfl)) rfl rfl ?_
    refine xV (e_mv (v := .bool _) (q0 rfl)) rfl rfl ?_
    refine xVF (e_mv (v := .int _ _) (q0 rfl)) rfl rfl rfl rfl ?_
    refine xVF (e_fld Try.underlying24 rfl Try.sizeOf3 rfl (q0 rfl)) rfl rfl rfl rfl ?_
    refine xVF (eL Try.isAgg3 (q1 rfl)) rfl rfl rfl rfl ?_
    refine xVF (e_ge (q1 rfl) (q1 rfl)) rfl rfl rfl rfl ?_
    refine xV (e_or (q0 rfl) rfl (fun h => by first | rfl | (rw [h]; rfl))) rfl rfl ?_
    refine XN ?_
    refine thenJ_normal ?_
    refine H_cond rfl (fun h2 => ?_) (fun h2 => ?_)
    · have he : stayErr f bike = 7 := by unfold stayErr; rw [if_neg (fun h => h h1'), if_pos h2]
      have hs : staysOf f xs bike = [] := by unfold staysOf; rw [if_neg (by rw [he]; decide)]
      rw [he, hs]
      refine H_seq ?_
      refine R0 ?_
      refine xV (e_as (v := .slice _ _ _) (q0 rfl)) rfl rfl ?_
      refine xV (e_as (v := .int _ _) (q0 rfl)) rfl rfl ?_
      refine XN ?_
      refine thenJ_normal ?_
      refine H_ret ?_
      refine thenJ_ret ?_
      exact ret2 (v := .slice _ _ _) (x := .int _ _) rfl rfl rfl rfl fun w' hw => ⟨(none, 0), rfl, (mem_nil.2 hw.1).nilRow _ _ _ rfl⟩
    · have he : stayErr f bike = 0 := by unfold stayErr; rw [if_neg (fun h => h h1'), if_neg (by rw [h2]; decide)]
      have hb0 : 0 ≤ bike ∧ bike < f.bikes := by simp at h2; omega
      have hS := stays_ref he xs
      rw [he, hS]
      obtain ⟨bk, rfl⟩ : ∃ k : Nat, bike = k := ⟨bike.toNat, by omega⟩
      have hbn : bk < nbOf f := by omega
      unfold trB
      rw [Int.toNat_natCast]
      obtain ⟨hrep, htr⟩ := replay_of h1' xs (posAt bk)
      have htl := trOf_len (g := posAt bk) (accOf f xs) (beginP (nbOf f))
      rw [htr]
      have hat := fun {k : Nat} {e : Ev} he => hrep.at_ (g := posAt bk) (k := k) (e := e) he
      have hal := accOf_len f xs
      have hpb := posAt_begin hbn
      rw [← rK_end]
      generalize hTT : trOf (posAt bk) (beginP (nbOf f)) (accOf f xs) = T at *
      rw [htl]
      refine H_skip ?_
      refine thenJ_normal ?_
      refine H_seq ?_
      refine R0 ?_
      refine xV (eS Try.isAgg24 Try.sizeOf24 (q0 rfl)) rfl rfl ?_
      refine xV (e_mv (v := .slice _ _ _) (q0 rfl)) rfl rfl ?_
      refine xCX (en Try.call40 (ha2 (q0 rfl) (q0 rfl))) (fun w hw => rrun_w f a A n c xs w (hf.mem hw) (hx.mem hw) hn h1' hpl) rfl (fun _ => rfl) fun y => ?_
      refine xV (e_mv (q0 rfl)) rfl rfl ?_
      refine xV (e_ext (q0 rfl) rfl) rfl rfl ?_
      refine xV (e_ext (q0 rfl) rfl) rfl rfl ?_
      refine xV (e_ext (q0 rfl) rfl) rfl rfl ?_
      refine X_alloc Try.zeroValue80 rfl fun b9 => ?_
      refine X_st (v := .agg _) rfl rfl Try.sizeOf80 ?_
      refine xV (e_as (v := .slice _ _ _) (q0 rfl)) rfl rfl ?_
      refine xV (e_as (v := .slice _ _ _) (q0 rfl)) rfl rfl ?_
      refine XN ?_
      refine thenJ_normal ?_
      refine H_seq ?_
      refine H_mem (L' := [evRow y.1.aA y.1.ac (accOf f xs), box b3 24 (f.cells a)]) (fun w hw => hw.pick [3, 5] (by decide)) rfl ?_
      generalize accOf f xs = acc at *
      obtain ⟨⟨_, _, aA, ac, _, _⟩, _⟩ := y
      refine R0 ?_
      refine xV (eS Try.isAgg24 Try.sizeOf24 (q0 rfl)) rfl rfl ?_
      refine xCX (en Try.call48 (ha1 (q0 rfl))) (fun w hw => rbegin_w f a (nbOf f) hnb (by omega) w) rfl (fun _ => rfl) fun x0 => ?_
      refine X_alloc Try.zeroValue80 rfl fun b12 => ?_
      refine X_st (v := .agg _) rfl rfl Try.sizeOf80 ?_
      refine XN ?_
      refine thenJ_normal ?_
      refine H_seq ?_
      refine H_know (fun w hw => rowT_at (j := 1) hw rfl (by simp [beginR]; omega)) fun ⟨x0b, hx0b⟩ => ?_
      obtain ⟨x0A, x0c, x0B, x0d⟩ := x0
      simp only at hx0b
      subst hx0b
      have hsb : (beginR (nbOf f)).spots[bk]? = some ⟨5, 0, 0, false⟩ := by simp [beginR, hbn]
      have hsl : (beginR (nbOf f)).spots.length = nbOf f := by simp [beginR]
      have hR0 : rK T ((5, 0, 0) : Pos) 0 = ([], (0, (5, 0, 0))) := by unfold rK; rfl
      obtain ⟨p0, hp0⟩ : ∃ p0 : Pos, p0 = (5, 0, 0) := ⟨_, rfl⟩
      rw [← hp0] at hR0 ⊢
      refine R0 ?_
      refine xV (e_mv (v := .int _ _) (q0 rfl)) rfl rfl ?_
      refine xV (e_fld Try.underlying80 rfl Try.sizeOf37 rfl (q0 rfl)) rfl rfl ?_
      refine xV (eL Try.isAgg37 (q0 rfl)) rfl rfl ?_
      refine xV (e_mv (v := .int _ _) (q0 rfl)) rfl rfl ?_
      refine xV (e_idx _ Try.underlying37 Try.sizeOf41 (q0 rfl) (q0 rfl) (fun _ => ⟨rfl, by omega⟩)) rfl rfl ?_
      refine xV (eS Try.isAgg41 Try.sizeOf41 (q0 rfl)) rfl rfl ?_
      refine xC (en Try.call49 (ha3 (q0 rfl) (q0 rfl) (q0 rfl))) (fun _ w _ => rstay_w bk ⟨5, 0, 0, false⟩ 0 w) rfl rfl ?_
      refine X_slit [(.int .i64 0), (.int .i64 0), (.int .i64 0), (.int .i64 0), (.int .i64 0), (.int .i64 0)] Try.underlying46 Try.sizeOf57 Try.zeroValue57 rfl (by kernel_rfl) (pt (v := .agg _) rfl E.p0) rfl rfl fun b46 => ?_
      refine xV (e_as (v := .slice _ _ _) (q0 rfl)) rfl rfl ?_
      refine XN ?_
      refine thenJ_normal ?_
      refine H_seq ?_
      refine H_seq ?_
      refine R0 ?_
      refine xV (e_as (v := .int _ _) (q0 rfl)) rfl rfl ?_
      refine XN ?_
      refine thenJ_normal ?_
      refine H_block ?_
      refine H_loop [13, 14, 15, 16, 47, 48, 49, 50, 51, 52, 53, 54, 55, 56, 57, 58, 59, 60, 61, 62, 63, 64, 65, 66, 67, 68, 69, 70, 71, 72, 73, 74, 75, 76, 77, 78, 79, 80, 81, 82, 83, 84, 85, 86, 87, 88, 89, 90, 91, 92, 93, 94, 95, 96, 97, 98, 99, 100, 101, 102, 103, 104, 105, 106, 107, 108, 109, 110, 111, 112, 113, 114, 115, 116, 117, 118, 119, 120, 121, 122, 123, 124, 125, 126, 127, 128, 129, 130, 131, 132, 133, 134, 135, 136, 137, 138, 139, 140] (fun q : Nat × StX => [(14, .int .i64 q.1), (13, .slice q.2.oA (outS bk (rK T p0 q.1)).length q.2.oc)]) (fun q => [rsBox b12 (q.2.x.val q.2.r), spRow q.2.x.A q.2.x.c q.2.r.spots, rtRow q.2.x.B q.2.x.d q.2.r.trips, styRow q.2.oA q.2.oc (outS bk (rK T p0 q.1)), evRow aA ac acc, box b3 24 (f.cells a)]) (fun q => q.1 ≤ acc.length ∧ Rel (nbOf f) (stK (beginP (nbOf f)) acc q.1) q.2.r ∧ q.2.r.trips.length ≤ q.1 ∧ (outS bk (rK T p0 q.1)).length ≤ q.1 + 1) (fun q => acc.length - q.1) (0, ⟨⟨some ⟨x0b, 0, none⟩, x0c, x0B, x0d⟩, beginR (nbOf f), some ⟨b46, 0, none⟩, 1⟩) ⟨rfl, by show _ = Value.slice _ (outS bk (rK T p0 0)).length _; rw [hR0]; rfl, trivial⟩ (fun w hw => by
        show Mem _ [_, _, _, styRow (some ⟨b46, 0, none⟩) 1 (outS bk (rK T p0 0)), _, _] w
        rw [hR0, hp0]
        exact (Mem.boxRow (enc := Sty.cells) (k := 6) (xs := [ofTri bk (0, 4294944000, ((5, 0, 0) : Pos))]) (fun _ => rfl) hw (j := 0) rfl (by simp)).pick [1, 2, 3, 0, 4, 5] (by decide)) rfl ⟨Nat.zero_le _, Rel.begin _, Nat.le_refl _, by show (outS bk (rK T p0 0)).length ≤ 1; rw [hR0]; simp [outS]⟩ ?_
      rintro ⟨k, ⟨⟨zA, zc, zB, zd⟩, r, oA, oc⟩⟩ g ⟨hk, hR, htl2, hol⟩
      simp only at hk hR htl2 hol
      refine H_seq ?_
      refine H_seq ?_
      refine R0 ?_
      refine xV (e_mv (v := .int _ _) (q0 rfl)) rfl rfl ?_
      refine xV (e_mv (v := .slice _ _ _) (q0 rfl)) rfl rfl ?_
      refine xV (e_len Try.underlying25 (q0 rfl)) rfl rfl ?_
      refine xV (e_lt (q0 rfl) (q0 rfl)) rfl rfl ?_
      refine XN ?_
      refine thenJ_normal ?_
      refine H_cond rfl (fun hlt => ?_) (fun hlt => ?_)
      · have hlt' : k < acc.length := by simpa using hlt
        obtain ⟨e, hek⟩ : ∃ e, acc[k]? = some e := ⟨_, List.getElem?_eq_getElem hlt'⟩
        obtain ⟨hev, hk10, hck, hsk1, hTk⟩ := hat hek
        obtain ⟨_, hbike, hp7, hkd, _⟩ := evErr_ok hev
        have hsl2 : r.spots.length = nbOf f := by rw [hR.spots]; exact hR.inv.len
        have hR2 : Rel r.spots.length (stK (beginP (nbOf f)) acc k) r := by rw [hsl2]; exact hR
        have hap := hR.apply (f := f) (by omega) hck
        have htl3 : (applyR r e).trips.length ≤ r.trips.length + 1 := applyR_len r e
        rw [← hsk1] at hap
        have hsl3 : (applyR r e).spots.length = nbOf f := by rw [hap.spots]; exact hap.inv.len
        obtain ⟨sx, hsx⟩ : ∃ sx, (applyR r e).spots[bk]? = some sx := ⟨_, List.getElem?_eq_getElem (by omega)⟩
        have hq2 : posAt bk (stK (beginP (nbOf f)) acc (k + 1)) = posS sx := by
          unfold posAt
          rw [← hap.spots, List.getD_eq_getElem?_getD, hsx]; rfl
        rw [hq2] at hTk
        have hkr := rK_step (p0 := p0) hTk
        have hnx : T[k + 1]?.map (·.1) = acc[k + 1]?.map (·.at_) := by
          cases h : acc[k + 1]? with
          | none => rw [List.getElem?_eq_none (by have := List.getElem?_eq_none_iff.1 h; omega)]; rfl
          | some e2 => rw [(hat h).2.2.2.2]; rfl
        rw [hnx] at hkr
        refine H_know (fun w hw => rowT_at (j := 4) hw rfl (by omega)) fun ⟨ab, hab⟩ => ?_
        subst hab
        refine H_skip ?_
        refine thenJ_normal ?_
        refine H_seq ?_
        refine H_block ?_
        refine H_seq ?_
        refine RAd 1 rfl (by decide +kernel) ?_
        refine aV 1 (by decide +kernel) rfl (e_mv (v := .slice _ _ _) (q0 rfl)) rfl ?_
        refine aV 2 (by decide +kernel) rfl (e_mv (v := .int _ _) (q0 rfl)) rfl ?_
        refine aV 3 (by decide +kernel) rfl (e_idx _ Try.underlying25 Try.sizeOf67 (q0 rfl) (q0 rfl) (fun _ => ⟨rfl, by omega⟩)) rfl ?_
        refine aV 4 (by decide +kernel) rfl (eS Try.isAgg67 Try.sizeOf67 (q0 rfl)) rfl ?_
        refine rdy1 (i := 0) (by decide +kernel) (sub_drop 1) ?_
        refine aL rfl (f_ev (eS Try.isAgg80 Try.sizeOf80 (q0 rfl)) rfl rfl ?_)
        refine rdy1 (i := 5) (by decide +kernel) (sub_drop 1) ?_
        refine aL rfl (f_callx (en Try.call50 (ha2 (q0 rfl) (q0 rfl))) (fun w hw => apply_w zA r.spots.length zc zB r.trips.length zd f.trucks (stK (beginP (nbOf f)) acc k) r e w (slAt_row hw (j := 1) rfl (fun _ => rfl) (by omega)) (slAt_row hw (j := 2) rfl (fun _ => rfl) (by omega)) (by omega) (by omega) hR2 (by omega) hck (by omega)) rfl (fun _ => rfl) fun y2 => ?_)
        refine rdy1 (i := 6) (by decide +kernel) (sub_drop 3) ?_
        refine aL rfl (f_st (v := .agg _) rfl rfl Try.sizeOf80 ?_)
        refine aZ (by decide +kernel) (sub_drop 3) ?_
        refine thenJ_normal ?_
        refine H_seq ?_
        refine H_seq ?_
        refine H_mem (L' := [rsBox b12 (y2.val (applyR r e)), spRow y2.A y2.c (applyR r e).spots, rtRow y2.B y2.d (applyR r e).trips, styRow oA oc (outS bk (rK T p0 k)), evRow (some ⟨ab, 0, none⟩) ac acc, box b3 24 (f.cells a)]) (fun w hw => hw.pick [2, 0, 1, 5, 6, 7] (by decide)) rfl ?_
        refine H_cut [59, 60, 61, 62, 63, 64, 65, 66, 67, 68, 69, 70, 71, 72, 73, 74, 75, 76, 77] (fun _ : Unit => [(77, .bool (decide (acc[k + 1]?.map (·.at_) = some e.at_)))]) (fun _ => [rsBox b12 (y2.val (applyR r e)), spRow y2.A y2.c (applyR r e).spots, rtRow y2.B y2.d (applyR r e).trips, styRow oA oc (outS bk (rK T p0 k)), evRow (some ⟨ab, 0, none⟩) ac acc, box b3 24 (f.cells a)]) (fun _ => True) ?_ ?_
        · have _ht : True := trivial
          cases h2k : acc[k + 1]? with
          | none =>
            have hge := List.getElem?_eq_none_iff.1 h2k
            have hgd : decide ((k : Int) + 1 < (acc.length : Int)) = false := by simp; omega
            refine R1 rfl (by decide +kernel) ?_
            refine xV (e_mv (v := .int _ _) (q0 rfl)) rfl rfl ?_
            refine xV (e_add (q0 rfl) (q0 rfl) (fun _ => ⟨rfl, by omega, by omega⟩)) rfl rfl ?_
            refine xV (e_mv (v := .slice _ _ _) (q0 rfl)) rfl rfl ?_
            refine xV (e_len Try.underlying25 (q0 rfl)) rfl rfl ?_
            refine xV (e_lt (q0 rfl) (q0 rfl)) rfl rfl ?_
            refine xV (e_mv (v := .bool _) (q0 rfl)) rfl rfl ?_
            refine xVT (e_dead (v := .slice none 0 0) (hgd)) rfl rfl rfl rfl ?_
            refine xVT (e_dead (v := .int .i64 0) (hgd)) rfl rfl rfl rfl ?_
            refine xVT (e_dead (v := .int .i64 0) (hgd)) rfl rfl rfl rfl ?_
            refine xVT (e_dead (v := .pointer none) (hgd)) rfl rfl rfl rfl ?_
            refine xVT (e_dead (v := .pointer none) (hgd)) rfl rfl rfl rfl ?_
            refine xVT (e_dead (v := .int .i64 0) (hgd)) rfl rfl rfl rfl ?_
            refine xVT (e_dead (v := .slice none 0 0) (hgd)) rfl rfl rfl rfl ?_
            refine xVT (e_dead (v := .int .i64 0) (hgd)) rfl rfl rfl rfl ?_
            refine xVT (e_dead (v := .pointer none) (hgd)) rfl rfl rfl rfl ?_
            refine xVT (e_dead (v := .pointer none) (hgd)) rfl rfl rfl rfl ?_
            refine xVT (e_dead (v := .int .i64 0) (hgd)) rfl rfl rfl rfl ?_
            refine xVT (e_dead (v := .bool false) (hgd)) rfl rfl rfl rfl ?_
            refine xV (e_and (q0 rfl) rfl (fun h => by first | rfl | (rw [h]; rfl))) rfl rfl ?_
            refine XN ?_
            exact cutJ_normal () (by repeat (first | exact agree_self | exact agree_over | refine agree_upd rfl ?_ | refine agree_updL rfl ?_ | refine agree_over2 rfl ?_)) ⟨by show Value.bool (decide ((k : Int) + 1 < (acc.length : Int)) && _) = Value.bool _; rw [hgd, Bool.false_and]; rfl, trivial⟩ (fun w hw => hw) rfl trivial
          | some e2 =>
            have hlt2 := (List.getElem?_eq_some_iff.1 h2k).1
            refine R1 rfl (by decide +kernel) ?_
            refine xV (e_mv (v := .int _ _) (q0 rfl)) rfl rfl ?_
            refine xV (e_add (q0 rfl) (q0 rfl) (fun _ => ⟨rfl, by omega, by omega⟩)) rfl rfl ?_
            refine xV (e_mv (v := .slice _ _ _) (q0 rfl)) rfl rfl ?_
            refine xV (e_len Try.underlying25 (q0 rfl)) rfl rfl ?_
            refine xV (e_lt (q0 rfl) (q0 rfl)) rfl rfl ?_
            refine xV (e_mv (v := .bool _) (q0 rfl)) rfl rfl ?_
            refine xVT (e_mv (v := .slice _ _ _) (q0 rfl)) rfl rfl rfl rfl ?_
            refine xVT (e_mv (v := .int _ _) (q0 rfl)) rfl rfl rfl rfl ?_
            refine xVT (e_add (q1 rfl) (q0 rfl) (fun _ => ⟨rfl, by omega, by omega⟩)) rfl rfl rfl rfl ?_
            refine xVT (e_idx (k + 1) Try.underlying25 Try.sizeOf67 (q1 rfl) (q1 rfl) (fun _ => ⟨by omega, by omega⟩)) rfl rfl rfl rfl ?_
            refine xVT (e_fld Try.underlying67 rfl Try.sizeOf3 rfl (q1 rfl)) rfl rfl rfl rfl ?_
            refine xVT (eL Try.isAgg3 (q1 rfl)) rfl rfl rfl rfl ?_
            refine xVT (e_mv (v := .slice _ _ _) (q0 rfl)) rfl rfl rfl rfl ?_
            refine xVT (e_mv (v := .int _ _) (q0 rfl)) rfl rfl rfl rfl ?_
            refine xVT (e_idx _ Try.underlying25 Try.sizeOf67 (q1 rfl) (q1 rfl) (fun _ => ⟨rfl, by omega⟩)) rfl rfl rfl rfl ?_
            refine xVT (e_fld Try.underlying67 rfl Try.sizeOf3 rfl (q1 rfl)) rfl rfl rfl rfl ?_
            refine xVT (eL Try.isAgg3 (q1 rfl)) rfl rfl rfl rfl ?_
            refine xVT (e_eq (q1 rfl) (q1 rfl)) rfl rfl rfl rfl ?_
            refine xV (e_and (q0 rfl) rfl (fun h => by first | rfl | (rw [h]; rfl))) rfl rfl ?_
            refine XN ?_
            exact cutJ_normal () (by repeat (first | exact agree_self | exact agree_over | refine agree_upd rfl ?_ | refine agree_updL rfl ?_ | refine agree_over2 rfl ?_)) ⟨by show Value.bool (decide ((k : Int) + 1 < (acc.length : Int)) && decide (e2.at_ = e.at_)) = Value.bool _; rw [decide_eq_true (by omega), Bool.true_and]; congr 1; simp, trivial⟩ (fun w hw => hw) rfl trivial
        · intro _ g2 _
          refine thenJ_normal ?_
          refine H_cond rfl (fun hsk => ?_) (fun hsk => ?_)
          · have hsk' : acc[k + 1]?.map (·.at_) = some e.at_ := by simpa using hsk
            have hk2 : rK T p0 (k + 1) = rK T p0 k := by rw [hkr]; unfold rone; rw [if_pos hsk']
            refine H_exit ?_
            refine thenJ_exit ?_
            refine blockJ_hit ?_
            refine thenJ_normal ?_
            refine R0 ?_
            refine xV (e_mv (v := .int _ _) (q0 rfl)) rfl rfl ?_
            refine xV (e_add (q0 rfl) (q0 rfl) (fun _ => ⟨rfl, by omega, by omega⟩)) rfl rfl ?_
            refine xV (e_as (v := .int _ _) (q0 rfl)) rfl rfl ?_
            refine XN ?_
            exact loopJ_normal (k + 1, ⟨y2, applyR r e, oA, oc⟩) (by repeat (first | exact agree_self | exact agree_over | refine agree_upd rfl ?_ | refine agree_updL rfl ?_ | refine agree_over2 rfl ?_)) ⟨rfl, by show _ = Value.slice oA (outS bk (rK T p0 (k + 1))).length oc; rw [hk2]; rfl, trivial⟩ (fun w hw => by show Mem _ [_, _, _, styRow oA oc (outS bk (rK T p0 (k + 1))), _, _] w; rw [hk2]; exact hw) rfl ⟨by show k + 1 ≤ _; omega, hap, by show (applyR r e).trips.length ≤ k + 1; omega, by show (outS bk (rK T p0 (k + 1))).length ≤ k + 1 + 1; rw [hk2]; omega⟩ (by show acc.length - (k + 1) < acc.length - k; omega)
          · have hsk' : ¬ acc[k + 1]?.map (·.at_) = some e.at_ := by simpa using hsk
            unfold rone at hkr
            rw [if_neg hsk'] at hkr
            obtain ⟨⟨zl, zf, z1, z2, z3⟩, hz⟩ : ∃ z, z = rK T p0 k := ⟨_, rfl⟩
            rw [← hz] at hkr hol ⊢
            simp only at hkr
            obtain ⟨M, hM⟩ : ∃ M, M = zl.map (ofTri bk) := ⟨_, rfl⟩
            obtain ⟨X, hX⟩ : ∃ X, X = ofTri bk (zf, 4294944000, (z1, z2, z3)) := ⟨_, rfl⟩
            have hO : outS bk (zl, (zf, (z1, z2, z3))) = M ++ [X] := by rw [hM, hX]; rfl
            rw [hO] at hol ⊢
            have hOx : (M ++ [X])[M.length]? = some X := by simp
            have hOl : (M ++ [X]).length = M.length + 1 := by simp
            refine H_skip ?_
            refine thenJ_normal ?_
            refine H_seq ?_
            refine H_know (fun w hw => rowT_cap (j := 3) hw rfl) fun hcap => ?_
            refine H_know (fun w hw => rowT_at (j := 3) hw rfl (by omega)) fun ⟨ob, hob⟩ => ?_
            subst hob
            refine H_know (fun w hw => rowT_at (j := 1) hw rfl (by omega)) fun ⟨yb, hyb⟩ => ?_
            obtain ⟨yA, yc, yB, yd⟩ := y2
            simp only at hyb
            subst hyb
            refine R0 ?_
            refine xV (e_mv (v := .slice _ _ _) (q0 rfl)) rfl rfl ?_
            refine xV (e_mv (v := .slice _ _ _) (q0 rfl)) rfl rfl ?_
            refine xV (e_len Try.underlying46 (q0 rfl)) rfl rfl ?_
            refine xV (e_sub (q0 rfl) (q0 rfl) (fun _ => ⟨rfl, by omega, by omega⟩)) rfl rfl ?_
            refine xV (e_idx M.length Try.underlying46 Try.sizeOf57 (q0 rfl) (q0 rfl) (fun _ => ⟨by omega, by omega⟩)) rfl rfl ?_
            refine xV (eS Try.isAgg57 Try.sizeOf57 (q0 rfl)) rfl rfl ?_
            refine X_alloc Try.zeroValue57 rfl fun b15 => ?_
            refine X_st (v := .agg _) rfl rfl Try.sizeOf57 ?_
            refine XN ?_
            refine thenJ_normal ?_
            refine H_seq ?_
            refine RA rfl (by decide +kernel) ?_
            refine aV 0 (by decide +kernel) rfl (e_mv (v := .int _ _) (q0 rfl)) rfl ?_
            refine aV 1 (by decide +kernel) rfl (e_fld Try.underlying80 rfl Try.sizeOf37 rfl (q0 rfl)) rfl ?_
            refine aV 2 (by decide +kernel) rfl (eL Try.isAgg37 (q0 rfl)) rfl ?_
            refine aV 3 (by decide +kernel) rfl (e_mv (v := .int _ _) (q0 rfl)) rfl ?_
            refine aV 4 (by decide +kernel) rfl (e_idx _ Try.underlying37 Try.sizeOf41 (q0 rfl) (q0 rfl) (fun _ => ⟨rfl, by omega⟩)) rfl ?_
            refine aV 5 (by decide +kernel) rfl (eS Try.isAgg41 Try.sizeOf41 (q0 rfl)) rfl ?_
            refine aV 6 (by decide +kernel) rfl (e_mv (v := .slice _ _ _) (q0 rfl)) rfl ?_
            refine aV 7 (by decide +kernel) rfl (e_mv (v := .int _ _) (q0 rfl)) rfl ?_
            refine aV 8 (by decide +kernel) rfl (e_idx _ Try.underlying25 Try.sizeOf67 (q0 rfl) (q0 rfl) (fun _ => ⟨rfl, by omega⟩)) rfl ?_
            refine aV 9 (by decide +kernel) rfl (e_fld Try.underlying67 rfl Try.sizeOf3 rfl (q0 rfl)) rfl ?_
            refine aV 10 (by decide +kernel) rfl (eL Try.isAgg3 (q0 rfl)) rfl ?_
            refine aC 11 (by decide +kernel) rfl (en Try.call49 (ha3 (q0 rfl) (q0 rfl) (q0 rfl))) (fun _ w _ => rstay_w bk sx e.at_ w) rfl ?_
            refine rdy1 (i := 12) (by decide +kernel) (sub_drop 0) ?_
            refine aL rfl (f_alloc Try.zeroValue57 rfl fun b16 => ?_)
            refine rdy1 (i := 13) (by decide +kernel) (sub_drop 1) ?_
            refine aL rfl (f_st (v := .agg _) rfl rfl Try.sizeOf57 ?_)
            refine aZ (by decide +kernel) (sub_drop 1) ?_
            refine thenJ_normal ?_
            refine H_seq ?_
            refine H_seq ?_
            refine R0 ?_
            refine xV (e_fld Try.underlying57 rfl Try.sizeOf3 rfl (q0 rfl)) rfl rfl ?_
            refine xV (eL Try.isAgg3 (q0 rfl)) rfl rfl ?_
            refine xV (e_fld Try.underlying57 rfl Try.sizeOf3 rfl (q0 rfl)) rfl rfl ?_
            refine xV (eL Try.isAgg3 (q0 rfl)) rfl rfl ?_
            refine xV (e_eq (q0 rfl) (q0 rfl)) rfl rfl ?_
            refine xV (e_mv (v := .bool _) (q0 rfl)) rfl rfl ?_
            refine xVT (e_fld Try.underlying57 rfl Try.sizeOf3 rfl (q0 rfl)) rfl rfl rfl rfl ?_
            refine xVT (eL Try.isAgg3 (q1 rfl)) rfl rfl rfl rfl ?_
            refine xVT (e_fld Try.underlying57 rfl Try.sizeOf3 rfl (q0 rfl)) rfl rfl rfl rfl ?_
            refine xVT (eL Try.isAgg3 (q1 rfl)) rfl rfl rfl rfl ?_
            refine xVT (e_eq (q1 rfl) (q1 rfl)) rfl rfl rfl rfl ?_
            refine xV (e_and (q0 rfl) rfl (fun h => by first | rfl | (rw [h]; rfl))) rfl rfl ?_
            refine xV (e_mv (v := .bool _) (q0 rfl)) rfl rfl ?_
            refine xVT (e_fld Try.underlying57 rfl Try.sizeOf3 rfl (q0 rfl)) rfl rfl rfl rfl ?_
            refine xVT (eL Try.isAgg3 (q1 rfl)) rfl rfl rfl rfl ?_
            refine xVT (e_fld Try.underlying57 rfl Try.sizeOf3 rfl (q0 rfl)) rfl rfl rfl rfl ?_
            refine xVT (eL Try.isAgg3 (q1 rfl)) rfl rfl rfl rfl ?_
            refine xVT (e_eq (q1 rfl) (q1 rfl)) rfl rfl rfl rfl ?_
            refine xV (e_and (q0 rfl) rfl (fun h => by first | rfl | (rw [h]; rfl))) rfl rfl ?_
            refine XN ?_
            refine thenJ_normal ?_
            have hN : ofTri bk (e.at_, 4294944000, posS sx) = ⟨bk, sx.where_, sx.place, sx.ride, e.at_, 4294944000⟩ := rfl
            refine H_cond rfl (fun hsm => ?_) (fun hsm => ?_)
            · have hsm' : ((z1, z2, z3) : Pos) = posS sx := by
                rw [hX] at hsm
                simp only [Bool.and_eq_true] at hsm
                simp only [posS, Prod.mk.injEq]
                exact ⟨of_decide_eq_true hsm.1.1, of_decide_eq_true hsm.1.2, of_decide_eq_true hsm.2⟩
              have hk2 : rK T p0 (k + 1) = rK T p0 k := by rw [hkr, if_pos hsm', hz]
              have hO2 : outS bk (rK T p0 (k + 1)) = M ++ [X] := by rw [hk2, ← hz, hO]
              refine H_exit ?_
              refine thenJ_exit ?_
              refine blockJ_hit ?_
              refine thenJ_normal ?_
              refine R0 ?_
              refine xV (e_mv (v := .int _ _) (q0 rfl)) rfl rfl ?_
              refine xV (e_add (q0 rfl) (q0 rfl) (fun _ => ⟨rfl, by omega, by omega⟩)) rfl rfl ?_
              refine xV (e_as (v := .int _ _) (q0 rfl)) rfl rfl ?_
              refine XN ?_
              exact loopJ_normal (k + 1, ⟨⟨some ⟨yb, 0, none⟩, yc, yB, yd⟩, applyR r e, some ⟨ob, 0, none⟩, oc⟩) (by repeat (first | exact agree_self | exact agree_over | refine agree_upd rfl ?_ | refine agree_updL rfl ?_ | refine agree_over2 rfl ?_)) ⟨rfl, by show _ = Value.slice _ (outS bk (rK T p0 (k + 1))).length oc; rw [hO2]; rfl, trivial⟩ (fun w hw => by show Mem _ [_, _, _, styRow _ oc (outS bk (rK T p0 (k + 1))), _, _] w; rw [hO2]; exact hw.pick [2, 3, 4, 5, 6, 7] (by decide)) rfl ⟨by show k + 1 ≤ _; omega, hap, by show (applyR r e).trips.length ≤ k + 1; omega, by show (outS bk (rK T p0 (k + 1))).length ≤ k + 1 + 1; rw [hO2]; omega⟩ (by show acc.length - (k + 1) < acc.length - k; omega)
            · have hsm' : ¬ ((z1, z2, z3) : Pos) = posS sx := fun h => by
                rw [hX] at hsm
                simp only [posS, Prod.mk.injEq] at h
                rw [show z1 = sx.where_ from h.1, show z2 = sx.place from h.2.1, show z3 = sx.ride from h.2.2] at hsm
                simp [ofTri, posS] at hsm
              rw [if_neg hsm'] at hkr
              have hset : (M ++ [X]).set M.length ({ X with to_ := e.at_ } : Sty) = M ++ [{ X with to_ := e.at_ }] := by simp
              refine H_skip ?_
              refine thenJ_normal ?_
              refine H_seq ?_
              refine R0 ?_
              refine xV (e_mv (v := .slice _ _ _) (q0 rfl)) rfl rfl ?_
              refine xV (e_mv (v := .slice _ _ _) (q0 rfl)) rfl rfl ?_
              refine xV (e_len Try.underlying46 (q0 rfl)) rfl rfl ?_
              refine xV (e_sub (q0 rfl) (q0 rfl) (fun _ => ⟨rfl, by omega, by omega⟩)) rfl rfl ?_
              refine xV (e_fld Try.underlying57 rfl Try.sizeOf55 rfl (q0 rfl)) rfl rfl ?_
              refine xV (e_fld Try.underlying55 rfl Try.sizeOf3 rfl (q0 rfl)) rfl rfl ?_
              refine xV (eL Try.isAgg3 (q0 rfl)) rfl rfl ?_
              refine xV (e_idx M.length Try.underlying46 Try.sizeOf57 (q0 rfl) (q0 rfl) (fun _ => ⟨by omega, by omega⟩)) rfl rfl ?_
              refine xV (e_fld Try.underlying57 rfl Try.sizeOf55 rfl (q0 rfl)) rfl rfl ?_
              refine xV (e_fld Try.underlying55 rfl Try.sizeOf3 rfl (q0 rfl)) rfl rfl ?_
              refine X_eff (f_storeR 5 (off := 5) ({ X with to_ := e.at_ } : Sty) rfl rfl Try.sizeOf3 rfl rfl rfl hOx rfl rfl ?_)
              refine XN ?_
              refine thenJ_normal ?_
              refine H_seq ?_
              refine H_seq ?_
              refine R0 ?_
              refine xV (e_fld Try.underlying57 rfl Try.sizeOf55 rfl (q0 rfl)) rfl rfl ?_
              refine xV (e_fld Try.underlying55 rfl Try.sizeOf3 rfl (q0 rfl)) rfl rfl ?_
              refine xV (eL Try.isAgg3 (q0 rfl)) rfl rfl ?_
              refine xV (e_fld Try.underlying57 rfl Try.sizeOf55 rfl (q0 rfl)) rfl rfl ?_
              refine xV (e_fld Try.underlying55 rfl Try.sizeOf3 rfl (q0 rfl)) rfl rfl ?_
              refine xV (eL Try.isAgg3 (q0 rfl)) rfl rfl ?_
              refine xV (e_eq (q0 rfl) (q0 rfl)) rfl rfl ?_
              refine XN ?_
              refine thenJ_normal ?_
              rw [hset]
              refine H_cond rfl (fun hfr => ?_) (fun hfr => ?_)
              · have hfr' : zf = e.at_ := by rw [hX] at hfr; exact of_decide_eq_true hfr
                rw [if_pos hfr'] at hkr
                have hO2 : outS bk (rK T p0 (k + 1)) = M ++ [ofTri bk (e.at_, 4294944000, posS sx)] := by rw [hkr, hM]; rfl
                refine R0 ?_
                refine xV (e_mv (v := .slice _ _ _) (q0 rfl)) rfl rfl ?_
                refine xV (e_mv (v := .slice _ _ _) (q0 rfl)) rfl rfl ?_
                refine xV (e_len Try.underlying46 (q0 rfl)) rfl rfl ?_
                refine xV (e_sub (q0 rfl) (q0 rfl) (fun _ => ⟨rfl, by omega, by omega⟩)) rfl rfl ?_
                refine xV (e_slHi M.length Try.underlying46 Try.sizeOf57 (q0 rfl) (q0 rfl) (fun _ => ⟨by omega, by simp only; omega⟩)) rfl rfl ?_
                refine xV (e_as (v := .slice _ _ _) (q0 rfl)) rfl rfl ?_
                refine XN ?_
                refine thenJ_normal ?_
                refine H_mem (fun w hw => rowT_take (enc := Sty.cells) (k := 6) (i := M.length) (j := 5) (fun _ => rfl) hw rfl) rfl ?_
                rw [show (M ++ [({ X with to_ := e.at_ } : Sty)]).take M.length = M by simp]
                refine R0 ?_
                refine xV (e_mv (v := .slice _ _ _) (q0 rfl)) rfl rfl ?_
                refine xV (eS Try.isAgg57 Try.sizeOf57 (q0 rfl)) rfl rfl ?_
                refine X_push (k := 6) (i := Try.t57) 5 ((ofTri bk (e.at_, 4294944000, posS sx))) Try.underlying46 (by kernel_rfl) rfl rfl rfl rfl Try.sizeOf57 Try.zeroValue57 rfl rfl rfl rfl rfl rfl ⟨by omega, by decide⟩ rfl rfl fun PB A1 c1 => ?_
                refine xV (e_as (v := .slice _ _ _) (q0 rfl)) rfl rfl ?_
                refine XN ?_
                refine blockJ_normal ?_
                refine thenJ_normal ?_
                refine R0 ?_
                refine xV (e_mv (v := .int _ _) (q0 rfl)) rfl rfl ?_
                refine xV (e_add (q0 rfl) (q0 rfl) (fun _ => ⟨rfl, by omega, by omega⟩)) rfl rfl ?_
                refine xV (e_as (v := .int _ _) (q0 rfl)) rfl rfl ?_
                refine XN ?_
                exact loopJ_normal (k + 1, ⟨⟨some ⟨yb, 0, none⟩, yc, yB, yd⟩, applyR r e, A1, c1⟩) (by repeat (first | exact agree_self | exact agree_over | refine agree_upd rfl ?_ | refine agree_updL rfl ?_ | refine agree_over2 rfl ?_)) ⟨rfl, by show _ = Value.slice _ (outS bk (rK T p0 (k + 1))).length _; rw [hO2]; rfl, trivial⟩ (fun w hw => by show Mem _ [_, _, _, styRow _ _ (outS bk (rK T p0 (k + 1))), _, _] w; rw [hO2]; exact hw.pick [2, 3, 4, 5, 6, 7] (by decide)) rfl ⟨by show k + 1 ≤ _; omega, hap, by show (applyR r e).trips.length ≤ k + 1; omega, by show (outS bk (rK T p0 (k + 1))).length ≤ k + 1 + 1; rw [hO2]; simp; omega⟩ (by show acc.length - (k + 1) < acc.length - k; omega)
              · have hfr' : ¬ zf = e.at_ := by rw [hX] at hfr; exact of_decide_eq_false hfr
                rw [if_neg hfr'] at hkr
                have hO2 : outS bk (rK T p0 (k + 1)) = M ++ [{ X with to_ := e.at_ }] ++ [ofTri bk (e.at_, 4294944000, posS sx)] := by rw [hkr, hM, hX]; simp [outS, ofTri]
                rw [show (M ++ [X]).length = (M ++ [({ X with to_ := e.at_ } : Sty)]).length by simp]
                refine H_skip ?_
                refine thenJ_normal ?_
                refine R0 ?_
                refine xV (e_mv (v := .slice _ _ _) (q0 rfl)) rfl rfl ?_
                refine xV (eS Try.isAgg57 Try.sizeOf57 (q0 rfl)) rfl rfl ?_
                refine X_push (k := 6) (i := Try.t57) 5 ((ofTri bk (e.at_, 4294944000, posS sx))) Try.underlying46 (by kernel_rfl) rfl rfl rfl rfl Try.sizeOf57 Try.zeroValue57 rfl rfl rfl rfl rfl rfl ⟨by simp; omega, by decide⟩ rfl rfl fun PB A1 c1 => ?_
                refine xV (e_as (v := .slice _ _ _) (q0 rfl)) rfl rfl ?_
                refine XN ?_
                refine blockJ_normal ?_
                refine thenJ_normal ?_
                refine R0 ?_
                refine xV (e_mv (v := .int _ _) (q0 rfl)) rfl rfl ?_
                refine xV (e_add (q0 rfl) (q0 rfl) (fun _ => ⟨rfl, by omega, by omega⟩)) rfl rfl ?_
                refine xV (e_as (v := .int _ _) (q0 rfl)) rfl rfl ?_
                refine XN ?_
                exact loopJ_normal (k + 1, ⟨⟨some ⟨yb, 0, none⟩, yc, yB, yd⟩, applyR r e, A1, c1⟩) (by repeat (first | exact agree_self | exact agree_over | refine agree_upd rfl ?_ | refine agree_updL rfl ?_ | refine agree_over2 rfl ?_)) ⟨rfl, by show _ = Value.slice _ (outS bk (rK T p0 (k + 1))).length _; rw [hO2]; rfl, trivial⟩ (fun w hw => by show Mem _ [_, _, _, styRow _ _ (outS bk (rK T p0 (k + 1))), _, _] w; rw [hO2]; exact hw.pick [2, 3, 4, 5, 6, 7] (by decide)) rfl ⟨by show k + 1 ≤ _; omega, hap, by show (applyR r e).trips.length ≤ k + 1; omega, by show (outS bk (rK T p0 (k + 1))).length ≤ k + 1 + 1; rw [hO2]; simp at hol ⊢; omega⟩ (by show acc.length - (k + 1) < acc.length - k; omega)
      · have hend : k = acc.length := by simp at hlt; omega
        subst hend
        refine H_exit ?_
        refine thenJ_exit ?_
        refine loopJ_exit ?_
        refine blockJ_hit ?_
        refine thenJ_normal ?_
        refine H_seq ?_
        refine R0 ?_
        refine xV (e_mv (v := .slice _ _ _) (q0 rfl)) rfl rfl ?_
        refine xV (e_as (v := .slice _ _ _) (q0 rfl)) rfl rfl ?_
        refine xV (e_as (v := .int _ _) (q0 rfl)) rfl rfl ?_
        refine XN ?_
        refine thenJ_normal ?_
        refine H_ret ?_
        exact ret2 (v := .slice _ _ _) (x := .int _ _) rfl rfl rfl rfl fun w' hw => ⟨(oA, oc), rfl, hw.pick [3] (by decide)⟩

end Go.Proofs.Cus

/-
  The walks: the reference's loads.
-/
namespace Go.Proofs.Cus
open Go Go.RowKit Go.Proofs.E

attribute [local irreducible] accOf rejOf flErr setOf loadErr loadsOf rK
set_option maxHeartbeats 2000000 in
set_option maxRecDepth 20000 in
theorem rloads_w (f : Fl) (a : FA) (A : Option Addr) (n c : Nat) (xs : List Ev) (truck : Int) (w : World) (hf : FlAt w f a) (hx : EvsAt w A n xs) (hn : n ≤ 1000) (hpl : PlOk xs) :
    Calls Try.prog 28 #[.agg (f.cells a).toArray, .slice A n c, .int .i64 truck] w fun r w' => ∃ x : Option Addr × Nat, r = .returned (.tuple #[.slice x.1 (loadsOf f xs truck).length x.2, .int .i64 (loadErr f truck)]) ∧ Mem w [lvRow x.1 x.2 (loadsOf f xs truck)] w' := by
  have hxl := hx.1
  refine H_enter Try.func28 rfl Try.ntmps28 rfl ?_
  refine H_seq ?_
  refine R0 ?_
  refine X_box (v := .agg _) rfl rfl fun b3 => ?_
  refine xV (e_as (v := .slice _ _ _) (q0 rfl)) rfl rfl ?_
  refine xV (e_as (v := .int _ _) (q0 rfl)) rfl rfl ?_
  refine XN ?_
  refine thenJ_normal ?_
  refine H_seq ?_
  refine H_seq ?_
  refine R0 ?_
  refine xV (eS Try.isAgg24 Try.sizeOf24 (q0 rfl)) rfl rfl ?_
  refine xC (en Try.call39 (ha1 (q0 rfl))) (fun _ w hm => rfleet_w f a w (hf.mem hm)) rfl rfl ?_
  refine xV (e_as (v := .int _ _) (q0 rfl)) rfl rfl ?_
  refine XN ?_
  refine thenJ_normal ?_
  refine H_seq ?_
  refine R0 ?_
  refine xV (e_mv (v := .int _ _) (q0 rfl)) rfl rfl ?_
  refine xV (e_ne (q0 rfl) (q0 rfl)) rfl rfl ?_
  refine XN ?_
  refine thenJ_normal ?_
  refine H_cond rfl (fun h1 => ?_) (fun h1 => ?_)
  · have h1' : flErr f ≠ 0 := by simpa using h1
    have he : loadErr f truck = flErr f := by unfold loadErr; rw [if_pos h1']
    have hs : loadsOf f xs truck = [] := by unfold loadsOf; rw [if_neg (by rw [he]; exact h1')]
    rw [he, hs]
    refine H_seq ?_
    refine R0 ?_
    refine xV (e_mv (v := .int _ _) (q0 rfl)) rfl rfl ?_
    refine xV (e_as (v := .slice _ _ _) (q0 rfl)) rfl rfl ?_
    refine xV (e_as (v := .int _ _) (q0 rfl)) rfl rfl ?_
    refine XN ?_
    refine thenJ_normal ?_
    refine H_ret ?_
    refine thenJ_ret ?_
    exact ret2 (v := .slice _ _ _) (x := .int _ _) rfl rfl rfl rfl fun w' hw => ⟨(none, 0), rfl, (mem_nil.2 hw.1).nilRow _ _ _ rfl⟩
  · have h1' : flErr f = 0 := by simpa using h1
    obtain ⟨hbk, -⟩ := flErr_ok h1'
    have hnb := nb_eq h1'
    refine H_skip ?_
    refine thenJ_normal ?_
    refine H_seq ?_
    refine H_seq ?_
    refine R0 ?_
    refine xV (e_mv (v := .int _ _) (q0 rfl)) rfl rfl ?_
    refine xV (e_lt (q0 rfl) (q0 rfl)) rfl rfl ?_
    refine xV (e_mv (v := .bool _) (q0 rfl)) rfl rfl ?_
    refine xVF (e_mv (v := .int _ _) (q0 rfl)) rfl rfl rfl rfl ?_
    refine xVF (e_fld Try.underlying24 rfl Try.sizeOf22 rfl (q0 rfl)) rfl rfl rfl rfl ?_
    refine xVF (eL Try.isAgg22 (q1 rfl)) rfl rfl rfl rfl ?_
    refine xVF (e_len Try.underlying22 (q1 rfl)) rfl rfl rfl rfl ?_
    refine xVF (e_ge (q1 rfl) (q1 rfl)) rfl rfl rfl rfl ?_
    refine xV (e_or (q0 rfl) rfl (fun h => by first | rfl | (rw [h]; rfl))) rfl rfl ?_
    refine XN ?_
    refine thenJ_normal ?_
    have htl0 := hf.trucks.1
    refine H_cond rfl (fun h2 => ?_) (fun h2 => ?_)
    · rw [← htl0] at h2
      have he : loadErr f truck = 7 := by unfold loadErr; rw [if_neg (fun h => h h1'), if_pos h2]
      have hs : loadsOf f xs truck = [] := by unfold loadsOf; rw [if_neg (by rw [he]; decide)]
      rw [he, hs]
      refine H_seq ?_
      refine R0 ?_
      refine xV (e_as (v := .slice _ _ _) (q0 rfl)) rfl rfl ?_
      refine xV (e_as (v := .int _ _) (q0 rfl)) rfl rfl ?_
      refine XN ?_
      refine thenJ_normal ?_
      refine H_ret ?_
      refine thenJ_ret ?_
      exact ret2 (v := .slice _ _ _) (x := .int _ _) rfl rfl rfl rfl fun w' hw => ⟨(none, 0), rfl, (mem_nil.2 hw.1).nilRow _ _ _ rfl⟩
    · rw [← htl0] at h2
      have he : loadErr f truck = 0 := by unfold loadErr; rw [if_neg (fun h => h h1'), if_neg (by rw [h2]; decide)]
      have htk0 : 0 ≤ truck ∧ truck < f.trucks.length := by have := hf.trucks.1; simp at h2; omega
      have hS := loads_ref he xs
      rw [he, hS]
      obtain ⟨tk, rfl⟩ : ∃ k : Nat, truck = k := ⟨truck.toNat, by omega⟩
      unfold trK
      rw [Int.toNat_natCast]
      obtain ⟨hrep, htr⟩ := replay_of h1' xs (cntAt tk)
      have htl := trOf_len (g := cntAt tk) (accOf f xs) (beginP (nbOf f))
      rw [htr]
      have hat := fun {k : Nat} {e : Ev} he => hrep.at_ (g := cntAt tk) (k := k) (e := e) he
      have hal := accOf_len f xs
      rw [← rK_end]
      obtain ⟨tm1, tm2⟩ := tr_ok f xs (cntAt tk)
      rw [htr] at tm1 tm2
      have hRI := fun k => rK_RI (p0 := (0 : Int)) (M := 4294943999) _ tm1 tm2 (by decide) k
      generalize hTT : trOf (cntAt tk) (beginP (nbOf f)) (accOf f xs) = T at *
      rw [htl]
      refine H_skip ?_
      refine thenJ_normal ?_
      refine H_seq ?_
      refine R0 ?_
      refine xV (eS Try.isAgg24 Try.sizeOf24 (q0 rfl)) rfl rfl ?_
      refine xV (e_mv (v := .slice _ _ _) (q0 rfl)) rfl rfl ?_
      refine xCX (en Try.call40 (ha2 (q0 rfl) (q0 rfl))) (fun w hw => rrun_w f a A n c xs w (hf.mem hw) (hx.mem hw) hn h1' hpl) rfl (fun _ => rfl) fun y => ?_
      refine xV (e_mv (q0 rfl)) rfl rfl ?_
      refine xV (e_ext (q0 rfl) rfl) rfl rfl ?_
      refine xV (e_ext (q0 rfl) rfl) rfl rfl ?_
      refine xV (e_ext (q0 rfl) rfl) rfl rfl ?_
      refine X_alloc Try.zeroValue80 rfl fun b9 => ?_
      refine X_st (v := .agg _) rfl rfl Try.sizeOf80 ?_
      refine xV (e_as (v := .slice _ _ _) (q0 rfl)) rfl rfl ?_
      refine xV (e_as (v := .slice _ _ _) (q0 rfl)) rfl rfl ?_
      refine XN ?_
      refine thenJ_normal ?_
      refine H_seq ?_
      refine H_mem (L' := [evRow y.1.aA y.1.ac (accOf f xs), box b3 24 (f.cells a)]) (fun w hw => hw.pick [3, 5] (by decide)) rfl ?_
      generalize accOf f xs = acc at *
      obtain ⟨⟨_, _, aA, ac, _, _⟩, _⟩ := y
      refine R0 ?_
      refine xV (eS Try.isAgg24 Try.sizeOf24 (q0 rfl)) rfl rfl ?_
      refine xCX (en Try.call48 (ha1 (q0 rfl))) (fun w hw => rbegin_w f a (nbOf f) hnb (by omega) w) rfl (fun _ => rfl) fun x0 => ?_
      have hR0 : rK T (0 : Int) 0 = ([], (0, 0)) := by unfold rK; rfl
      refine X_alloc Try.zeroValue80 rfl fun b12 => ?_
      refine X_st (v := .agg _) rfl rfl Try.sizeOf80 ?_
      refine XN ?_
      refine thenJ_normal ?_
      refine H_seq ?_
      refine R0 ?_
      refine xV (e_build Try.underlying63 fl63 Try.zeroValue63 E.p0 rfl) rfl rfl ?_
      refine X_slit [(.int .i64 0), (.int .i64 0)] Try.underlying49 Try.sizeOf63 Try.zeroValue63 rfl (by kernel_rfl) (pt (v := .agg _) rfl E.p0) rfl rfl fun b40 => ?_
      refine xV (e_as (v := .slice _ _ _) (q0 rfl)) rfl rfl ?_
      refine XN ?_
      refine thenJ_normal ?_
      refine H_seq ?_
      refine H_seq ?_
      refine R0 ?_
      refine xV (e_as (v := .int _ _) (q0 rfl)) rfl rfl ?_
      refine XN ?_
      refine thenJ_normal ?_
      refine H_block ?_
      refine H_loop [13, 14, 15, 41, 42, 43, 44, 45, 46, 47, 48, 49, 50, 51, 52, 53, 54, 55, 56, 57, 58, 59, 60, 61, 62, 63, 64, 65, 66, 67, 68, 69, 70, 71, 72, 73, 74, 75, 76, 77, 78, 79, 80, 81, 82, 83, 84, 85, 86, 87, 88, 89, 90, 91, 92, 93, 94, 95, 96, 97, 98, 99, 100, 101, 102, 103] (fun q : Nat × StX => [(14, .int .i64 q.1), (13, .slice q.2.oA (outL (rK T (0 : Int) q.1)).length q.2.oc)]) (fun q => [rsBox b12 (q.2.x.val q.2.r), spRow q.2.x.A q.2.x.c q.2.r.spots, rtRow q.2.x.B q.2.x.d q.2.r.trips, lvRow q.2.oA q.2.oc (outL (rK T (0 : Int) q.1)), evRow aA ac acc, box b3 24 (f.cells a)]) (fun q => q.1 ≤ acc.length ∧ Rel (nbOf f) (stK (beginP (nbOf f)) acc q.1) q.2.r ∧ q.2.r.trips.length ≤ q.1 ∧ (outL (rK T (0 : Int) q.1)).length ≤ q.1 + 1) (fun q => acc.length - q.1) (0, ⟨x0, beginR (nbOf f), some ⟨b40, 0, none⟩, 1⟩) ⟨rfl, by show _ = Value.slice _ (outL (rK T (0 : Int) 0)).length _; rw [hR0]; rfl, trivial⟩ (fun w hw => by
        show Mem _ [_, _, _, lvRow (some ⟨b40, 0, none⟩) 1 (outL (rK T (0 : Int) 0)), _, _] w
        rw [hR0]
        exact (Mem.boxRow (enc := Lv.cells) (k := 2) (xs := [(⟨0, 0⟩ : Lv)]) (fun _ => rfl) hw (j := 0) rfl (by simp)).pick [1, 2, 3, 0, 4, 5] (by decide)) rfl ⟨Nat.zero_le _, Rel.begin _, Nat.le_refl _, by show (outL (rK T (0 : Int) 0)).length ≤ 1; rw [hR0]; simp [outL]⟩ ?_
      rintro ⟨k, ⟨⟨zA, zc, zB, zd⟩, r, oA, oc⟩⟩ g ⟨hk, hR, htl2, hol⟩
      simp only at hk hR htl2 hol
      refine H_seq ?_
      refine H_seq ?_
      refine R0 ?_
      refine xV (e_mv (v := .int _ _) (q0 rfl)) rfl rfl ?_
      refine xV (e_mv (v := .slice _ _ _) (q0 rfl)) rfl rfl ?_
      refine xV (e_len Try.underlying25 (q0 rfl)) rfl rfl ?_
      refine xV (e_lt (q0 rfl) (q0 rfl)) rfl rfl ?_
      refine XN ?_
      refine thenJ_normal ?_
      refine H_cond rfl (fun hlt => ?_) (fun hlt => ?_)
      · have hlt' : k < acc.length := by simpa using hlt
        obtain ⟨e, hek⟩ : ∃ e, acc[k]? = some e := ⟨_, List.getElem?_eq_getElem hlt'⟩
        obtain ⟨hev, hk10, hck, hsk1, hTk⟩ := hat hek
        obtain ⟨_, hbike, hp7, hkd, _⟩ := evErr_ok hev
        have hsl2 : r.spots.length = nbOf f := by rw [hR.spots]; exact hR.inv.len
        have hR2 : Rel r.spots.length (stK (beginP (nbOf f)) acc k) r := by rw [hsl2]; exact hR
        have hap := hR.apply (f := f) (by omega) hck
        have htl3 : (applyR r e).trips.length ≤ r.trips.length + 1 := applyR_len r e
        rw [← hsk1] at hap
        have hsl3 : (applyR r e).spots.length = nbOf f := by rw [hap.spots]; exact hap.inv.len
        obtain ⟨cn, hcn⟩ : ∃ cn : Int, cn = (countP (applyR r e).spots 4 tk : Int) := ⟨_, rfl⟩
        have hq2 : cntAt tk (stK (beginP (nbOf f)) acc (k + 1)) = cn := by
          unfold cntAt
          rw [← hap.spots, hcn]
        rw [hq2] at hTk
        have hkr := rK_step (p0 := (0 : Int)) hTk
        have hnx : T[k + 1]?.map (·.1) = acc[k + 1]?.map (·.at_) := by
          cases h : acc[k + 1]? with
          | none => rw [List.getElem?_eq_none (by have := List.getElem?_eq_none_iff.1 h; omega)]; rfl
          | some e2 => rw [(hat h).2.2.2.2]; rfl
        rw [hnx] at hkr
        refine H_know (fun w hw => rowT_at (j := 4) hw rfl (by omega)) fun ⟨ab, hab⟩ => ?_
        subst hab
        refine H_skip ?_
        refine thenJ_normal ?_
        refine H_seq ?_
        refine H_block ?_
        refine H_seq ?_
        refine RAd 1 rfl (by decide +kernel) ?_
        refine aV 1 (by decide +kernel) rfl (e_mv (v := .slice _ _ _) (q0 rfl)) rfl ?_
        refine aV 2 (by decide +kernel) rfl (e_mv (v := .int _ _) (q0 rfl)) rfl ?_
        refine aV 3 (by decide +kernel) rfl (e_idx _ Try.underlying25 Try.sizeOf67 (q0 rfl) (q0 rfl) (fun _ => ⟨rfl, by omega⟩)) rfl ?_
        refine aV 4 (by decide +kernel) rfl (eS Try.isAgg67 Try.sizeOf67 (q0 rfl)) rfl ?_
        refine rdy1 (i := 0) (by decide +kernel) (sub_drop 1) ?_
        refine aL rfl (f_ev (eS Try.isAgg80 Try.sizeOf80 (q0 rfl)) rfl rfl ?_)
        refine rdy1 (i := 5) (by decide +kernel) (sub_drop 1) ?_
        refine aL rfl (f_callx (en Try.call50 (ha2 (q0 rfl) (q0 rfl))) (fun w hw => apply_w zA r.spots.length zc zB r.trips.length zd f.trucks (stK (beginP (nbOf f)) acc k) r e w (slAt_row hw (j := 1) rfl (fun _ => rfl) (by omega)) (slAt_row hw (j := 2) rfl (fun _ => rfl) (by omega)) (by omega) (by omega) hR2 (by omega) hck (by omega)) rfl (fun _ => rfl) fun y2 => ?_)
        refine rdy1 (i := 6) (by decide +kernel) (sub_drop 3) ?_
        refine aL rfl (f_st (v := .agg _) rfl rfl Try.sizeOf80 ?_)
        refine aZ (by decide +kernel) (sub_drop 3) ?_
        refine thenJ_normal ?_
        refine H_seq ?_
        refine H_seq ?_
        refine H_mem (L' := [rsBox b12 (y2.val (applyR r e)), spRow y2.A y2.c (applyR r e).spots, rtRow y2.B y2.d (applyR r e).trips, lvRow oA oc (outL (rK T (0 : Int) k)), evRow (some ⟨ab, 0, none⟩) ac acc, box b3 24 (f.cells a)]) (fun w hw => hw.pick [2, 0, 1, 5, 6, 7] (by decide)) rfl ?_
        refine H_cut [53, 54, 55, 56, 57, 58, 59, 60, 61, 62, 63, 64, 65, 66, 67, 68, 69, 70, 71] (fun _ : Unit => [(71, .bool (decide (acc[k + 1]?.map (·.at_) = some e.at_)))]) (fun _ => [rsBox b12 (y2.val (applyR r e)), spRow y2.A y2.c (applyR r e).spots, rtRow y2.B y2.d (applyR r e).trips, lvRow oA oc (outL (rK T (0 : Int) k)), evRow (some ⟨ab, 0, none⟩) ac acc, box b3 24 (f.cells a)]) (fun _ => True) ?_ ?_
        · have _ht : True := trivial
          cases h2k : acc[k + 1]? with
          | none =>
            have hge := List.getElem?_eq_none_iff.1 h2k
            have hgd : decide ((k : Int) + 1 < (acc.length : Int)) = false := by simp; omega
            refine R1 rfl (by decide +kernel) ?_
            refine xV (e_mv (v := .int _ _) (q0 rfl)) rfl rfl ?_
            refine xV (e_add (q0 rfl) (q0 rfl) (fun _ => ⟨rfl, by omega, by omega⟩)) rfl rfl ?_
            refine xV (e_mv (v := .slice _ _ _) (q0 rfl)) rfl rfl ?_
            refine xV (e_len Try.underlying25 (q0 rfl)) rfl rfl ?_
            refine xV (e_lt (q0 rfl) (q0 rfl)) rfl rfl ?_
            refine xV (e_mv (v := .bool _) (q0 rfl)) rfl rfl ?_
            refine xVT (e_dead (v := .slice none 0 0) (hgd)) rfl rfl rfl rfl ?_
            refine xVT (e_dead (v := .int .i64 0) (hgd)) rfl rfl rfl rfl ?_
            refine xVT (e_dead (v := .int .i64 0) (hgd)) rfl rfl rfl rfl ?_
            refine xVT (e_dead (v := .pointer none) (hgd)) rfl rfl rfl rfl ?_
            refine xVT (e_dead (v := .pointer none) (hgd)) rfl rfl rfl rfl ?_
            refine xVT (e_dead (v := .int .i64 0) (hgd)) rfl rfl rfl rfl ?_
            refine xVT (e_dead (v := .slice none 0 0) (hgd)) rfl rfl rfl rfl ?_
            refine xVT (e_dead (v := .int .i64 0) (hgd)) rfl rfl rfl rfl ?_
            refine xVT (e_dead (v := .pointer none) (hgd)) rfl rfl rfl rfl ?_
            refine xVT (e_dead (v := .pointer none) (hgd)) rfl rfl rfl rfl ?_
            refine xVT (e_dead (v := .int .i64 0) (hgd)) rfl rfl rfl rfl ?_
            refine xVT (e_dead (v := .bool false) (hgd)) rfl rfl rfl rfl ?_
            refine xV (e_and (q0 rfl) rfl (fun h => by first | rfl | (rw [h]; rfl))) rfl rfl ?_
            refine XN ?_
            exact cutJ_normal () (by repeat (first | exact agree_self | exact agree_over | refine agree_upd rfl ?_ | refine agree_updL rfl ?_ | refine agree_over2 rfl ?_)) ⟨by show Value.bool (decide ((k : Int) + 1 < (acc.length : Int)) && _) = Value.bool _; rw [hgd, Bool.false_and]; rfl, trivial⟩ (fun w hw => hw) rfl trivial
          | some e2 =>
            have hlt2 := (List.getElem?_eq_some_iff.1 h2k).1
            refine R1 rfl (by decide +kernel) ?_
            refine xV (e_mv (v := .int _ _) (q0 rfl)) rfl rfl ?_
            refine xV (e_add (q0 rfl) (q0 rfl) (fun _ => ⟨rfl, by omega, by omega⟩)) rfl rfl ?_
            refine xV (e_mv (v := .slice _ _ _) (q0 rfl)) rfl rfl ?_
            refine xV (e_len Try.underlying25 (q0 rfl)) rfl rfl ?_
            refine xV (e_lt (q0 rfl) (q0 rfl)) rfl rfl ?_
            refine xV (e_mv (v := .bool _) (q0 rfl)) rfl rfl ?_
            refine xVT (e_mv (v := .slice _ _ _) (q0 rfl)) rfl rfl rfl rfl ?_
            refine xVT (e_mv (v := .int _ _) (q0 rfl)) rfl rfl rfl rfl ?_
            refine xVT (e_add (q1 rfl) (q0 rfl) (fun _ => ⟨rfl, by omega, by omega⟩)) rfl rfl rfl rfl ?_
            refine xVT (e_idx (k + 1) Try.underlying25 Try.sizeOf67 (q1 rfl) (q1 rfl) (fun _ => ⟨by omega, by omega⟩)) rfl rfl rfl rfl ?_
            refine xVT (e_fld Try.underlying67 rfl Try.sizeOf3 rfl (q1 rfl)) rfl rfl rfl rfl ?_
            refine xVT (eL Try.isAgg3 (q1 rfl)) rfl rfl rfl rfl ?_
            refine xVT (e_mv (v := .slice _ _ _) (q0 rfl)) rfl rfl rfl rfl ?_
            refine xVT (e_mv (v := .int _ _) (q0 rfl)) rfl rfl rfl rfl ?_
            refine xVT (e_idx _ Try.underlying25 Try.sizeOf67 (q1 rfl) (q1 rfl) (fun _ => ⟨rfl, by omega⟩)) rfl rfl rfl rfl ?_
            refine xVT (e_fld Try.underlying67 rfl Try.sizeOf3 rfl (q1 rfl)) rfl rfl rfl rfl ?_
            refine xVT (eL Try.isAgg3 (q1 rfl)) rfl rfl rfl rfl ?_
            refine xVT (e_eq (q1 rfl) (q1 rfl)) rfl rfl rfl rfl ?_
            refine xV (e_and (q0 rfl) rfl (fun h => by first | rfl | (rw [h]; rfl))) rfl rfl ?_
            refine XN ?_
            exact cutJ_normal () (by repeat (first | exact agree_self | exact agree_over | refine agree_upd rfl ?_ | refine agree_updL rfl ?_ | refine agree_over2 rfl ?_)) ⟨by show Value.bool (decide ((k : Int) + 1 < (acc.length : Int)) && decide (e2.at_ = e.at_)) = Value.bool _; rw [decide_eq_true (by omega), Bool.true_and]; congr 1; simp, trivial⟩ (fun w hw => hw) rfl trivial
        · intro _ g2 _
          refine thenJ_normal ?_
          refine H_cond rfl (fun hsk => ?_) (fun hsk => ?_)
          · have hsk' : acc[k + 1]?.map (·.at_) = some e.at_ := by simpa using hsk
            have hk2 : rK T (0 : Int) (k + 1) = rK T (0 : Int) k := by rw [hkr]; unfold rone; rw [if_pos hsk']
            refine H_exit ?_
            refine thenJ_exit ?_
            refine blockJ_hit ?_
            refine thenJ_normal ?_
            refine R0 ?_
            refine xV (e_mv (v := .int _ _) (q0 rfl)) rfl rfl ?_
            refine xV (e_add (q0 rfl) (q0 rfl) (fun _ => ⟨rfl, by omega, by omega⟩)) rfl rfl ?_
            refine xV (e_as (v := .int _ _) (q0 rfl)) rfl rfl ?_
            refine XN ?_
            exact loopJ_normal (k + 1, ⟨y2, applyR r e, oA, oc⟩) (by repeat (first | exact agree_self | exact agree_over | refine agree_upd rfl ?_ | refine agree_updL rfl ?_ | refine agree_over2 rfl ?_)) ⟨rfl, by show _ = Value.slice oA (outL (rK T (0 : Int) (k + 1))).length oc; rw [hk2]; rfl, trivial⟩ (fun w hw => by show Mem _ [_, _, _, lvRow oA oc (outL (rK T (0 : Int) (k + 1))), _, _] w; rw [hk2]; exact hw) rfl ⟨by show k + 1 ≤ _; omega, hap, by show (applyR r e).trips.length ≤ k + 1; omega, by show (outL (rK T (0 : Int) (k + 1))).length ≤ k + 1 + 1; rw [hk2]; omega⟩ (by show acc.length - (k + 1) < acc.length - k; omega)
          · have hsk' : ¬ acc[k + 1]?.map (·.at_) = some e.at_ := by simpa using hsk
            unfold rone at hkr
            rw [if_neg hsk'] at hkr
            obtain ⟨⟨zl, zf, zp⟩, hz⟩ : ∃ z, z = rK T (0 : Int) k := ⟨_, rfl⟩
            have hri := hRI k (by omega)
            rw [← hz] at hkr hol hri ⊢
            simp only at hkr
            have hnt : nt 4294943999 (T.drop k) = e.at_ := by unfold nt; rw [List.head?_drop, hTk]; rfl
            have hlt3 := hri.lt
            rw [hnt] at hlt3
            have hzf0 := hri.chain.le
            simp only at hlt3 hzf0
            obtain ⟨M, hM⟩ : ∃ M : List Lv, M = zl.map (fun x => ⟨x.1, x.2.2⟩) := ⟨_, rfl⟩
            obtain ⟨X, hX⟩ : ∃ X : Lv, X = ⟨zf, zp⟩ := ⟨_, rfl⟩
            have hO : outL (zl, (zf, zp)) = M ++ [X] := by rw [hM, hX]; rfl
            rw [hO] at hol ⊢
            have hOx : (M ++ [X])[M.length]? = some X := by simp
            have hOl : (M ++ [X]).length = M.length + 1 := by simp
            refine H_skip ?_
            refine thenJ_normal ?_
            refine H_seq ?_
            refine H_know (fun w hw => rowT_at (j := 3) hw rfl (by omega)) fun ⟨ob, hob⟩ => ?_
            subst hob
            obtain ⟨yA, yc, yB, yd⟩ := y2
            refine R0 ?_
            refine xV (eS Try.isAgg80 Try.sizeOf80 (q0 rfl)) rfl rfl ?_
            refine xV (e_mv (v := .int _ _) (q0 rfl)) rfl rfl ?_
            refine xC (en Try.call55 (ha2 (q0 rfl) (q0 rfl))) (fun _ w hm => carried_w yA (applyR r e).spots.length yc yB (applyR r e).trips.length yd (applyR r e).spots tk w (slAt_row hm (j := 1) rfl (fun _ => rfl) (by omega))) rfl rfl ?_
            rw [← hcn]
            refine xV (e_as (v := .int _ _) (q0 rfl)) rfl rfl ?_
            refine XN ?_
            refine thenJ_normal ?_
            refine H_seq ?_
            refine R0 ?_
            refine xV (e_mv (v := .slice _ _ _) (q0 rfl)) rfl rfl ?_
            refine xV (e_mv (v := .int _ _) (q0 rfl)) rfl rfl ?_
            refine xV (e_idx _ Try.underlying25 Try.sizeOf67 (q0 rfl) (q0 rfl) (fun _ => ⟨rfl, by omega⟩)) rfl rfl ?_
            refine xV (e_fld Try.underlying67 rfl Try.sizeOf3 rfl (q0 rfl)) rfl rfl ?_
            refine xV (eL Try.isAgg3 (q0 rfl)) rfl rfl ?_
            refine xV (e_eq (q0 rfl) (q0 rfl)) rfl rfl ?_
            refine XN ?_
            refine thenJ_normal ?_
            refine H_cond rfl (fun hz0 => ?_) (fun hz0 => ?_)
            · have hz0' : e.at_ = 0 := by simpa using hz0
              have hzl : zl = [] ∧ zf = 0 := by
                rcases hlt3 with h | h
                · exact h
                · omega
              have hM0 : M = [] := by rw [hM, hzl.1]; rfl
              have hO2 : outL (rK T (0 : Int) (k + 1)) = [⟨0, cn⟩] := by
                rw [hkr]
                by_cases h5 : zp = cn
                · rw [if_pos h5, hzl.1, hzl.2, h5]; rfl
                · rw [if_neg h5, if_pos (by rw [hzl.2, hz0']), hzl.1, hz0']; rfl
              rw [hM0] at hOx
              have hOx' : ([] ++ [X])[0]? = some X := hOx
              rw [hM0]
              refine R0 ?_
              refine xV (e_mv (v := .slice _ _ _) (q0 rfl)) rfl rfl ?_
              refine xV (e_mv (v := .int _ _) (q0 rfl)) rfl rfl ?_
              refine xV (e_idx 0 Try.underlying49 Try.sizeOf63 (q0 rfl) (q0 rfl) (fun _ => ⟨rfl, by simp⟩)) rfl rfl ?_
              refine xV (e_fld Try.underlying63 rfl Try.sizeOf3 rfl (q0 rfl)) rfl rfl ?_
              refine X_eff (f_storeR 3 (k := 2) (enc := Lv.cells) (i := 0) (off := 1) ({ X with count := cn } : Lv) rfl rfl Try.sizeOf3 rfl rfl rfl hOx' rfl rfl ?_)
              refine XN ?_
              refine blockJ_normal ?_
              refine thenJ_normal ?_
              refine R0 ?_
              refine xV (e_mv (v := .int _ _) (q0 rfl)) rfl rfl ?_
              refine xV (e_add (q0 rfl) (q0 rfl) (fun _ => ⟨rfl, by omega, by omega⟩)) rfl rfl ?_
              refine xV (e_as (v := .int _ _) (q0 rfl)) rfl rfl ?_
              refine XN ?_
              exact loopJ_normal (k + 1, ⟨⟨yA, yc, yB, yd⟩, applyR r e, some ⟨ob, 0, none⟩, oc⟩) (by repeat (first | exact agree_self | exact agree_over | refine agree_upd rfl ?_ | refine agree_updL rfl ?_ | refine agree_over2 rfl ?_)) ⟨rfl, by show _ = Value.slice _ (outL (rK T (0 : Int) (k + 1))).length oc; rw [hO2]; rfl, trivial⟩ (fun w hw => by show Mem _ [_, _, _, lvRow _ oc (outL (rK T (0 : Int) (k + 1))), _, _] w; rw [hO2, show (⟨0, cn⟩ : Lv) = { X with count := cn } by rw [hX, hzl.2]]; exact hw) rfl ⟨by show k + 1 ≤ _; omega, hap, by show (applyR r e).trips.length ≤ k + 1; omega, by show (outL (rK T (0 : Int) (k + 1))).length ≤ k + 1 + 1; rw [hO2]; simp⟩ (by show acc.length - (k + 1) < acc.length - k; omega)
            · have hz0' : ¬ e.at_ = 0 := by simpa using hz0
              have hzne : ¬ zf = e.at_ := by
                rcases hlt3 with h | h
                · omega
                · omega
              refine H_seq ?_
              refine R0 ?_
              refine xV (e_mv (v := .int _ _) (q0 rfl)) rfl rfl ?_
              refine xV (e_mv (v := .slice _ _ _) (q0 rfl)) rfl rfl ?_
              refine xV (e_mv (v := .slice _ _ _) (q0 rfl)) rfl rfl ?_
              refine xV (e_len Try.underlying49 (q0 rfl)) rfl rfl ?_
              refine xV (e_sub (q0 rfl) (q0 rfl) (fun _ => ⟨rfl, by omega, by omega⟩)) rfl rfl ?_
              refine xV (e_idx M.length Try.underlying49 Try.sizeOf63 (q0 rfl) (q0 rfl) (fun _ => ⟨by omega, by omega⟩)) rfl rfl ?_
              refine xV (e_fld Try.underlying63 rfl Try.sizeOf3 rfl (q0 rfl)) rfl rfl ?_
              refine xV (eL Try.isAgg3 (q0 rfl)) rfl rfl ?_
              refine xV (e_ne (q0 rfl) (q0 rfl)) rfl rfl ?_
              refine XN ?_
              refine thenJ_normal ?_
              refine H_cond rfl (fun hne => ?_) (fun hne => ?_)
              · have hne' : ¬ zp = cn := by
                  rw [hX] at hne
                  simp at hne
                  exact fun h => hne h.symm
                rw [if_neg hne', if_neg hzne] at hkr
                have hO2 : outL (rK T (0 : Int) (k + 1)) = M ++ [X] ++ [⟨e.at_, cn⟩] := by rw [hkr, hM, hX]; simp [outL]
                refine R0 ?_
                refine xV (e_mv (v := .slice _ _ _) (q0 rfl)) rfl rfl ?_
                refine xV (e_mv (v := .slice _ _ _) (q0 rfl)) rfl rfl ?_
                refine xV (e_mv (v := .int _ _) (q0 rfl)) rfl rfl ?_
                refine xV (e_idx _ Try.underlying25 Try.sizeOf67 (q0 rfl) (q0 rfl) (fun _ => ⟨rfl, by omega⟩)) rfl rfl ?_
                refine xV (e_fld Try.underlying67 rfl Try.sizeOf3 rfl (q0 rfl)) rfl rfl ?_
                refine xV (eL Try.isAgg3 (q0 rfl)) rfl rfl ?_
                refine xV (e_mv (v := .int _ _) (q0 rfl)) rfl rfl ?_
                refine xV (e_build Try.underlying63 fl63 Try.zeroValue63 (pt (v := .int _ _) rfl (pt (v := .int _ _) rfl E.p0)) rfl) rfl rfl ?_
                refine X_push (k := 2) (i := Try.t63) 3 (⟨e.at_, cn⟩) Try.underlying49 (by kernel_rfl) rfl rfl rfl rfl Try.sizeOf63 Try.zeroValue63 rfl rfl rfl rfl rfl rfl ⟨by omega, by decide⟩ rfl rfl fun PB A1 c1 => ?_
                refine xV (e_as (v := .slice _ _ _) (q0 rfl)) rfl rfl ?_
                refine XN ?_
                refine blockJ_normal ?_
                refine thenJ_normal ?_
                refine R0 ?_
                refine xV (e_mv (v := .int _ _) (q0 rfl)) rfl rfl ?_
                refine xV (e_add (q0 rfl) (q0 rfl) (fun _ => ⟨rfl, by omega, by omega⟩)) rfl rfl ?_
                refine xV (e_as (v := .int _ _) (q0 rfl)) rfl rfl ?_
                refine XN ?_
                exact loopJ_normal (k + 1, ⟨⟨yA, yc, yB, yd⟩, applyR r e, A1, c1⟩) (by repeat (first | exact agree_self | exact agree_over | refine agree_upd rfl ?_ | refine agree_updL rfl ?_ | refine agree_over2 rfl ?_)) ⟨rfl, by show _ = Value.slice _ (outL (rK T (0 : Int) (k + 1))).length _; rw [hO2]; rfl, trivial⟩ (fun w hw => by show Mem _ [_, _, _, lvRow _ _ (outL (rK T (0 : Int) (k + 1))), _, _] w; rw [hO2]; exact hw) rfl ⟨by show k + 1 ≤ _; omega, hap, by show (applyR r e).trips.length ≤ k + 1; omega, by show (outL (rK T (0 : Int) (k + 1))).length ≤ k + 1 + 1; rw [hO2]; simp at hol ⊢; omega⟩ (by show acc.length - (k + 1) < acc.length - k; omega)
              · have hne' : zp = cn := by
                  rw [hX] at hne
                  simp at hne
                  exact hne.symm
                rw [if_pos hne'] at hkr
                have hO2 : outL (rK T (0 : Int) (k + 1)) = M ++ [X] := by rw [hkr, hO]
                refine H_skip ?_
                refine blockJ_normal ?_
                refine thenJ_normal ?_
                refine R0 ?_
                refine xV (e_mv (v := .int _ _) (q0 rfl)) rfl rfl ?_
                refine xV (e_add (q0 rfl) (q0 rfl) (fun _ => ⟨rfl, by omega, by omega⟩)) rfl rfl ?_
                refine xV (e_as (v := .int _ _) (q0 rfl)) rfl rfl ?_
                refine XN ?_
                exact loopJ_normal (k + 1, ⟨⟨yA, yc, yB, yd⟩, applyR r e, some ⟨ob, 0, none⟩, oc⟩) (by repeat (first | exact agree_self | exact agree_over | refine agree_upd rfl ?_ | refine agree_updL rfl ?_ | refine agree_over2 rfl ?_)) ⟨rfl, by show _ = Value.slice _ (outL (rK T (0 : Int) (k + 1))).length oc; rw [hO2]; rfl, trivial⟩ (fun w hw => by show Mem _ [_, _, _, lvRow _ oc (outL (rK T (0 : Int) (k + 1))), _, _] w; rw [hO2]; exact hw) rfl ⟨by show k + 1 ≤ _; omega, hap, by show (applyR r e).trips.length ≤ k + 1; omega, by show (outL (rK T (0 : Int) (k + 1))).length ≤ k + 1 + 1; rw [hO2]; omega⟩ (by show acc.length - (k + 1) < acc.length - k; omega)
      · have hend : k = acc.length := by simp at hlt; omega
        subst hend
        refine H_exit ?_
        refine thenJ_exit ?_
        refine loopJ_exit ?_
        refine blockJ_hit ?_
        refine thenJ_normal ?_
        refine H_seq ?_
        refine R0 ?_
        refine xV (e_mv (v := .slice _ _ _) (q0 rfl)) rfl rfl ?_
        refine xV (e_as (v := .slice _ _ _) (q0 rfl)) rfl rfl ?_
        refine xV (e_as (v := .int _ _) (q0 rfl)) rfl rfl ?_
        refine XN ?_
        refine thenJ_normal ?_
        refine H_ret ?_
        exact ret2 (v := .slice _ _ _) (x := .int _ _) rfl rfl rfl rfl fun w' hw => ⟨(oA, oc), rfl, hw.pick [3] (by decide)⟩

end Go.Proofs.Cus

/-
  The law of the traces.
-/
namespace Go.Proofs.Cus
open Go Go.RowKit Go.Proofs.E

attribute [local irreducible] staysOf flErr stayErr fewP loadsOf loadErr
set_option maxRecDepth 20000 in
theorem traces_w (f : Fl) (a : FA) (A : Option Addr) (n c : Nat) (xs : List Ev) (t0 t1 : Int) (w : World) (hf : FlAt w f a) (hx : EvsAt w A n xs) (hpl : PlOk xs) :
    Calls Try.prog 5 #[.agg (f.cells a).toArray, .slice A n c, .agg #[.int .i64 t0, .int .i64 t1]] w fun e w' => e = .returned (.bool true) ∧ Bel w w' := by
  refine H_enter Try.func5 rfl Try.ntmps5 rfl ?_
  refine H_seq ?_
  refine R0 ?_
  refine X_box (v := .agg _) rfl rfl fun b3 => ?_
  refine X_box (v := .agg _) rfl rfl fun b5 => ?_
  refine xV (e_as (v := .bool _) (q0 rfl)) rfl rfl ?_
  refine XN ?_
  refine thenJ_normal ?_
  refine H_seq ?_
  refine H_seq ?_
  refine R0 ?_
  refine xV (eS Try.isAgg24 Try.sizeOf24 (q0 rfl)) rfl rfl ?_
  refine xV (e_mv (v := .slice _ _ _) (q0 rfl)) rfl rfl ?_
  refine xC (en Try.call12 (ha2 (q0 rfl) (q0 rfl))) (fun _ w _ => few_w f a A n c w) rfl rfl ?_
  refine xV (e_not (q0 rfl)) rfl rfl ?_
  refine XN ?_
  refine thenJ_normal ?_
  refine H_cond rfl (fun h1 => ?_) (fun h1 => ?_)
  · refine H_seq ?_
    refine R0 ?_
    refine xC (en Try.call13 (ha0)) (fun _ w _ => awake_w w) rfl rfl ?_
    refine xV (e_as (v := .bool _) (q0 rfl)) rfl rfl ?_
    refine XN ?_
    refine thenJ_normal ?_
    refine H_ret ?_
    refine thenJ_ret ?_
    exact ret1 (v := .bool _) rfl rfl rfl fun w' hw => ⟨rfl, hw.1⟩
  · have hn := few_n h1
    refine H_skip ?_
    refine thenJ_normal ?_
    refine H_seq ?_
    refine R0 ?_
    refine xV (eS Try.isAgg24 Try.sizeOf24 (q0 rfl)) rfl rfl ?_
    refine xV (e_mv (v := .slice _ _ _) (q0 rfl)) rfl rfl ?_
    refine xV (e_idxA 0 Try.underlying36 Try.sizeOf3 (q0 rfl) (q0 rfl) (fun _ => ⟨rfl, by decide⟩)) rfl rfl ?_
    refine xV (eL Try.isAgg3 (q0 rfl)) rfl rfl ?_
    refine xCX (en Try.call25 (ha3 (q0 rfl) (q0 rfl) (q0 rfl))) (fun w hw => stays_w f a A n c xs t0 w (hf.mem hw) (hx.mem hw) (by omega) hpl) rfl (fun _ => rfl) fun s1 => ?_
    refine xV (e_mv (q0 rfl)) rfl rfl ?_
    refine xV (e_ext (q0 rfl) rfl) rfl rfl ?_
    refine xV (e_ext (q0 rfl) rfl) rfl rfl ?_
    refine xV (e_as (v := .slice _ _ _) (q0 rfl)) rfl rfl ?_
    refine xV (e_as (v := .int _ _) (q0 rfl)) rfl rfl ?_
    refine XN ?_
    refine thenJ_normal ?_
    refine H_seq ?_
    refine R0 ?_
    refine xV (eS Try.isAgg24 Try.sizeOf24 (q0 rfl)) rfl rfl ?_
    refine xV (e_mv (v := .slice _ _ _) (q0 rfl)) rfl rfl ?_
    refine xV (e_idxA 0 Try.underlying36 Try.sizeOf3 (q0 rfl) (q0 rfl) (fun _ => ⟨rfl, by decide⟩)) rfl rfl ?_
    refine xV (eL Try.isAgg3 (q0 rfl)) rfl rfl ?_
    refine xCX (en Try.call26 (ha3 (q0 rfl) (q0 rfl) (q0 rfl))) (fun w hw => rstays_w f a A n c xs t0 w (hf.mem hw) (hx.mem hw) (by omega) hpl) rfl (fun _ => rfl) fun s2 => ?_
    refine xV (e_mv (q0 rfl)) rfl rfl ?_
    refine xV (e_ext (q0 rfl) rfl) rfl rfl ?_
    refine xV (e_ext (q0 rfl) rfl) rfl rfl ?_
    refine xV (e_as (v := .slice _ _ _) (q0 rfl)) rfl rfl ?_
    refine xV (e_as (v := .int _ _) (q0 rfl)) rfl rfl ?_
    refine XN ?_
    refine thenJ_normal ?_
    refine H_seq ?_
    refine R0 ?_
    refine xV (eS Try.isAgg24 Try.sizeOf24 (q0 rfl)) rfl rfl ?_
    refine xV (e_mv (v := .slice _ _ _) (q0 rfl)) rfl rfl ?_
    refine xV (e_idxA 1 Try.underlying36 Try.sizeOf3 (q0 rfl) (q0 rfl) (fun _ => ⟨rfl, by decide⟩)) rfl rfl ?_
    refine xV (eL Try.isAgg3 (q0 rfl)) rfl rfl ?_
    refine xCX (en Try.call27 (ha3 (q0 rfl) (q0 rfl) (q0 rfl))) (fun w hw => loads_w f a A n c xs t1 w (hf.mem hw) (hx.mem hw) (by omega) hpl) rfl (fun _ => rfl) fun s3 => ?_
    refine xV (e_mv (q0 rfl)) rfl rfl ?_
    refine xV (e_ext (q0 rfl) rfl) rfl rfl ?_
    refine xV (e_ext (q0 rfl) rfl) rfl rfl ?_
    refine xV (e_as (v := .slice _ _ _) (q0 rfl)) rfl rfl ?_
    refine xV (e_as (v := .int _ _) (q0 rfl)) rfl rfl ?_
    refine XN ?_
    refine thenJ_normal ?_
    refine H_seq ?_
    refine R0 ?_
    refine xV (eS Try.isAgg24 Try.sizeOf24 (q0 rfl)) rfl rfl ?_
    refine xV (e_mv (v := .slice _ _ _) (q0 rfl)) rfl rfl ?_
    refine xV (e_idxA 1 Try.underlying36 Try.sizeOf3 (q0 rfl) (q0 rfl) (fun _ => ⟨rfl, by decide⟩)) rfl rfl ?_
    refine xV (eL Try.isAgg3 (q0 rfl)) rfl rfl ?_
    refine xCX (en Try.call28 (ha3 (q0 rfl) (q0 rfl) (q0 rfl))) (fun w hw => rloads_w f a A n c xs t1 w (hf.mem hw) (hx.mem hw) (by omega) hpl) rfl (fun _ => rfl) fun s4 => ?_
    refine xV (e_mv (q0 rfl)) rfl rfl ?_
    refine xV (e_ext (q0 rfl) rfl) rfl rfl ?_
    refine xV (e_ext (q0 rfl) rfl) rfl rfl ?_
    refine xV (e_as (v := .slice _ _ _) (q0 rfl)) rfl rfl ?_
    refine xV (e_as (v := .int _ _) (q0 rfl)) rfl rfl ?_
    refine XN ?_
    refine thenJ_normal ?_
    refine H_seq ?_
    refine R0 ?_
    refine xV (e_mv (v := .slice _ _ _) (q0 rfl)) rfl rfl ?_
    refine xV (e_mv (v := .slice _ _ _) (q0 rfl)) rfl rfl ?_
    refine xC (en Try.call29 (ha2 (q0 rfl) (q0 rfl))) (fun _ w hw => sameSty_w s1.1 s2.1 _ _ s1.2 s2.2 (staysOf f xs t0) (staysOf f xs t0) w (slRow hw (j := 3) rfl (fun _ => rfl)) (slRow hw (j := 2) rfl (fun _ => rfl))) rfl rfl ?_
    refine xV (e_mv (v := .bool _) (q0 rfl)) rfl rfl ?_
    refine xVT (e_mv (v := .int _ _) (q0 rfl)) rfl rfl rfl rfl ?_
    refine xVT (e_mv (v := .int _ _) (q0 rfl)) rfl rfl rfl rfl ?_
    refine xVT (e_eq (q1 rfl) (q1 rfl)) rfl rfl rfl rfl ?_
    refine xV (e_and (q0 rfl) rfl (fun h => by first | rfl | (rw [h]; rfl))) rfl rfl ?_
    refine xV (e_mv (v := .bool _) (q0 rfl)) rfl rfl ?_
    refine xVT (e_mv (v := .slice _ _ _) (q0 rfl)) rfl rfl rfl rfl ?_
    refine xVT (e_mv (v := .slice _ _ _) (q0 rfl)) rfl rfl rfl rfl ?_
    refine xCT (en Try.call30 (ha2 (q1 (v := .slice _ _ _) rfl) (q1 (v := .slice _ _ _) rfl))) (fun _ w hw => sameLv_w s3.1 s4.1 _ _ s3.2 s4.2 (loadsOf f xs t1) (loadsOf f xs t1) w (slRow hw (j := 1) rfl (fun _ => rfl)) (slRow hw (j := 0) rfl (fun _ => rfl))) rfl rfl rfl rfl ?_
    refine xV (e_and (q0 rfl) rfl (fun h => by first | rfl | (rw [h]; rfl))) rfl rfl ?_
    refine xV (e_mv (v := .bool _) (q0 rfl)) rfl rfl ?_
    refine xVT (e_mv (v := .int _ _) (q0 rfl)) rfl rfl rfl rfl ?_
    refine xVT (e_mv (v := .int _ _) (q0 rfl)) rfl rfl rfl rfl ?_
    refine xVT (e_eq (q1 rfl) (q1 rfl)) rfl rfl rfl rfl ?_
    refine xV (e_and (q0 rfl) rfl (fun h => by first | rfl | (rw [h]; rfl))) rfl rfl ?_
    refine xV (e_mv (v := .bool _) (q0 rfl)) rfl rfl ?_
    refine xCT (en Try.call13 (ha0)) (fun _ w _ => awake_w w) rfl rfl rfl rfl ?_
    refine xV (e_and (q0 rfl) rfl (fun h => by first | rfl | (rw [h]; rfl))) rfl rfl ?_
    refine xV (e_as (v := .bool _) (q0 rfl)) rfl rfl ?_
    refine XN ?_
    refine thenJ_normal ?_
    refine H_ret ?_
    exact ret1 (v := .bool _) rfl rfl rfl fun w' hw => ⟨ret_bool (by simp), hw.1⟩

end Go.Proofs.Cus
