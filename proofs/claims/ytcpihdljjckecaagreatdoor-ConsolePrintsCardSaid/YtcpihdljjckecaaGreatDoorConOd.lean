import Derived.Test.YtcpihdljjckecaaGreatDoorConOa
import Derived.Test.YtcpihdljjckecaaGreatDoorConOc
import Derived.Test.YtcpihdljjckecaaGreatDoorConC
import Derived.Test.YtcpihdljjckecaaGreatDoorConP
set_option linter.unusedVariables false
set_option linter.unusedSimpArgs false
/-
  The evaluator: the functions that range over maps, told by what they do.
-/
set_option linter.unusedVariables false
namespace Go.Proofs.O
open Go
/-- the cell's integer -/
noncomputable def ci (r : List V) (i : Nat) : Int := OI.rec (motive := fun _ => Int) 0 (fun _ n => n) (asI (nth .bad r i))
noncomputable def lt2 (a b : Int) (r : Bool) : Bool := Bool.rec (motive := fun _ => Bool) true (Bool.rec (motive := fun _ => Bool) false r (ile b a)) (ile b a)
/-- a comes before b: the moment, the device, the number -/
noncomputable def evLt (a b : List V) : Bool := Bool.rec (motive := fun _ => Bool) (bnot (ile (ci b 2) (ci a 2))) (Bool.rec (motive := fun _ => Bool) (bnot (ile (ci b 0) (ci a 0))) (bnot (ile (ci b 1) (ci a 1))) (ieq (ci a 0) (ci b 0))) (ieq (ci a 2) (ci b 2))
noncomputable def evIns (x : List V) (l : List (List V)) : List (List V) := List.rec (motive := fun _ => List (List V)) [x] (fun y r ih => Bool.rec (motive := fun _ => List (List V)) (y :: ih) (x :: y :: r) (evLt x y)) l
noncomputable def evSort (l : Es) : List (List V) := List.rec (motive := fun _ => List (List V)) [] (fun e _ ih => evIns (cel e.2.1) ih) l
/-- an event at odds with another one of its device -/
noncomputable def evOdd (x e : List V) : Bool := band (ieq (ci x 0) (ci e 0)) (Bool.rec (motive := fun _ => Bool) (band (bnot (ile (ci x 1) (ci e 1))) (bnot (ile (ci e 2) (ci x 2)))) true (band (bnot (ile (ci e 1) (ci x 1))) (bnot (ile (ci x 2) (ci e 2)))))
noncomputable def evFit (e : List V) (l : Es) : Bool := List.rec (motive := fun _ => Bool) true (fun x _ ih => Bool.rec (motive := fun _ => Bool) ih false (evOdd (cel x.2.1) e)) l
noncomputable def isI (v : V) : Bool := OI.rec (motive := fun _ => Bool) false (fun k _ => keq k .i64) (asI v)
noncomputable def allI (l : List V) : Bool := List.rec (motive := fun _ => Bool) true (fun x _ ih => band (isI x) ih) l
/-- an event -/
noncomputable def evSh (cs : List V) : Bool := band (Nat.beq (len cs) 9) (allI cs)
/-- an entry of a replica -/
noncomputable def enSh (e : V × V × Nat) : Bool := band (agA e.1) (band (agA e.2.1) (band (Nat.beq (len (cel e.1)) 2) (band (allI (cel e.1)) (band (evSh (cel e.2.1)) (band (ieq (ci (cel e.1) 0) (ci (cel e.2.1) 0)) (band (ieq (ci (cel e.1) 1) (ci (cel e.2.1) 1)) (band (ile 0 (ci (cel e.2.1) 0)) (ile 1 (ci (cel e.2.1) 1)))))))))
noncomputable def enAll (cl : Nat) (es : Es) : Nat → Bool := List.rec (motive := fun _ => Nat → Bool) (fun _ => true) (fun e _ ih lo => band (Nat.ble lo e.2.2) (band (Nat.blt e.2.2 cl) (band (enSh e) (ih (Nat.succ e.2.2))))) es
/-- the entries' table, if all is in shape -/
noncomputable def repE : BM → BM := BM.rec (motive := fun _ => BM) .no (fun es cl => Bool.rec (motive := fun _ => BM) .no (.m es cl) (band (Nat.ble (len es) 1000) (enAll cl es 0)))
noncomputable def repM (s : St) : BC → BM := BC.rec (motive := fun _ => BM) .no (fun _ _ _ rows => Bool.rec (motive := fun _ => BM) .no (OM.rec (motive := fun _ => BM) .no .no (fun id => repE (asBM (blk s id))) (asM (nth .bad (nth [] rows 0) 1))) (Nat.beq (len (nth [] rows 0)) 2))
noncomputable def repl (x : V) (s : St) : BM := OP.rec (motive := fun _ => BM) .no (fun id off => Bool.rec (motive := fun _ => BM) .no (repM s (asBC (blk s id))) (Nat.beq off 0)) (asP x)
noncomputable def fitsY (x e : V) (s : St) : Out := Bool.rec (motive := fun _ => Out) (.er 199) (BM.rec (motive := fun _ => Out) (.er 200) (fun es _ => .ok .n fm0 (.b (evFit (cel e) es)) s) (repl x s)) (band (agA e) (evSh (cel e)))
noncomputable def ar2 (l : List V) (k : V → V → St → Out) (s : St) : Out := List.rec (motive := fun _ => Out) (.er 198) (fun x l _ => List.rec (motive := fun _ => Out) (.er 198) (fun y l _ => List.rec (motive := fun _ => Out) (k x y s) (fun _ _ _ => .er 198) l) l) l
noncomputable def fitsX (l : List V) (s : St) : Out := ar2 l fitsY s
noncomputable def aft (x : List V) (l : List (List V)) : Bool := List.rec (motive := fun _ => Bool) true (fun y _ ih => band (evLt x y) ih) l
noncomputable def asc (l : List (List V)) : Bool := List.rec (motive := fun _ => Bool) true (fun x r ih => band (aft x r) ih) l
noncomputable def sinB (t : TypeId) (s : St) (rows : List (List V)) : Out := List.rec (motive := fun _ => Out) (.ok .n fm0 .nsl s) (fun _ _ _ => Bool.rec (motive := fun _ => Out) (.er 202) (.ok .n fm0 (.sl s.nx 0 (len rows) none) (new s (.c t 9 false rows))) (Nat.blt (Nat.succ s.nx) 1000000)) rows
noncomputable def sinC (t : TypeId) (s : St) (rows : List (List V)) : Out := Bool.rec (motive := fun _ => Out) (.er 202) (sinB t s rows) (asc rows)
noncomputable def sinY (t : TypeId) (x y : V) (s : St) : Out := Bool.rec (motive := fun _ => Out) (.er 201) (BM.rec (motive := fun _ => Out) (.er 202) (fun es _ => sinC t s (evSort es)) (repl x s)) (Nat.beq (nilK y) 2)
noncomputable def sinX (t : TypeId) (l : List V) (s : St) : Out := ar2 l (sinY t) s
noncomputable def extG (fits since : FuncId) (t : TypeId) (k : FuncId) : Xt := Bool.rec (motive := fun _ => Xt) (Bool.rec (motive := fun _ => Xt) ⟨none⟩ ⟨some (sinX t)⟩ (Nat.beq k since)) ⟨some fitsX⟩ (Nat.beq k fits)
end Go.Proofs.O

/-
  The functions that are told by what they do: replicas of events.
-/
set_option linter.unusedVariables false
set_option linter.unusedSimpArgs false
namespace Go.Proofs.O
open Go Go.Proofs.E

/-! shapes -/
theorem isI_ok {v : V} (h : isI v = true) : ∃ n, v = .i .i64 n := by
  cases v <;> try (cases h; done)
  rename_i k n
  have := keq_t.1 (h : keq k .i64 = true)
  subst this; exact ⟨n, rfl⟩
theorem allI_ok : ∀ {l : List V}, allI l = true → ∀ v ∈ l, ∃ n, v = .i .i64 n
  | [], _, v, hv => by cases hv
  | x :: l, h, v, hv => by
    obtain ⟨h1, h2⟩ := band_t.1 (h : band (isI x) (allI l) = true)
    rcases List.mem_cons.1 hv with rfl | hv
    · exact isI_ok h1
    · exact allI_ok h2 v hv
theorem agA_eq {v : V} (h : agA v = true) : v = .a (cel v) := by cases v <;> first | rfl | (cases h; done)
/-- the event that cells tell -/
noncomputable def evO (r : List V) : Cus.Ev := ⟨ci r 0, ci r 1, ci r 2, ci r 3, ci r 4, ci r 5, ci r 6, ci r 7, ci r 8⟩
theorem ints_of (ρ : Env) : ∀ {l : List V}, allI l = true → cvL ρ l = (l.map fun v => (OI.rec (motive := fun _ => Int) 0 (fun _ n => n) (asI v) : Int)).map (Value.int .i64)
  | [], _ => rfl
  | x :: l, h => by
    obtain ⟨h1, h2⟩ := band_t.1 (h : band (isI x) (allI l) = true)
    obtain ⟨n, rfl⟩ := isI_ok h1
    simp only [cvL, cv, List.map_cons, ints_of ρ h2]
    rfl
theorem ev_of (ρ : Env) {cs : List V} (h : evSh cs = true) : cvL ρ cs = (evO cs).cells := by
  obtain ⟨h1, h2⟩ := band_t.1 h
  have hl := beq_t.1 h1
  rw [len_eq] at hl
  rw [ints_of ρ h2]
  match cs, hl with
  | [a1, a2, a3, a4, a5, a6, a7, a8, a9], _ => rfl
theorem key_of (ρ : Env) {cs : List V} (hl : cs.length = 2) (h2 : allI cs = true) : cvL ρ cs = [.int .i64 (ci cs 0), .int .i64 (ci cs 1)] := by
  rw [ints_of ρ h2]
  match cs, hl with
  | [a1, a2], _ => rfl
structure En (ρ : Env) (e : V × V × Nat) : Prop where
  key : cv ρ e.1 = .agg (Gos.keyC (evO (cel e.2.1))).toArray
  val : cv ρ e.2.1 = .agg (evO (cel e.2.1)).cells.toArray
  seq : 0 ≤ (evO (cel e.2.1)).device ∧ 1 ≤ (evO (cel e.2.1)).seq
  sh : evSh (cel e.2.1) = true
theorem enSh_ok (ρ : Env) {e : V × V × Nat} (h : enSh e = true) : En ρ e := by
  obtain ⟨h1, h⟩ := band_t.1 h
  obtain ⟨h2, h⟩ := band_t.1 h
  obtain ⟨h3, h⟩ := band_t.1 h
  obtain ⟨h4, h⟩ := band_t.1 h
  obtain ⟨h5, h⟩ := band_t.1 h
  obtain ⟨h6, h⟩ := band_t.1 h
  obtain ⟨h7, h⟩ := band_t.1 h
  obtain ⟨h9, h8⟩ := band_t.1 h
  have hl := beq_t.1 h3
  rw [len_eq] at hl
  rw [ieq_eq, decide_eq_true_eq] at h6 h7
  rw [ile_eq, decide_eq_true_eq] at h8 h9
  refine ⟨?_, ?_, ⟨h9, h8⟩, h5⟩
  · rw [agA_eq h1, cv, key_of ρ hl h4, h6, h7]; rfl
  · conv => lhs; rw [agA_eq h2, cv]
    rw [ev_of ρ h5]
theorem enAll_ok (ρ : Env) {cl : Nat} : ∀ {es : Es} {lo : Nat}, enAll cl es lo = true → BornOk (es.map (entV ρ)) cl ∧ (∀ e ∈ es, lo ≤ e.2.2) ∧ ∀ e ∈ es, En ρ e
  | [], lo, _ => ⟨⟨by simp, by simp⟩, fun e he => (by cases he), fun e he => (by cases he)⟩
  | e :: es, lo, h => by
    obtain ⟨h1, h⟩ := band_t.1 (h : band (Nat.ble lo e.2.2) (band (Nat.blt e.2.2 cl) (band (enSh e) (enAll cl es (Nat.succ e.2.2)))) = true)
    obtain ⟨h2, h⟩ := band_t.1 h
    obtain ⟨h3, h4⟩ := band_t.1 h
    obtain ⟨⟨q1, q2⟩, q3, q4⟩ := enAll_ok ρ h4
    have h1 := ble_t.1 h1
    have h2 := blt_t.1 h2
    refine ⟨⟨?_, ?_⟩, ?_, ?_⟩
    rotate_left
    · intro x hx
      rcases List.mem_cons.1 hx with rfl | hx
      · exact h2
      · exact q2 x hx
    · intro x hx
      rcases List.mem_cons.1 hx with rfl | hx
      · exact h1
      · have := q3 x hx; omega
    · intro x hx
      rcases List.mem_cons.1 hx with rfl | hx
      · exact enSh_ok ρ h3
      · exact q4 x hx
    · rw [List.map_cons, List.pairwise_cons]
      refine ⟨fun x hx => ?_, q1⟩
      obtain ⟨y, hy, rfl⟩ := List.mem_map.1 hx
      exact q3 y hy
noncomputable def evsO (es : Es) : List Cus.Ev := es.map fun e => evO (cel e.2.1)
/-- the replica behind a pointer -/
theorem repl_ok {ρ : Env} {s : St} {x : V} {es : Es} {cl : Nat} (h : repl x s = .m es cl) {w0 w : World} {F : List E.Item} (hw : Mem w0 (hitem ρ s.hp :: F) w) :
    ∃ b o v m, cv ρ x = .pointer (some ⟨b, o, none⟩) ∧ Gos.RpAt w b o v m (es.map (entV ρ)).toArray cl (evsO es) ∧ es.length ≤ 1000 ∧ ∀ e ∈ es, En ρ e := by
  cases x <;> try (cases h; done)
  rename_i id off
  have h2 : (Bool.rec (motive := fun _ => BM) .no (repM s (asBC (blk s id))) (Nat.beq off 0)) = .m es cl := h
  rw [brec] at h2
  split at h2
  · rename_i ho
    have ho := beq_t.1 ho
    subst ho
    cases hb : asBC (blk s id) with
    | no => rw [hb] at h2; cases h2
    | c t sz ex rows =>
      rw [hb] at h2
      obtain ⟨st, hst⟩ := asBC_ok hb
      have hst : hget s.hp id = .bk st (.c t sz ex rows) := hst
      have h3 : (Bool.rec (motive := fun _ => BM) .no (OM.rec (motive := fun _ => BM) .no .no (fun id => repE (asBM (blk s id))) (asM (nth .bad (nth [] rows 0) 1))) (Nat.beq (len (nth [] rows 0)) 2)) = .m es cl := h2
      rw [brec] at h3
      split at h3
      · rename_i hl
        have hl := beq_t.1 hl
        rw [len_eq, nth_eq, List.getD_eq_getElem?_getD] at hl
        rw [nth_eq, List.getD_eq_getElem?_getD] at h3
        cases rows with
        | nil => simp at hl
        | cons row rows =>
          simp only [List.getElem?_cons_zero, Option.getD_some] at hl h3
          match row, hl with
          | [c0, c1], _ =>
            have h4 : OM.rec (motive := fun _ => BM) .no .no (fun id => repE (asBM (blk s id))) (asM c1) = .m es cl := h3
            cases c1 <;> try (cases h4; done)
            rename_i mid _ _
            have h5 : repE (asBM (blk s mid)) = .m es cl := h4
            cases hm : asBM (blk s mid) with
            | no => rw [hm] at h5; cases h5
            | m es2 cl2 =>
              rw [hm] at h5
              have h6 : (Bool.rec (motive := fun _ => BM) .no (.m es2 cl2) (band (Nat.ble (len es2) 1000) (enAll cl2 es2 0))) = .m es cl := h5
              rw [brec] at h6
              split at h6
              · rename_i hc
                injection h6 with h6 h7
                subst h6; subst h7
                obtain ⟨hc1, hc2⟩ := band_t.1 hc
                obtain ⟨st2, hst2⟩ := asBM_ok hm
                have hst2 : hget s.hp mid = .bk st2 (.m es2 cl2) := hst2
                obtain ⟨hsz, hsz0, hrl, pre, post, hhp, hpre, hpost, hex⟩ := m_br hw hst
                have hmb : w.heap[ρ.ad mid]? = some (.map (es2.map (entV ρ)).toArray cl2) := m_br hw hst2
                obtain ⟨q1, q2, q3⟩ := enAll_ok ρ hc2
                refine ⟨ρ.ad id, ρ.ba id + 0, cv ρ c0, ρ.ad mid, by simp [cv], ⟨(Array.getElem?_eq_some_iff.1 hhp).1, ?_, hmb, by simpa using q1, ?_⟩, by rw [← len_eq]; exact ble_t.1 hc1, q3⟩
                · intro j u hu
                  have hcell : ∀ k, w.cell? ⟨ρ.ad id, ρ.ba id + 0 + k, none⟩ = (pre ++ ((c0 :: .m mid :: rows.flatten).map (cv ρ) ++ post))[ρ.ba id + 0 + k]? := fun k => by
                    simp [World.cell?, hhp]
                  rw [hcell, Nat.add_zero, ← hpre, List.getElem?_append_right (by omega), show pre.length + j - pre.length = j by omega]
                  match j, hu with
                  | 0, hu => simpa using hu
                  | 1, hu => simpa [cv] using hu
                  | j + 2, hu => simp at hu
                · rw [List.toList_toArray, List.map_map]
                  unfold evsO
                  rw [List.map_map]
                  refine List.map_congr_left fun e he => ?_
                  have hE := q3 e he
                  simp only [Function.comp, entV]
                  rw [hE.key, hE.val]
              · cases h6
      · cases h3
  · cases h2
theorem ar2_ok {l : List V} {k : V → V → St → Out} {s : St} {e : Ex} {f : Fm} {v : V} {s' : St} (h : ar2 l k s = .ok e f v s') : ∃ x y, l = [x, y] ∧ k x y s = .ok e f v s' := by
  match l, h with
  | [], h => cases h
  | [x], h => cases h
  | [x, y], h => exact ⟨x, y, rfl, h⟩
  | x :: y :: z :: l, h => cases h
/-! do they fit -/
theorem odd_ok {x e : List V} : evOdd x e = Gos.clashP (evO x) (evO e) := by
  have hb : ∀ a b : Bool, band a b = (a && b) := fun a b => by cases a <;> cases b <;> rfl
  have hn : ∀ a b : Int, bnot (ile a b) = decide (b < a) := fun a b => by
    rw [bnot_t, ile_eq]
    by_cases h : a ≤ b
    · simp [h]
    · simp [h]; omega
  have ho : ∀ a b : Bool, (Bool.rec (motive := fun _ => Bool) a true b) = (b || a) := fun a b => by cases a <;> cases b <;> rfl
  show band (ieq (ci x 0) (ci e 0)) (Bool.rec (motive := fun _ => Bool) (band (bnot (ile (ci x 1) (ci e 1))) (bnot (ile (ci e 2) (ci x 2)))) true (band (bnot (ile (ci e 1) (ci x 1))) (bnot (ile (ci x 2) (ci e 2))))) =
    (decide (ci x 0 = ci e 0) && ((decide (ci x 1 < ci e 1) && decide (ci e 2 < ci x 2)) || (decide (ci e 1 < ci x 1) && decide (ci x 2 < ci e 2))))
  rw [ho, hb, hb, hb, hn, hn, hn, hn, ieq_eq]
theorem fit_ok {e : List V} : ∀ {es : Es}, evFit e es = !(evsO es).any fun x => Gos.clashP x (evO e)
  | [] => rfl
  | x :: es => by
    have ih := fit_ok (e := e) (es := es)
    have h2 : evFit e (x :: es) = Bool.rec (motive := fun _ => Bool) (evFit e es) false (evOdd (cel x.2.1) e) := rfl
    rw [h2, ih, odd_ok]
    show _ = !(((evO (cel x.2.1)) :: evsO es).any fun x => Gos.clashP x (evO e))
    rw [List.any_cons]
    cases Gos.clashP (evO (cel x.2.1)) (evO e) <;> rfl
theorem fits_ok {c : Tab} (hP : c.P = Tryz.prog) {args : List V} {s : St} {e : Ex} {f' : Fm} {v : V} {s' : St} (h : fitsX args s = .ok e f' v s') : CallOk c 394 args s v s' := by
  obtain ⟨x, y, rfl, hk⟩ := ar2_ok h
  clear h
  have h := hk
  clear hk
  intro ρ F w0 w hF hs hg hw
  unfold fitsY at h
  rw [brec] at h
  split at h
  · rename_i hc
    obtain ⟨c1, c2⟩ := band_t.1 hc
    cases hr : repl x s with
    | no => rw [hr] at h; cases h
    | m es cl =>
      rw [hr] at h
      have h2 : Out.ok .n fm0 (.b (evFit (cel y) es)) s = .ok e f' v s' := h
      injection h2 with h2 h3 h4 h5
      subst h4; subst h5
      obtain ⟨b, o, v0, m, hx, hR, _, _⟩ := repl_ok hr hw
      have hy : cv ρ y = .agg (evO (cel y)).cells.toArray := by
        conv => lhs; rw [agA_eq c1, cv]
        rw [ev_of ρ c2]
      rw [hP]
      have := Gos.fits_w (evO (cel y)) w hR
      simp only [cvL, hx, hy]
      refine this.mono ?_
      rintro r w' ⟨rfl, hb⟩
      exact ⟨ρ, by rw [cv, fit_ok], Exn.refl, hs, Mono.refl, trivial, hw.call hb⟩
  · cases h
/-! all in order -/
theorem ins_perm {x : List V} : ∀ {l : List (List V)}, (evIns x l).Perm (x :: l)
  | [] => List.Perm.refl _
  | y :: l => by
    have h : evIns x (y :: l) = Bool.rec (motive := fun _ => List (List V)) (y :: evIns x l) (x :: y :: l) (evLt x y) := rfl
    rw [h]
    cases evLt x y with
    | true => exact List.Perm.refl _
    | false => exact (List.Perm.cons y (ins_perm (x := x) (l := l))).trans (List.Perm.swap x y l)
theorem sort_permV : ∀ {es : Es}, (evSort es).Perm (es.map fun e => cel e.2.1)
  | [] => List.Perm.refl _
  | e :: es => by
    have h : evSort (e :: es) = evIns (cel e.2.1) (evSort es) := rfl
    rw [h, List.map_cons]
    exact ins_perm.trans (List.Perm.cons _ sort_permV)
theorem lt_ok {a b : List V} (h : evLt a b = true) : Cus.evLess (evO a) (evO b) = true := by
  have h2 : (Bool.rec (motive := fun _ => Bool) (bnot (ile (ci b 2) (ci a 2))) (Bool.rec (motive := fun _ => Bool) (bnot (ile (ci b 0) (ci a 0))) (bnot (ile (ci b 1) (ci a 1))) (ieq (ci a 0) (ci b 0))) (ieq (ci a 2) (ci b 2))) = true := h
  rw [brec, brec] at h2
  simp only [ieq_eq, ile_eq, bnot_t, decide_eq_true_eq] at h2
  show Cus.lexLt [ci a 2, ci a 0, ci a 1, ci a 3, ci a 4, ci a 5, ci a 6, ci a 7, ci a 8] [ci b 2, ci b 0, ci b 1, ci b 3, ci b 4, ci b 5, ci b 6, ci b 7, ci b 8] = true
  simp only [Cus.lexLt]
  split at h2
  · rename_i e1
    rw [if_neg (by simpa using e1)]
    split at h2
    · rename_i e2
      rw [if_neg (by simpa using e2)]
      have h3 : ci a 1 < ci b 1 := by simpa using h2
      rw [if_pos (by omega)]
      simpa using h3
    · rename_i e2
      rw [if_pos e2]
      simpa using h2
  · rename_i e1
    rw [if_pos e1]
    simpa using h2
theorem aft_ok {x : List V} : ∀ {l : List (List V)}, aft x l = true → ∀ y ∈ l, evLt x y = true
  | [], _, y, hy => by cases hy
  | z :: l, h, y, hy => by
    obtain ⟨h1, h2⟩ := band_t.1 (h : band (evLt x z) (aft x l) = true)
    rcases List.mem_cons.1 hy with rfl | hy
    · exact h1
    · exact aft_ok h2 y hy
theorem asc_ok : ∀ {l : List (List V)}, asc l = true → l.Pairwise fun a b => evLt a b = true
  | [], _ => List.Pairwise.nil
  | x :: l, h => by
    obtain ⟨h1, h2⟩ := band_t.1 (h : band (aft x l) (asc l) = true)
    exact List.pairwise_cons.2 ⟨aft_ok h1, asc_ok h2⟩
theorem sorted_ok {es : Es} (h : asc (evSort es) = true) : (evsO es).mergeSort Cus.le2 = (evSort es).map evO := by
  have hp : ((evSort es).map evO).Perm (evsO es) := by
    have := (sort_permV (es := es)).map evO
    rw [List.map_map] at this
    exact this
  refine List.Perm.eq_of_pairwise (le := fun a b => Cus.le2 a b = true) (fun a b _ _ h1 h2 => ?_) (List.pairwise_mergeSort (Cus.le_trans_of (key := Cus.Ev.keys) (n := 9) (fun _ => rfl)) (Cus.le_total_of (key := Cus.Ev.keys) (n := 9) (fun _ => rfl)) _) ?_ ((List.mergeSort_perm _ _).trans hp.symm)
  · unfold Cus.le2 at h1 h2
    exact Cus.keys_inj (Cus.lexLt_total rfl (by simpa using h2) (by simpa using h1))
  · rw [List.pairwise_map]
    refine (asc_ok h).imp fun {a b} hab => ?_
    have := Cus.less_asymm (lt_ok hab)
    unfold Cus.le2
    unfold Cus.evLess at this
    rw [this]; rfl
/-- an item becomes a block -/
theorem m_join {ρ ρ' : Env} {s : St} {id tk : Nat} {k : B} {it : E.Item} {w0 w : World} {F : List E.Item} (h : Mem w0 (it :: hitem ρ s.hp :: F) w) (hs : SOk ρ s) (hi : id < 1000000) (hno : ¬ρ.ok id) (he : Exo id ρ ρ') (had : it.fp (ρ'.ad id)) (hb : BR ρ' id w k) :
    Mem w0 (hitem ρ' (hput 20 id (.bk tk k) s.hp) :: F) w := by
  have hA := h.2.1 _ (List.mem_cons_of_mem _ (List.mem_cons_self ..))
  obtain ⟨p1, p2⟩ := List.pairwise_cons.1 h.2.2.2
  obtain ⟨p3, p4⟩ := List.pairwise_cons.1 p2
  have hg : ∀ j, hget (hput 20 id (.bk tk k) s.hp) j = if j = id then .bk tk k else hget s.hp j := fun j => hgp _ _ _ hi
  have hok : ∀ j sj bj, hget s.hp j = .bk sj bj → j ≠ id := fun j sj bj hj e => hno (e ▸ (hs.bk j sj bj hj).1)
  have hadj : ∀ j sj bj, hget s.hp j = .bk sj bj → ρ'.ad j = ρ.ad j := fun j sj bj hj => (he.2 j (hok j sj bj hj)).1
  have hx := he.exn (n := id) hno
  have hne : ∀ j sj bj, hget s.hp j = .bk sj bj → ρ.ad j ≠ ρ'.ad id := fun j sj bj hj e => p1 _ (List.mem_cons_self ..) _ had ⟨j, sj, bj, hj, e⟩
  refine ⟨h.1, ?_, ?_, ?_⟩
  · intro x hx'
    rcases List.mem_cons.1 hx' with rfl | hx'
    · refine ⟨fun j sj bj hj => ?_, fun i si bi j sj bj h1 h2 h3 => ?_⟩
      · rw [hg] at hj
        split at hj
        · rename_i e; subst e; cases hj; exact hb
        · exact BR.ext (hs.bk j sj bj hj).1 hx (hs.bk j sj bj hj).2.2 (hA.1 j sj bj hj)
      · rw [hg] at h1 h2
        split at h1
        · rename_i e
          split at h2
          · rename_i e2; rw [e, e2]
          · rw [e, hadj j sj bj h2] at h3
            exact absurd h3.symm (hne j sj bj h2)
        · split at h2
          · rename_i e2
            rw [e2, hadj i si bi h1] at h3
            exact absurd h3 (hne i si bi h1)
          · rw [hadj i si bi h1, hadj j sj bj h2] at h3
            exact hA.2 i si bi j sj bj h1 h2 h3
    · exact h.2.1 x (List.mem_cons_of_mem _ (List.mem_cons_of_mem _ hx'))
  · intro x hx' b hf
    rcases List.mem_cons.1 hx' with rfl | hx'
    · obtain ⟨j, sj, bj, h1, h2⟩ := hf
      rw [hg] at h1
      split at h1
      · rename_i e
        rw [← h2, e]
        exact h.2.2.1 _ (List.mem_cons_self ..) _ had
      · rw [← h2, hadj j sj bj h1]
        exact h.2.2.1 _ (List.mem_cons_of_mem _ (List.mem_cons_self ..)) _ ⟨j, sj, bj, h1, rfl⟩
    · exact h.2.2.1 x (List.mem_cons_of_mem _ (List.mem_cons_of_mem _ hx')) b hf
  · refine List.pairwise_cons.2 ⟨fun y hy b hf hgf => ?_, p4⟩
    obtain ⟨j, sj, bj, h1, h2⟩ := hf
    rw [hg] at h1
    split at h1
    · rename_i e
      rw [← h2, e] at hgf
      exact p1 y (List.mem_cons_of_mem _ hy) _ had hgf
    · exact p3 y hy b ⟨j, sj, bj, h1, by rw [← hadj j sj bj h1]; exact h2⟩ hgf
theorem rows_of (ρ : Env) : ∀ {rows : List (List V)}, (∀ r ∈ rows, evSh r = true) → rows.flatten.map (cv ρ) = (rows.map evO).flatMap Cus.Ev.cells
  | [], _ => rfl
  | r :: rows, h => by
    rw [List.flatten_cons, List.map_append, List.map_cons, List.flatMap_cons, rows_of ρ fun x hx => h x (List.mem_cons_of_mem _ hx), ← cvL_eq, ev_of ρ (h r (List.mem_cons_self ..))]
theorem gd_ints {ρ : Env} {n : Nat} {l : List V} (h : allI l = true) : GdL ρ n l := GdL_iff.2 fun v hv => by
  obtain ⟨k, rfl⟩ := allI_ok h v hv
  trivial
theorem since_ok {c : Tab} (hP : c.P = Tryz.prog) {args : List V} {s : St} {e : Ex} {f' : Fm} {v : V} {s' : St} (h : sinX 24 args s = .ok e f' v s') : CallOk c 109 args s v s' := by
  obtain ⟨x, y, rfl, hk⟩ := ar2_ok h
  clear h
  have h := hk
  clear hk
  intro ρ F w0 w hF hs hg hw
  unfold sinY at h
  rw [brec] at h
  split at h
  · rename_i hc
    have hy := nilK_nsl hc
    subst hy
    cases hr : repl x s with
    | no => rw [hr] at h; cases h
    | m es cl =>
      rw [hr] at h
      have h2 : sinC 24 s (evSort es) = .ok e f' v s' := h
      unfold sinC at h2
      rw [brec] at h2
      split at h2
      · rename_i has
        obtain ⟨b, o, v0, m, hx, hR, hlen, hE⟩ := repl_ok hr hw
        have hsd := sorted_ok has
        have hrl : (evSort es).length = es.length := by rw [sort_permV.length_eq, List.length_map]
        have hel : (evsO es).length = es.length := by unfold evsO; rw [List.length_map]
        have hsh : ∀ r ∈ evSort es, evSh r = true := fun r hr => by
          obtain ⟨z, hz, rfl⟩ := List.mem_map.1 (sort_permV.mem_iff.1 hr)
          exact (hE z hz).sh
        rw [hP]
        simp only [cvL, cv, hx]
        have hsw := Gos.since_w w hR (fun z hz => by
          obtain ⟨q, hq, rfl⟩ := List.mem_map.1 hz
          exact (hE q hq).seq) (by rw [hel]; omega)
        refine hsw.mono ?_
        rintro r w' ⟨⟨⟨A, cp⟩, hnil⟩, rfl, hm⟩
        simp only at hm hnil
        rw [hsd] at hm
        rw [hel]
        generalize evSort es = rows at h2 hsh hrl hm
        have hm0 : Mem w0 (Cus.evRow A cp (rows.map evO) :: hitem ρ s.hp :: F) w' := hw.callNew hm
        cases rows with
        | nil =>
          have h3 : Out.ok .n fm0 .nsl s = .ok e f' v s' := h2
          injection h3 with h3 h4 h5 h6
          subst h5; subst h6
          have hn0 : es.length = 0 := by rw [← hrl]; rfl
          have h0 : evsO es = [] := List.eq_nil_of_length_eq_zero (by rw [hel]; exact hn0)
          have := hnil h0
          injection this with h7 h8
          subst h7; subst h8
          exact ⟨ρ, by rw [hn0]; simp [cv], Exn.refl, hs, Mono.refl, trivial, hm0.tail⟩
        | cons r0 rows =>
          have h3 : (Bool.rec (motive := fun _ => Out) (.er 202) (.ok .n fm0 (.sl s.nx 0 (len (r0 :: rows)) none) (new s (.c 24 9 false (r0 :: rows)))) (Nat.blt (Nat.succ s.nx) 1000000)) = .ok e f' v s' := h2
          rw [brec] at h3
          split at h3
          · rename_i hlt
            have hlt := blt_t.1 hlt
            injection h3 with h3 h4 h5 h6
            subst h5; subst h6
            have hrow := hm0.2.1 _ (List.mem_cons_self ..)
            obtain ⟨hr1, hr2⟩ := hrow
            rcases hr2 with ⟨_, h7⟩ | ⟨g, cap, cur, h7, _, h8, h9, h10, h11, h12⟩
            · simp at h7
            · injection h7 with h7 h13 h14
              subst h7; subst h14
              have hrs := rows_of ρ hsh
              have hlen9 : ∀ r ∈ r0 :: rows, r.length = 9 := fun r hr => by
                have := beq_t.1 (band_t.1 (hsh r hr)).1
                rw [len_eq] at this; exact this
              have hfl : ((r0 :: rows).flatten.map (cv ρ)).length = (r0 :: rows).length * 9 := by
                rw [hrs, hr1, List.length_map]
              have hx := put_exo ρ s.nx g 0 cp 9
              have hgd : ∀ ρ' : Env, BG ρ' s.nx (.c 24 9 false (r0 :: rows)) := fun ρ' r hr => gd_ints (band_t.1 (hsh r hr)).2
              obtain ⟨k1, k2⟩ := sok_new hs hx hlt (hgd _)
              have hbr : BR (ρ.put s.nx g 0 cp 9) s.nx w' (.c 24 9 false (r0 :: rows)) := by
                refine ⟨by simp [Env.put], by decide, hlen9, [], cur.toList.drop ((r0 :: rows).length * 9), ?_, by simp [Env.put], ?_, fun h => by cases h⟩
                · have e1 : (ρ.put s.nx g 0 cp 9).ad s.nx = g := by simp [Env.put]
                  rw [e1, h8, map_cv_ext (hx.exn (n := 0) hs.no (Nat.zero_le _)) (gdl_flatten (n := 0) fun r hr => gd_ints (band_t.1 (hsh r hr)).2), hrs, ← h12]
                  simp only [List.nil_append, List.length_map, List.take_append_drop, Array.toArray_toList]
                · have e1 : (ρ.put s.nx g 0 cp 9).ce s.nx = cp := by simp [Env.put]
                  have e2 : cur.toList.length = cp * 9 := by rw [Array.length_toList]; exact h11
                  rw [e1, List.length_drop, e2]
                  rw [List.length_map] at h9
                  have : (r0 :: rows).length * 9 ≤ cp * 9 := Nat.mul_le_mul_right 9 h9
                  omega
              have hj := m_join (id := s.nx) (tk := s.tk) (k := .c 24 9 false (r0 :: rows)) (ρ' := ρ.put s.nx g 0 cp 9) hm0 hs (by omega) hs.no hx (by simp [Env.put, rowT]) hbr
              refine ⟨ρ.put s.nx g 0 cp 9, ?_, hx.exn (n := s.nx) hs.no, k1, k2, ?_, hj⟩
              · rw [← hrl, len_eq]
                simp [cv, Env.put]
              · show Gd _ _ (.sl s.nx 0 (len (r0 :: rows)) none)
                rw [len_eq]
                simp only [Gd, Env.put]
                rw [List.length_map] at h9
                refine ⟨.inl trivial, by simp, ?_⟩
                simp only [if_true, Nat.zero_div, Nat.zero_add]
                exact h9
          · cases h3
      · cases h2
  · cases h
theorem ext_ok {c : Tab} (hP : c.P = Tryz.prog) : ExtOk c (extG 394 109 24) := by
  intro k g args s e f' v s' hk h
  have h2 : (Bool.rec (motive := fun _ => Xt) (Bool.rec (motive := fun _ => Xt) ⟨none⟩ ⟨some (sinX 24)⟩ (Nat.beq k 109)) ⟨some fitsX⟩ (Nat.beq k 394) : Xt).x = some g := hk
  rw [brec, brec] at h2
  split at h2
  · rename_i e1
    have := beq_t.1 e1
    subst this
    injection h2 with h2
    subst h2
    exact fits_ok hP h
  · split at h2
    · rename_i e1
      have := beq_t.1 e1
      subst this
      injection h2 with h2
      subst h2
      exact since_ok hP h
    · cases h2
end Go.Proofs.O

/-
  The evaluator: the number of a verdict, told by what it is.
-/
set_option linter.unusedVariables false
namespace Go.Proofs.O
open Go
noncomputable def vdO (r : List V) : Pen.V := ⟨ci r 0, ci r 1, ci r 2, ci r 3⟩
/-- a verdict, of a moment that there is -/
noncomputable def vdSh (r : List V) : Bool := band (Nat.beq (len r) 4) (band (allI r) (band (ile 0 (ci r 2)) (ile (ci r 2) 4294943999)))
noncomputable def vdAll (l : List (List V)) : Bool := List.rec (motive := fun _ => Bool) true (fun r _ ih => band (vdSh r) ih) l
noncomputable def isSl (v : V) : Bool := OS.rec (motive := fun _ => Bool) false true (fun _ _ _ _ => true) (fun _ => false) (asS v)
noncomputable def pricesSh (p : V) : Bool := band (agA p) (band (Nat.beq (len (cel p)) 7) (band (isSl (nth .bad (cel p) 5)) (band (isI (nth .bad (cel p) 6)) (band (ile 0 (ci (cel p) 6)) (ile (ci (cel p) 6) 49709)))))
noncomputable def numR (p v : V) (s : St) (rows : List (List V)) : Out := Bool.rec (motive := fun _ => Out) (.er 213) (.ok .n fm0 (.i .i64 (Pen.num (ci (cel p) 6) (rows.map vdO) (vdO (cel v)))) s) (band (Nat.ble (len rows) 256) (vdAll rows))
noncomputable def numN (p l v : V) (s : St) (n : Nat) : Out := OR.rec (motive := fun _ => Out) (.er 212) (fun rows => numR p v s rows) (srcR 4 l n s)
noncomputable def numY (p l v : V) (s : St) : Out := Bool.rec (motive := fun _ => Out) (.er 210) (ON.rec (motive := fun _ => Out) (.er 211) (fun n => numN p l v s n) (srcN l)) (band (pricesSh p) (band (isSl l) (band (agA v) (vdSh (cel v)))))
noncomputable def ar3 (l : List V) (k : V → V → V → St → Out) (s : St) : Out := List.rec (motive := fun _ => Out) (.er 214) (fun x l _ => List.rec (motive := fun _ => Out) (.er 214) (fun y l _ => List.rec (motive := fun _ => Out) (.er 214) (fun z l _ => List.rec (motive := fun _ => Out) (k x y z s) (fun _ _ _ => .er 214) l) l) l) l
noncomputable def numX (l : List V) (s : St) : Out := ar3 l numY s
noncomputable def extN (number : FuncId) (e : Ext) (k : FuncId) : Xt := Bool.rec (motive := fun _ => Xt) (e k) ⟨some numX⟩ (Nat.beq k number)
end Go.Proofs.O

/-
  The number of a verdict: the evaluator's word for it holds.
-/
set_option linter.unusedVariables false
set_option linter.unusedSimpArgs false
namespace Go.Proofs.O
open Go Go.Proofs.E

theorem ar3_ok {l : List V} {k : V → V → V → St → Out} {s : St} {e : Ex} {f : Fm} {v : V} {s' : St} (h : ar3 l k s = .ok e f v s') : ∃ x y z, l = [x, y, z] ∧ k x y z s = .ok e f v s' := by
  match l, h with
  | [], h => cases h
  | [x], h => cases h
  | [x, y], h => cases h
  | [x, y, z], h => exact ⟨x, y, z, rfl, h⟩
  | x :: y :: z :: q :: l, h => cases h
theorem vd_ints (ρ : Env) {r : List V} (hl : r.length = 4) (h : allI r = true) : cvL ρ r = (vdO r).cells := by
  rw [ints_of ρ h]
  match r, hl with
  | [a, b, c, d], _ => rfl
structure VdOk (r : List V) : Prop where
  len : r.length = 4
  ints : allI r = true
  at_ : 0 ≤ (vdO r).moment ∧ (vdO r).moment ≤ 4294943999
theorem vdSh_ok {r : List V} (h : vdSh r = true) : VdOk r := by
  obtain ⟨h1, h⟩ := band_t.1 h
  obtain ⟨h2, h⟩ := band_t.1 h
  obtain ⟨h3, h4⟩ := band_t.1 h
  have h1 := beq_t.1 h1
  rw [len_eq] at h1
  rw [ile_eq, decide_eq_true_eq] at h3 h4
  exact ⟨h1, h2, h3, h4⟩
theorem vdAll_ok : ∀ {l : List (List V)}, vdAll l = true → ∀ r ∈ l, VdOk r
  | [], _, r, hr => by cases hr
  | x :: l, h, r, hr => by
    obtain ⟨h1, h2⟩ := band_t.1 (h : band (vdSh x) (vdAll l) = true)
    rcases List.mem_cons.1 hr with rfl | hr
    · exact vdSh_ok h1
    · exact vdAll_ok h2 r hr
theorem cv_sl (ρ : Env) (id off n : Nat) (cap : Option Nat) : ∃ c, cv ρ (.sl id off n cap) = .slice (some ⟨ρ.ad id, ρ.ba id + off, none⟩) n c := by
  cases cap with
  | none => exact ⟨_, by rw [cv]⟩
  | some c => exact ⟨_, by rw [cv]⟩
theorem isSl_ok (ρ : Env) {v : V} (h : isSl v = true) : ∃ A n c, cv ρ v = .slice A n c := by
  cases v <;> try (cases h; done)
  · rename_i id off n cap
    obtain ⟨c, e⟩ := cv_sl ρ id off n cap
    exact ⟨_, _, _, e⟩
  · refine ⟨none, 0, 0, ?_⟩
    rw [cv]
theorem prices_ok (ρ : Env) {p : V} (h : pricesSh p = true) : ∃ a0 a1 a2 a3 a4 A n c, cv ρ p = .agg #[a0, a1, a2, a3, a4, .slice A n c, .int .i64 (ci (cel p) 6)] ∧ 0 ≤ ci (cel p) 6 ∧ ci (cel p) 6 ≤ 49709 := by
  obtain ⟨h1, h⟩ := band_t.1 h
  obtain ⟨h2, h⟩ := band_t.1 h
  obtain ⟨h3, h⟩ := band_t.1 h
  obtain ⟨h4, h⟩ := band_t.1 h
  obtain ⟨h5, h6⟩ := band_t.1 h
  have h2 := beq_t.1 h2
  rw [len_eq] at h2
  rw [ile_eq, decide_eq_true_eq] at h5 h6
  conv => enter [1, a0, 1, a1, 1, a2, 1, a3, 1, a4, 1, A, 1, n, 1, c, 1, 1]; rw [agA_eq h1, cv]
  generalize cel p = l at h2 h3 h4 h5 h6 ⊢
  match l, h2, h3, h4, h5, h6 with
  | [x0, x1, x2, x3, x4, x5, x6], _, h3, h4, h5, h6 =>
    obtain ⟨A, n, c, e5⟩ := isSl_ok ρ (show isSl x5 = true from h3)
    obtain ⟨m, rfl⟩ := isI_ok (show isI x6 = true from h4)
    exact ⟨cv ρ x0, cv ρ x1, cv ρ x2, cv ρ x3, cv ρ x4, A, n, c, by simp only [cvL, e5]; rfl, h5, h6⟩
/-- rows of a slice, read in the model -/
theorem rows_at {ρ : Env} {s : St} {l : V} {n : Nat} {rows : List (List V)} {w0 w : World} {F : List E.Item} (hs : SOk ρ s) (hw : Mem w0 (hitem ρ s.hp :: F) w) (hn : srcN l = .n n) (h : srcR 4 l n s = .r rows) (hl : isSl l = true) (hv : ∀ r ∈ rows, VdOk r) (hlen : rows.length ≤ 256) :
    ∃ A c, cv ρ l = .slice A n c ∧ Pen.VsAt w A n (rows.map vdO) := by
  cases l <;> try (cases hl; done)
  · rename_i id off k cap
    have hn2 : ON.n k = .n n := hn
    injection hn2 with hn2
    subst hn2
    have h2 : rowsB k 4 off (asBC (blk s id)) = .r rows := h
    cases hb : asBC (blk s id) with
    | no => rw [hb] at h2; exact OR.noConfusion h2
    | c tt z ex rws =>
      rw [hb] at h2
      obtain ⟨st, hst⟩ := asBC_ok hb
      have hst : hget s.hp id = .bk st (.c tt z ex rws) := hst
      have hbr := m_br hw hst
      have hbr2 := hbr
      obtain ⟨hsz, hsz0, hrl, pre, post, hhp, hpre, hpost, hex⟩ := hbr2
      obtain ⟨g1, g2, g3⟩ := getR_ok hbr.2.1 hbr.2.2.1 (show okR k 4 (getR k 4 off z rws) = .r rows from h2)
      obtain ⟨c0, e0⟩ := cv_sl ρ id off k cap
      refine ⟨_, _, e0, ?_⟩
      refine ⟨by rw [List.length_map]; exact g1, by omega, fun hk => ⟨ρ.ad id, ρ.ba id + off, rfl, (Array.getElem?_eq_some_iff.1 hhp).1, fun i x hx j u hu => ?_⟩⟩
      rw [List.getElem?_map] at hx
      cases hr : rows[i]? with
      | none => rw [hr] at hx; cases hx
      | some r =>
        rw [hr] at hx
        cases hx
        have hok := hv r (List.mem_of_getElem? hr)
        rw [← vd_ints ρ hok.len hok.ints, cvL_eq, List.getElem?_map] at hu
        cases hj : r[j]? with
        | none => rw [hj] at hu; cases hu
        | some y =>
          rw [hj] at hu
          cases hu
          have hfl : rows.flatten[i * 4 + j]? = some y := by
            have key : ∀ (rs : List (List V)) (i : Nat), (∀ q ∈ rs, q.length = 4) → rs[i]? = some r → rs.flatten[i * 4 + j]? = some y := by
              intro rs
              induction rs with
              | nil => intro i _ h; cases h
              | cons q rs ih =>
                intro i hq h
                have hq4 := hq q (List.mem_cons_self ..)
                cases i with
                | zero =>
                  cases h
                  have : j < r.length := (List.getElem?_eq_some_iff.1 hj).1
                  rw [List.flatten_cons, Nat.zero_mul, Nat.zero_add, List.getElem?_append_left this]; exact hj
                | succ i =>
                  rw [List.flatten_cons, List.getElem?_append_right (by omega), show (i + 1) * 4 + j - q.length = i * 4 + j by omega]
                  exact ih i (fun q hq' => hq q (List.mem_cons_of_mem _ hq')) h
            exact key rows i g2 hr
          rw [g3, List.getElem?_take] at hfl
          split at hfl
          · rw [List.getElem?_drop] at hfl
            have := br_cell hbr hfl
            rw [show ρ.ba id + off + i * 4 + j = ρ.ba id + (off + (i * 4 + j)) by omega]
            exact this
          · cases hfl
  · have hn2 : ON.n 0 = .n n := hn
    injection hn2 with hn2
    subst hn2
    have h2 : OR.r [] = .r rows := h
    injection h2 with h2
    subst h2
    exact ⟨none, 0, by rw [cv], rfl, by omega, fun h => by omega⟩
theorem number_ok {c : Tab} (hP : c.P = Tryz.prog) {args : List V} {s : St} {e : Ex} {f' : Fm} {v : V} {s' : St} (h : numX args s = .ok e f' v s') : CallOk c 204 args s v s' := by
  obtain ⟨p, l, x, rfl, hk⟩ := ar3_ok h
  clear h
  have h := hk
  clear hk
  intro ρ F w0 w hF hs hg hw
  unfold numY at h
  rw [brec] at h
  split at h
  · rename_i hc
    obtain ⟨c1, hc⟩ := band_t.1 hc
    obtain ⟨c2, hc⟩ := band_t.1 hc
    obtain ⟨c3, c4⟩ := band_t.1 hc
    cases hn : srcN l with
    | no => rw [hn] at h; cases h
    | n n =>
      rw [hn] at h
      have h : OR.rec (motive := fun _ => Out) (.er 212) (fun rows => numR p x s rows) (srcR 4 l n s) = .ok e f' v s' := h
      cases hr : srcR 4 l n s with
      | no => rw [hr] at h; cases h
      | r rows =>
        rw [hr] at h
        have h : (Bool.rec (motive := fun _ => Out) (.er 213) (.ok .n fm0 (.i .i64 (Pen.num (ci (cel p) 6) (rows.map vdO) (vdO (cel x)))) s) (band (Nat.ble (len rows) 256) (vdAll rows))) = .ok e f' v s' := h
        rw [brec] at h
        split at h
        · rename_i hd
          obtain ⟨d1, d2⟩ := band_t.1 hd
          have d1 := ble_t.1 d1
          rw [len_eq] at d1
          injection h with h2 h3 h4 h5
          subst h4; subst h5
          have hV := vdAll_ok d2
          obtain ⟨A, cc, hl, hx⟩ := rows_at hs hw hn hr c2 hV d1
          obtain ⟨a0, a1, a2, a3, a4, fA, fn, fc, hp, q1, q2⟩ := prices_ok ρ c1
          have hvx := vdSh_ok c4
          have hxx : cv ρ x = .agg (vdO (cel x)).cells.toArray := by
            conv => lhs; rw [agA_eq c3, cv]
            rw [vd_ints ρ hvx.len hvx.ints]
          rw [hP]
          have := Pen.number_w a0 a1 a2 a3 a4 fA fn fc (ci (cel p) 6) A n cc (rows.map vdO) (vdO (cel x)) w hx (by rw [List.length_map]; exact d1) (fun y hy => by
            obtain ⟨r, hr, rfl⟩ := List.mem_map.1 hy
            exact (hV r hr).at_) hvx.at_ ⟨q1, q2⟩
          simp only [cvL, hp, hl, hxx]
          refine this.mono ?_
          rintro r w' ⟨rfl, hb⟩
          exact ⟨ρ, rfl, Exn.refl, hs, Mono.refl, trivial, hw.call hb⟩
        · cases h
  · cases h
theorem extN_ok {c : Tab} (hP : c.P = Tryz.prog) {e : Ext} (he : ExtOk c e) : ExtOk c (extN 204 e) := by
  intro k g args s x f' v s' hk h
  have h2 : (Bool.rec (motive := fun _ => Xt) (e k) ⟨some numX⟩ (Nat.beq k 204) : Xt).x = some g := hk
  rw [brec] at h2
  split at h2
  · rename_i e1
    have := beq_t.1 e1
    subst this
    injection h2 with h2
    subst h2
    exact number_ok hP h
  · exact he k g args s x f' v s' h2 h
end Go.Proofs.O
