/-
  A range over a function: the caller's rule; the iterator's.
-/
import Derived.Test.YtnehidbpliknaaaEc
import Derived.RangeFuncSeq
namespace Go.Proofs.E
open Go Go.RowKit

/-- an iterator, called with the loop's yield: it yields just these, in this order, as long as it is told to go on; R is what it reads, 'J' what its caller keeps -/
def IterOK {α : Type} (P : Program) (gf : FuncId) (lb : Array Value) (encs : α → Array Value) (xs : List α) (R : World → Prop) : Prop :=
  ∀ (l : Nat) (J : List α → World → Prop) (Jx : World → Prop) (W : World), R W → J [] W → (∀ pre W W', J pre W → Below W.heap.size W W' → J pre W') → (∀ W W', Jx W → Below W.heap.size W W' → Jx W') →
    (∀ pre x W1, (pre ++ [x]) <+: xs → R W1 → J pre W1 → YieldAt (FW none) 0 P l (encs x) W1 fun e W' => (e = .returned (.bool true) ∧ J (pre ++ [x]) W' ∧ R W') ∨ (e = .returned (.bool false) ∧ Jx W')) →
    Calls P gf (#[.func (.yield l) #[] #[]] ++ lb) W fun e W' => e = .returned (.tuple #[]) ∧ (J xs W' ∨ Jx W')

/-- the loop's record -/
def lrec (l : Nat) (r : Loop) : Item where
  fp := fun x => x = l
  A := fun w => w.heap[l]? = some (.loop r)
  st := fun _ _ h hA => (h l rfl).trans hA

theorem Mem.putRec {w0 w : World} {l : Nat} {r r' : Loop} {L : List Item} (h : Mem w0 (lrec l r :: L) w) : Mem w0 (lrec l r' :: L) (w.putObj l (.loop r')) := by
  have hl := h.2.2.1 _ (List.mem_cons_self ..) l rfl
  have := h.set (k := 0) (it := lrec l r) (it' := lrec l r') (w' := w.putObj l (.loop r')) rfl (fun _ h => h) (World.putObj_heap_same hl.2) ⟨rfl, rfl, rfl, by simp⟩ (fun b hb => World.putObj_heap_other hb)
  exact this
theorem Mem.rec {w0 w : World} {l : Nat} {r : Loop} {L : List Item} (h : Mem w0 (lrec l r :: L) w) : w.heap[l]? = some (.loop r) := h.2.1 _ (List.mem_cons_self ..)

/-- the frame of a round -/
def updA (f : Fr) : List Nat → List Value → Fr
  | p :: ps, v :: vs => updA (upd f p v) ps vs
  | _, _ => f
theorem foldl_fr {N : Nat} : ∀ (ps : List Nat) (vs : List Value) (t : Array Value) (f : Fr), t.size = N → (∀ i, t.getD i undef = f i) → ps.all (fun p => Nat.blt p N) = true →
    IsFr N [] { tmps := (ps.zip vs).foldl (fun t (p : Nat × Value) => t.setIfInBounds p.1 p.2) t, defers := [] } (updA f ps vs)
  | [], _, t, f, hs, hg, _ => ⟨hs, hg, rfl⟩
  | p :: ps, [], t, f, hs, hg, _ => ⟨hs, hg, rfl⟩
  | p :: ps, v :: vs, t, f, hs, hg, hp => by
    simp only [List.all_cons, Bool.and_eq_true] at hp
    have h1 : IsFr N [] { tmps := t, defers := [] } f := ⟨hs, hg, rfl⟩
    have h2 := h1.put hp.1 v
    exact foldl_fr ps vs _ _ h2.size h2.get hp.2

/-- how a round may be left: it goes on, the items being those of one more; or it leaves by a jump -/
def roundJ (w0 : World) (l : Nat) (r : Loop) (D : Nat) (Ln : List Item) (Ix : Code → List Item → Prop) : PJ
  | .normal => fun w0' L _ => ∀ w, Mem w0' L w → Mem w0 (lrec l r :: dblk D :: Ln) w
  | .exit i => fun w0' L _ => ∃ L', Ix (.exit i) L' ∧ ∀ w, Mem w0' L w → Mem w0 (lrec l r :: dblk D :: L') w
  | .ret => fun w0' L _ => ∃ L', Ix .ret L' ∧ ∀ w, Mem w0' L w → Mem w0 (lrec l r :: dblk D :: L') w
  | _ => fun _ _ _ => False

/-- behind the assignment of the loop's variables -/
def asgJ (w0 : World) (l : Nat) (r : Loop) (D : Nat) (K : Loop → J) : PJ
  | .normal => fun w0' L f => ∃ L2, marks L = [] ∧ marks L2 = [] ∧ (∀ w, Mem w0' L w → Mem w0 (lrec l r :: dblk D :: L2) w) ∧ ∀ r', K r' w0 (lrec l r' :: dblk D :: L2) f
  | _ => fun _ _ _ => False
theorem asgJ_normal {w0 w0' : World} {l D : Nat} {r : Loop} {K : Loop → J} {L : List Item} {f : Fr} (L2 : List Item) (h1 : marks L = []) (h2 : marks L2 = []) (hm : ∀ w, Mem w0' L w → Mem w0 (lrec l r :: dblk D :: L2) w) (h : ∀ r', K r' w0 (lrec l r' :: dblk D :: L2) f) : asgJ w0 l r D K .normal w0' L f := ⟨L2, h1, h2, hm, h⟩
theorem roundJ_normal {w0 w0' : World} {l D : Nat} {r : Loop} {Ln L : List Item} {Ix : Code → List Item → Prop} {f : Fr} (hm : ∀ w, Mem w0' L w → Mem w0 (lrec l r :: dblk D :: Ln) w) : roundJ w0 l r D Ln Ix .normal w0' L f := hm
theorem roundJ_exit {w0 w0' : World} {l D i : Nat} {r : Loop} {Ln L : List Item} {Ix : Code → List Item → Prop} {f : Fr} (L' : List Item) (hx : Ix (.exit i) L') (hm : ∀ w, Mem w0' L w → Mem w0 (lrec l r :: dblk D :: L') w) : roundJ w0 l r D Ln Ix (.exit i) w0' L f := ⟨L', hx, hm⟩
theorem roundJ_ret {w0 w0' : World} {l D : Nat} {r : Loop} {Ln L : List Item} {Ix : Code → List Item → Prop} {f : Fr} (L' : List Item) (hx : Ix .ret L') (hm : ∀ w, Mem w0' L w → Mem w0 (lrec l r :: dblk D :: L') w) : roundJ w0 l r D Ln Ix .ret w0' L f := ⟨L', hx, hm⟩

theorem H_range {α : Type} {c : Cx} {PQ : PJ} {w0 : World} {L : List Item} {f : Fr} {gop : Operand} {ps : List Nat} {asg body : Code} {gf : FuncId} {lb : Array Value} {encs : α → Array Value} (xs : List α) (R : World → Prop)
    (Li : List α → List Item) (Ix : Code → List Item → Prop)
    (hro : c.ro = none) (hg : ev f gop = .func (.func gf) #[] lb) (he : ∀ args w, (callFunc gf args).run c.P w = .ok (.enter gf args) w)
    (hit : IterOK c.P gf lb encs xs R) (hps : ∀ x, (encs x).size = ps.length) (hpN : ps.all (fun p => Nat.blt p c.N) = true)
    (h0 : ∀ w, Mem w0 L w → Mem w0 (Li []) w) (hmk : ∀ pre, marks (Li pre) = marks L) (hix : ∀ code L', Ix code L' → marks L' = marks L)
    (hR : ∀ pre w, Mem w0 (Li pre) w → R w)
    (round : ∀ l D r pre x, (pre ++ [x]) <+: xs → marks L = [] → H ⟨c.P, some l, c.N⟩ asg (asgJ w0 l r D (fun r' => H ⟨c.P, some l, c.N⟩ body (roundJ w0 l r' D (Li (pre ++ [x])) Ix))) w0 (lrec l r :: dblk D :: Li pre) (updA f ps (encs x).toList))
    (done : ∀ D, PQ .normal w0 (dmark D :: Li xs) f)
    (stop : ∀ D code L', Ix code L' → H c code PQ w0 (dmark D :: L') f)
    (hm0 : marks L = []) : H c (.rangeFunc gop ps.toArray asg body) PQ w0 L f := by
  intro a w ha hw
  refine wpIn_rangeFunc ?_
  intro fn hfn
  have hFr : (FW c.ro).round = none := hro
  rw [hFr]
  obtain ⟨rec, hrec⟩ : ∃ rec : LoopState → Option Code → Loop, rec = fun st pe => { state := st, pending := pe, fn, tmps := a.tmps, params := ps.toArray, assign := asg, body, defers := w.heap.size } := ⟨_, rfl⟩
  have hw1 : Mem w0 (dblk w.heap.size :: Li []) (w.alloc (.deferred (some []))) := (h0 w hw).new _ (dblk w.heap.size) (fun _ h => h) (heap_alloc_new w _)
  have hw2 : Mem w0 (lrec (w.heap.size + 1) (rec .ready none) :: dblk w.heap.size :: Li []) ((w.alloc (.deferred (some []))).alloc (.loop (rec .ready none))) := by
    have hsz : (w.alloc (.deferred (some []))).heap.size = w.heap.size + 1 := by simp
    have := hw1.new (.loop (rec .ready none)) (lrec (w.heap.size + 1) (rec .ready none)) (fun b h => by rw [hsz]; exact h) (by
      have h3 := heap_alloc_new (w.alloc (.deferred (some []))) (.loop (rec .ready none))
      rwa [hsz] at h3)
    exact this
  generalize hD : w.heap.size = D at *
  generalize hW1 : (w.alloc (.deferred (some []))).alloc (.loop (rec .ready none)) = W1 at *
  refine ⟨D + 1, [{ target := .collected D, args := #[] }], W1, { target := .fn (.func gf) lb, args := #[.func (.yield (D + 1)) #[] #[]] }, W1, gf, #[.func (.yield (D + 1)) #[] #[]] ++ lb, W1, ?_, ?_, fun _ _ => trivial, ?_, fun h => by simp [FW] at h, ?_⟩
  · rw [← hW1, hrec, ← hD]; exact run_enterLoop_outer _ _ _ _ _
  · simp only [resolve, ha.eval, hg]
    simp [Deferred.ofValue, ev]
  · simp [invoke, he]
  · refine callsIn_FW ((hit (D + 1)
      (fun pre W => Mem w0 (lrec (D + 1) (rec .ready none) :: dblk D :: Li pre) W)
      (fun W => ∃ code L', Ix code L' ∧ Mem w0 (lrec (D + 1) (rec .done (some code)) :: dblk D :: L') W)
      W1 (hR [] W1 hw2.tail.tail) hw2 (fun pre W W' h hb => h.call hb) (fun W W' ⟨code, L', h1, h2⟩ hb => ⟨code, L', h1, h2.call hb⟩) ?_).mono ?_)
    · intro pre x W1 hpre _ hJ
      have hy := run_yield (P := c.P) (args := encs x) hJ.rec (by rw [hrec]; simp [hps x])
      refine ⟨_, _, _, _, hy, ?_⟩
      rw [hrec]
      refine roundIn_of_wpIn trivial ?_
      have hfr : IsFr c.N [] { tmps := (ps.toArray.zip (encs x)).foldl (fun tmps (t, a) => tmps.setIfInBounds t a) a.tmps, defers := [] } (updA f ps (encs x).toList) := by
        have h4 := foldl_fr (N := c.N) ps (encs x).toList a.tmps f ha.size ha.get hpN
        have h5 : ps.toArray.zip (encs x) = (ps.zip (encs x).toList).toArray := by
          apply Array.ext'
          simp
        rw [h5]
        simpa using h4
      have hml : marks (lrec (D + 1) (rec .ready none) :: dblk D :: Li pre) = [] := by
        rw [marks_cons, marks_cons, hmk pre, hm0]; rfl
      have hH := round (D + 1) D (rec .ready none) pre x hpre hm0 _ W1 (by rw [hml]; exact hfr) hJ
      refine wpIn_mono (wpIn_depth hH) ?_
      rintro e a1 w1 ⟨u1, L1, f1, k1, k2, k3⟩
      cases e with
      | normal =>
        obtain ⟨L2, hm1, hm2, hmem, hb⟩ := k3
        replace k2 := hmem w1 k2
        rw [hm1] at k1
        refine ⟨_, run_beginRound k2.rec (by rw [hrec]), ?_⟩
        have k4 := k2.putRec (r' := { rec .ready none with state := .busy })
        have hm3 : marks (lrec (D + 1) { rec .ready none with state := .busy } :: dblk D :: L2) = [] := by rw [marks_cons, marks_cons, hm2]; rfl
        refine wpIn_mono (wpIn_depth (hb _ a1 _ (by rw [hm3]; exact k1) k4)) ?_
        rintro e a2 w2 ⟨u2, L3, f2, j1, j2, j3⟩
        cases e with
        | normal =>
          have j4 := j3 w2 j2
          refine ⟨_, _, run_endRound (P := c.P) none j4.rec, .inl ⟨rfl, ?_, ?_⟩⟩
          · have j5 := j4.putRec (r' := rec .ready none)
            rw [hrec] at j5 ⊢
            exact j5
          · exact hR _ _ j4.putRec.tail.tail
        | ret =>
          obtain ⟨L4, hx, j4⟩ := j3
          have j5 := j4 w2 j2
          refine ⟨_, _, run_endRound (P := c.P) (some .ret) j5.rec, .inr ⟨rfl, .ret, L4, hx, ?_⟩⟩
          have j6 := j5.putRec (r' := rec .done (some .ret))
          rw [hrec] at j6 ⊢
          exact j6
        | exit i =>
          obtain ⟨L4, hx, j4⟩ := j3
          have j5 := j4 w2 j2
          refine ⟨_, _, run_endRound (P := c.P) (some (.exit i)) j5.rec, .inr ⟨rfl, .exit i, L4, hx, ?_⟩⟩
          have j6 := j5.putRec (r' := rec .done (some (.exit i)))
          rw [hrec] at j6 ⊢
          exact j6
        | goto l => exact j3.elim
        | panic ch => exact j3.elim
        | outgrown => exact j3.elim
      | exit i => exact k3.elim
      | goto l => exact k3.elim
      | ret => exact k3.elim
      | panic ch => exact k3.elim
      | outgrown => exact k3.elim
    · rintro e W2 ⟨rfl, hJ | ⟨code, L', hx, hJ⟩⟩
      · refine ⟨none, _, by
          have h6 := run_endLoop (P := c.P) hJ.rec (by rw [hrec]; simp)
          rw [hrec] at h6
          exact h6, ?_⟩
        have h7 := (hJ.putRec (r' := { rec .ready none with state := .exhausted })).tail
        rw [hrec] at h7
        refine ⟨w0, dmark D :: Li xs, f, ⟨ha.size, ha.get, ?_⟩, ⟨h7.1, ?_, ?_, ?_⟩, done D⟩
        · rw [marks_cons, hmk]; show _ ++ a.defers = _; rw [ha.defers]; rfl
        · intro it hi
          rcases List.mem_cons.1 hi with rfl | hi
          · exact h7.2.1 (dblk D) (List.mem_cons_self ..)
          · exact h7.2.1 it (List.mem_cons_of_mem _ hi)
        · intro it hi b hb
          rcases List.mem_cons.1 hi with rfl | hi
          · exact h7.2.2.1 (dblk D) (List.mem_cons_self ..) b hb
          · exact h7.2.2.1 it (List.mem_cons_of_mem _ hi) b hb
        · exact List.pairwise_cons.2 ⟨(List.pairwise_cons.1 h7.2.2.2).1, (List.pairwise_cons.1 h7.2.2.2).2⟩
      · refine ⟨some code, _, by
          have h6 := run_endLoop (P := c.P) hJ.rec (by rw [hrec]; simp)
          rw [hrec] at h6
          exact h6, ?_⟩
        have h7 := (hJ.putRec (r' := { rec .done (some code) with state := .exhausted })).tail
        rw [hrec] at h7
        refine wpIn_depth (stop D code L' hx _ _ ⟨ha.size, ha.get, ?_⟩ ⟨h7.1, ?_, ?_, ?_⟩)
        · rw [marks_cons, hix code L' hx]; show _ ++ a.defers = _; rw [ha.defers]; rfl
        · intro it hi
          rcases List.mem_cons.1 hi with rfl | hi
          · exact h7.2.1 (dblk D) (List.mem_cons_self ..)
          · exact h7.2.1 it (List.mem_cons_of_mem _ hi)
        · intro it hi b hb
          rcases List.mem_cons.1 hi with rfl | hi
          · exact h7.2.2.1 (dblk D) (List.mem_cons_self ..) b hb
          · exact h7.2.2.1 it (List.mem_cons_of_mem _ hi) b hb
        · exact List.pairwise_cons.2 ⟨(List.pairwise_cons.1 h7.2.2.2).1, (List.pairwise_cons.1 h7.2.2.2).2⟩

/-- the iterator calls yield; behind it the base is the world that the round has left -/
theorem X_yield {c : Cx} {PQ : PJ} {w0 : World} {L : List Item} {f : Fr} {ops rest : List Oper} {d t l : Nat} {ty : TypeId} {pos : String} {af : Array Edge} {gu : Option (Nat × Bool)} {g : Bool} {ao : Array Operand} {ts : Array TypeId} {al : List Value} {A B : World → Prop}
    (hg : Gd f gu (ops.map (·.dst)) g) (hx : OpV g f (.tmp t) (.func (.yield l) #[] #[])) (ha : g = true → ao.toList.map (ev f) = al) (hd : Nat.blt d c.N = true) (hk : marks L = [])
    (hy : g = true → ∀ w, Mem w0 L w → YieldAt (FW none) 0 c.P l al.toArray w fun e W' => (e = .returned (.bool true) ∧ A W') ∨ (e = .returned (.bool false) ∧ B W'))
    (n0 : g = false → XL false c ops rest PQ w0 L (upd f d (gv g (.bool true))))
    (n1 : g = true → ∀ W, A W → XL false c ops rest PQ W [] (upd f d (gv g (.bool true))))
    (n2 : g = true → ∀ W, B W → XL false c ops rest PQ W [] (upd f d (gv g (.bool false)))) :
    XL false c ops (⟨some d, .call { callee := .value (.tmp t), args := ao, argTypes := ts }, ty, pos, af, gu⟩ :: rest) PQ w0 L f := by
  intro a w hfr hw
  show if _ then _ else _
  rw [wanted_fr hfr]
  show if gd f gu _ = true then _ else _
  rw [show gd f gu (ops.map (·.dst)) = g from hg]
  cases g with
  | false => exact ⟨fun _ _ => trivial, n0 rfl _ _ (by rw [gv_false]; exact hfr.put hd undef) hw⟩
  | true =>
    rw [if_pos rfl]
    refine ⟨fun _ _ => trivial, ?_⟩
    obtain ⟨fn, tmps, assign, body, hrun, hround⟩ := hy rfl w hw
    have hx' := hx rfl
    have ha' : ao.map (ev f) = al.toArray := by rw [map_ev, ha rfl]
    rw [Oper.semAt_eq _ _ _ (fun x => by simp), hfr.eval]
    have he : (execOp (ev f) ⟨some d, .call { callee := .value (.tmp t), args := ao, argTypes := ts }, ty, pos, af, gu⟩).run c.P w = .ok (.round l fn tmps assign body) w := by
      simp [execOp, resolve, hx', Deferred.ofValue, invoke, ha', hrun]
    rw [he]
    refine ⟨fun h => by simp [FW] at h, ?_⟩
    have hR : RoundIn (FW c.ro) 0 c.P l fn tmps assign body w _ := hround
    refine RoundIn.mono hR ?_
    rintro e W' (⟨rfl, hA⟩ | ⟨rfl, hB⟩)
    · exact n1 rfl W' hA _ _ (by have := hfr.put hd (.bool true); rw [hk] at this; rw [gv_true]; exact this) (Mem.start W')
    · exact n2 rfl W' hB _ _ (by have := hfr.put hd (.bool false); rw [hk] at this; rw [gv_true]; exact this) (Mem.start W')

end Go.Proofs.E
