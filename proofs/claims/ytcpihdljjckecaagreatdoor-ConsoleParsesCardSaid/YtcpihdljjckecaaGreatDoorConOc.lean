import Derived.Test.YtcpihdljjckecaaGreatDoorConOb
import Derived.LoopNIn
import Derived.ChangeKeysEq
set_option linter.unusedVariables false
set_option linter.unusedSimpArgs false
/-
  Calls; every operation.
-/
set_option linter.unusedVariables false
set_option linter.unusedSimpArgs false
namespace Go.Proofs.O
open Go Go.Proofs.E

/-- no function that the model treats apart -/
def NameOk (c : Tab) : Prop := ∀ (k : Nat) (fn : Func), c.P.funcs[k]? = some fn → (fn.name == "runtime.NumGoroutine") = false
section
variable {c : Tab} {ρ : Env} {s : St} {f : Fm} {x y z : Operand} {t u : TypeId}
theorem fun_ok {k : FuncId} {fn : Func} (h : c.fun? k = some fn) : c.P.funcs[k]? = some fn := by
  unfold Tab.fun? at h
  rw [nthO_eq] at h
  simpa using h
theorem run_call {k : FuncId} {args : Array Value} {w : World} (hN : NameOk c) (h : hasB? c k = true) : (callFunc k args).run c.P w = .ok (.enter k args) w := by
  unfold hasB? at h
  split at h
  · rename_i fn hf
    have h1 := fun_ok hf
    have h2 := hN k fn h1
    have h3 : fn.body.isNone = false := by cases hb : fn.body <;> simp_all
    have hp : program.run c.P w = .ok c.P w := rfl
    simp only [callFunc, Sem.run_bind, hp, Result.andThen_ok, h1, h2, h3, Bool.false_eq_true, if_false, Sem.run_pure]
  · cases h
theorem k_call {fo : Operand} {args : Array Operand} {ts : Array TypeId} (hN : NameOk c) (hf : FOk ρ s.nx f) : Nok c ρ s (ev (fv ρ f)) (.call { callee := .value fo, args := args, argTypes := ts }) (calK c ((opd fo).g f) ((opds args.toList).g f)) := c1 (k := fun v => calK c v ((opds args.toList).g f)) hf ⟨_, rfl⟩ fun v h g => by
  cases v <;> try exact trivial
  rename_i fn xs ys
  show Nok c ρ s _ _ (Option.rec (motive := fun _ => Nx) (.er 97) (fun k => Bool.rec (motive := fun _ => Nx) (.er 98) (.en k (apd xs (apd ((opds args.toList).g f) ys))) (band (okL ((opds args.toList).g f)) (hasB? c k))) (fnId fn))
  cases hk : fnId fn with
  | none => exact trivial
  | some k =>
    show Nok c ρ s _ _ (Bool.rec (motive := fun _ => Nx) (.er 98) (.en k (apd xs (apd ((opds args.toList).g f) ys))) (band (okL ((opds args.toList).g f)) (hasB? c k)))
    rw [brec]
    split
    · rename_i hq
      obtain ⟨q1, q2⟩ := band_t.1 hq
      obtain ⟨e1, g1⟩ := opds_good hf q1
      have hfn : fn = .func k := by cases fn <;> simp [fnId] at hk; rw [hk]
      subst hfn
      simp only [Gd] at g
      simp only [cv] at h
      intro w0 F w hw
      rw [apd_eq, apd_eq]
      refine ⟨gdL_app g.1 (gdL_app g1 g.2), fun _ _ _ _ _ => ?_⟩
      have e2 : args.map (ev (fv ρ f)) = (cvL ρ ((opds args.toList).g f)).toArray := by rw [← e1, amap]
      have e3 : (cvL ρ xs).toArray ++ (cvL ρ ((opds args.toList).g f)).toArray ++ (cvL ρ ys).toArray = (cvL ρ (xs ++ ((opds args.toList).g f ++ ys))).toArray := by simp [cvL_eq]
      simp only [execOp, resolve, Sem.run_bind, h, Deferred.ofValue, Sem.run_pure, Result.andThen_ok, invoke, e2, e3, run_call hN q2]
    · exact trivial
theorem k_ivk {ro : Operand} {name : String} {args : Array Operand} {ts : Array TypeId} (hN : NameOk c) (hf : FOk ρ s.nx f) : Nok c ρ s (ev (fv ρ f)) (.call { callee := .invoke ro name, args := args, argTypes := ts }) (ivkK c name ((opd ro).g f) ((opds args.toList).g f)) := c1 (k := fun v => ivkK c name v ((opds args.toList).g f)) hf ⟨_, rfl⟩ fun v h g => by
  cases v <;> try exact trivial
  rename_i q v
  show Nok c ρ s _ _ (Option.rec (motive := fun _ => Nx) (.er 131) (fun k => Bool.rec (motive := fun _ => Nx) (.er 132) (.en k (v :: (opds args.toList).g f)) (band (okL ((opds args.toList).g f)) (hasB? c k))) (mth c q name))
  cases hk : mth c q name with
  | none => exact trivial
  | some k =>
    show Nok c ρ s _ _ (Bool.rec (motive := fun _ => Nx) (.er 132) (.en k (v :: (opds args.toList).g f)) (band (okL ((opds args.toList).g f)) (hasB? c k)))
    rw [brec]
    split
    · rename_i hq
      obtain ⟨q1, q2⟩ := band_t.1 hq
      obtain ⟨e1, g1⟩ := opds_good hf q1
      unfold mth at hk
      split at hk
      · rename_i i hi
        unfold mthK at hk
        split at hk
        · rename_i m hm
          split at hk
          · rename_i k' pr hpath hfunc
            cases hpr : mthP c q pr with
            | false => rw [hpr] at hk; cases hk
            | true =>
              rw [hpr] at hk
              simp only [cond_true, Option.some.injEq] at hk
              subst hk
              simp only [Gd] at g
              simp only [cv] at h
              intro w0 F w hw
              refine ⟨⟨g, g1⟩, fun _ _ _ _ _ => ?_⟩
              have hpe : m.path.toList = [] := by
                have : m.path = #[] := by simpa using hpath
                rw [this]
              have hmeth : ∀ n w, (method (n + 1) q (cv ρ v) name).run c.P w = .ok (k', cv ρ v) w := fun n w => by
                unfold mthP at hpr
                split at hpr
                · rename_i e hd
                  subst hpr
                  simp [method, run_info hi, hm, follow, hpe, hfunc, receiverAt, run_und (desc_ok hd).1, Place.get, Result.andThen]
                · rename_i d hnd hd
                  have hpf : pr = false := by simpa using hpr
                  subst hpf
                  simp only [method, Sem.run_bind, run_info hi, Result.andThen_ok, hm, follow, hpe, Sem.run_pure, hfunc, receiverAt, run_und (desc_ok hd).1]
                  cases d <;> first | exact absurd rfl (hnd _) | simp [Place.get, Result.andThen]
                · cases hpr
              have e2 : args.map (ev (fv ρ f)) = (cvL ρ ((opds args.toList).g f)).toArray := by rw [← e1, amap]
              have hp : program.run c.P w = .ok c.P w := rfl
              have hdep : c.P.types.size + Made.depth = (c.P.types.size + 99) + 1 := rfl
              have e4 : (#[Value.iface q (cv ρ v)] ++ (cvL ρ ((opds args.toList).g f)).toArray)[0]? = some (.iface q (cv ρ v)) := by simp
              have e5 : (#[Value.iface q (cv ρ v)] ++ (cvL ρ ((opds args.toList).g f)).toArray).extract 1 (#[Value.iface q (cv ρ v)] ++ (cvL ρ ((opds args.toList).g f)).toArray).size = (cvL ρ ((opds args.toList).g f)).toArray := by
                apply Array.ext'; simp [List.extract_eq_take_drop]
              have e6 : #[cv ρ v] ++ (cvL ρ ((opds args.toList).g f)).toArray = (cvL ρ (v :: (opds args.toList).g f)).toArray := by simp [cvL]
              have e7 : (#[Value.iface q (cv ρ v)] ++ (cvL ρ ((opds args.toList).g f)).toArray) ++ #[] = (#[Value.iface q (cv ρ v)] ++ (cvL ρ ((opds args.toList).g f)).toArray) := by simp
              simp only [execOp, resolve, h, Sem.run_bind, Sem.run_pure, Result.andThen_ok, invoke, e2, e4, e5, callMethod, hp, hdep, hmeth, e6, run_call hN q2]
          · cases hk
        · cases hk
      · cases hk
    · exact trivial
theorem k_blt {b : Builtin} (xs : List Operand) (ts : List TypeId) (hT : TabOk c) (hs : SOk ρ s) (hf : FOk ρ s.nx f) : Nok c ρ s (ev (fv ρ f)) (.call { callee := .builtin b, args := xs.toArray, argTypes := ts.toArray }) ((coBlt c b ts xs).r f s) := by
  unfold coBlt
  split
  · rename_i x t r
    split
    · rename_i hd; exact k_lenSl hf hd
    · rename_i hd; exact k_lenSt hf hd
    · rename_i hd; exact k_lenMp hf hd
    · rename_i hd; exact k_lenA hd
    · rename_i a hd
      split
      · rename_i ha; exact k_lenPA hd ha
      · exact trivial
    · exact trivial
  · rename_i x t r
    split
    · rename_i el hd
      refine cbif (p := fun z : Co => Nok c ρ s _ _ (z.r f s)) (fun hz => ?_) (fun _ => trivial)
      exact k_cap hd (blt_t.1 hz) hs hf
    · exact trivial
  · exact k_min (mx := false) hf
  · exact k_min (mx := true) hf
  · rename_i x y t u
    split
    · rename_i el hd
      refine cbif (p := fun z : Co => Nok c ρ s _ _ (z.r f s)) (fun hz => ?_) (fun _ => trivial)
      simp only [Bool.and_eq_true, Bool.not_eq_true'] at hz
      obtain ⟨⟨⟨h1, h2⟩, h3⟩, h4⟩ := hz
      have h1 := blt_t.1 h1
      have h4 := beq_t.1 h4
      rw [len_eq] at h4
      split
      · rename_i q hu; exact zcs_ok fun _ _ _ => k_appZ hd hu h1 h2 h3 h4 hs hf
      · rename_i q hu; exact k_appK hd hu (by simp) h1 h2 h3 h4 hs hf
      · rename_i hu; exact k_appK hd hu (by simp) h1 h2 h3 h4 hs hf
      · exact trivial
    · exact trivial
  · rename_i x y t u
    split
    · rename_i el hd
      refine cbif (p := fun z : Co => Nok c ρ s _ _ (z.r f s)) (fun hz => ?_) (fun _ => trivial)
      exact k_copy hd (blt_t.1 hz) hs hf
    · exact trivial
  · exact k_del hT hs hf
  · rename_i x t r
    split
    · rename_i el hd
      refine zcs_ok fun hz hl h0 => ?_
      exact k_clear hd h0 hz hl hs hf
    · exact trivial
  · exact trivial
theorem k_binop {op : BinOp} (hT : TabOk c) (hf : FOk ρ s.nx f) : Nok c ρ s (ev (fv ρ f)) (.binOp op t x y u) ((coBin c op t x y).r f s) := by
  have heq : ∀ neg, Nok c ρ s (ev (fv ρ f)) (.binOp (eqo neg) t x y u) ((coEq c neg t x y).r f s) := fun neg => by
    unfold coEq
    split
    · rename_i el hd
      refine cbif (p := fun z : Co => Nok c ρ s _ _ (z.r f s)) (fun hz => ?_) (fun _ => trivial)
      exact k_eqP hf hd (blt_t.1 hz)
    · rename_i hd; exact k_eqN hf hd trivial (.inr (.inr (by omega)))
    · rename_i hd; exact k_eqN hf hd trivial (.inr (.inr (by omega)))
    · rename_i hd; exact k_eqN hf hd trivial (.inr (.inr (by omega)))
    · rename_i hd
      split
      · exact k_eqN hf hd trivial (.inl ⟨_, rfl⟩)
      · exact k_eqN hf hd trivial (.inr (.inl ⟨_, rfl⟩))
      · exact trivial
    · rename_i hd; exact k_eqB hf hd
    · split
      · rename_i hp; exact k_eqA hT hf hp
      · exact trivial
    · split
      · rename_i hp; exact k_eqA hT hf hp
      · exact trivial
    · exact trivial
  unfold coBin
  split
  · split
    · exact k_sh hf (.inl rfl)
    · exact k_sh hf (.inr rfl)
    · rename_i h1 h2; exact k_bin hf h1 h2
  · exact k_str hf
  · split
    · exact heq false
    · exact heq true
    · exact trivial
theorem cop_ok (hT : TabOk c) (hN : NameOk c) (hs : SOk ρ s) (hf : FOk ρ s.nx f) (o : Op) : Nok c ρ s (ev (fv ρ f)) o ((cop c o).r f s) := by
  cases o with
  | move x => exact k_move hf
  | assign x => exact k_assign hf
  | pick x a b => exact k_pick hf
  | alloc t => exact k_alloc hf
  | box t x => exact k_box hf
  | build t ps => exact k_build hf
  | buildSlice t n ps => exact k_bsl hf
  | load t x => exact k_load hs hf
  | store t x y => exact k_store hs hf
  | nilCheck x => exact k_nilc hf
  | binOp op t x y u => exact k_binop hT hf
  | unOp op t x =>
    cases op with
    | neg => exact k_neg hf
    | not => exact k_not hf
    | _ => exact trivial
  | convert t u x =>
    unfold cop
    simp only
    split
    · rename_i j k h1 h2; exact k_cvI (d := .bool) hf ⟨_, h1⟩ h2
    · rename_i h1 h2; exact k_cvS hf h1 h2
    · exact trivial
  | makeInterface t x =>
    unfold cop
    simp only
    split
    · exact trivial
    · exact trivial
    · rename_i d hn hd; exact k_mif hf hd (fun ms e => hn ms (by rw [e]))
  | makeFunc fn a b => exact k_mfn hf
  | makeMap t r => cases r with
    | none => exact k_mmap hf
    | some r => exact trivial
  | makeSlice t l k => exact k_msl hf
  | slice t x lo hi mx => exact k_slice hs hf
  | fieldAddr t x i => exact k_fad hf
  | field t x i => exact k_fld hf
  | indexAddr t x i => exact k_at hf
  | index t x i => exact k_ix hf
  | lookup t x k ok => exact k_look hT hs hf
  | mapUpdate t m k x => exact k_mup hT hs hf
  | mapEntry t m k => exact k_ent hT hs hf
  | entryStore t m st x => exact k_est hT hs hf
  | range t x =>
    unfold cop
    simp only
    split
    · rename_i hd; exact k_rng hd hs hf
    · exact trivial
  | next x b => cases b with
    | false => exact k_nxt hs hf
    | true => exact trivial
  | typeAssert x u t ok =>
    unfold cop
    simp only
    split
    · exact trivial
    · exact trivial
    · rename_i d hn hd; exact k_ass hf hd (fun ms e => hn ms (by rw [e]))
  | extract x i => exact k_ext hf
  | call cl =>
    obtain ⟨callee, args, ts⟩ := cl
    cases callee with
    | builtin b =>
      have := k_blt (b := b) args.toList ts.toList hT hs hf
      rw [Array.toArray_toList, Array.toArray_toList] at this
      exact this
    | value fo => exact k_call hN hf
    | invoke ro name => exact k_ivk hN hf
  | _ => exact trivial
end
end Go.Proofs.O

/-
  Regions in the order of their text.
-/
set_option linter.unusedVariables false
set_option linter.unusedSimpArgs false
namespace Go.Proofs.O
open Go Go.Proofs.E

def exOf : Ex → Exit
  | .n => .normal
  | .x id => .exit id
  | .r => .ret
/-- what is shown of code -/
def FM (c : Tab) (F : List E.Item) (w0 : World) : Prop := marks F = [] ∧ c.wd w0
def CodeOk (c : Tab) (N : Nat) (k : Code) (f : Fm) (s : St) (e : Ex) (f' : Fm) (s' : St) : Prop := ∀ (ρ : Env) (F : List E.Item) (w0 : World) (PQ : PJ), FM c F w0 → SOk ρ s → FOk ρ s.nx f →
  (∀ ρ', Exn s.nx ρ ρ' → SOk ρ' s' → FOk ρ' s'.nx f' → Mono s s' → PQ (exOf e) w0 (hitem ρ' s'.hp :: F) (fv ρ' f')) → H ⟨c.P, none, N⟩ k PQ w0 (hitem ρ s.hp :: F) (fv ρ f)
/-- .. of calls -/
def CallOk (c : Tab) (k : FuncId) (args : List V) (s : St) (v : V) (s' : St) : Prop := ∀ (ρ : Env) (F : List E.Item) (w0 w : World), FM c F w0 → SOk ρ s → GdL ρ s.nx args → Mem w0 (hitem ρ s.hp :: F) w →
  Calls c.P k (cvL ρ args).toArray w fun e w' => ∃ ρ', e = .returned (cv ρ' v) ∧ Exn s.nx ρ ρ' ∧ SOk ρ' s' ∧ Mono s s' ∧ Gd ρ' s'.nx v ∧ Mem w0 (hitem ρ' s'.hp :: F) w'
/-- .. of loops: at most n rounds -/
def RndOk (c : Tab) (N n : Nat) (k : Code) (f : Fm) (s : St) (e : Ex) (f' : Fm) (s' : St) : Prop := ∀ (ρ : Env) (F : List E.Item) (w0 : World) (PQ : PJ), FM c F w0 → SOk ρ s → FOk ρ s.nx f →
  (∀ ρ', Exn s.nx ρ ρ' → SOk ρ' s' → FOk ρ' s'.nx f' → Mono s s' → PQ (exOf e) w0 (hitem ρ' s'.hp :: F) (fv ρ' f')) → ∀ a w, IsFr N [] a (fv ρ f) → Mem w0 (hitem ρ s.hp :: F) w → Code.roundsIn (FW none) 0 c.P k (lift ⟨c.P, none, N⟩ PQ) n a w
structure SelfOk (c : Tab) (sf : Self) : Prop where
  code : ∀ N k f s e f' v s', N ≤ 256 → sf (.code N k f) s = .ok e f' v s' → CodeOk c N k f s e f' s'
  call : ∀ k args s e f' v s', sf (.call k args) s = .ok e f' v s' → CallOk c k args s v s'

section
variable {c : Tab} {ρ : Env} {s : St} {f : Fm} {N : Nat}
theorem marks_h {F : List E.Item} {hp : HT} (h : marks F = []) : marks (hitem ρ hp :: F) = [] := by rw [marks_cons, h]; rfl
/-! guards -/
theorem tmpG_ok {d : Nat} {n : Nat} (hf : FOk ρ n f) : (tmpG d).g f = .bad ∨ (fv ρ f d = cv ρ ((tmpG d).g f) ∧ Gd ρ n ((tmpG d).g f)) := opd_ok hf (.tmp d)
theorem wtV_ok {v : V} {b : Bool} : (wtV v b = .y → isB (cv ρ v) b = true) ∧ (wtV v b = .n → v ≠ .bad ∧ isB (cv ρ v) b = false) := by
  cases v <;> try exact ⟨fun h => Wt.noConfusion h, fun h => Wt.noConfusion h⟩
  · rename_i x
    have e : wtV (.b x) b = (if eqB x b = true then .y else .n) := by
      show (Bool.rec (motive := fun _ => Wt) .n .y (eqB x b)) = _
      rw [brec]
    rw [e, eqB_t]
    cases hb : (x == b)
    · exact ⟨fun h => by simp at h, fun _ => ⟨by simp, by simp [cv, isB, hb]⟩⟩
    · exact ⟨fun _ => by simp [cv, isB, hb], fun h => by simp at h⟩
  · rename_i l
    cases l with
    | nil => exact ⟨fun h => Wt.noConfusion h, fun _ => ⟨by simp, by simp [cv, cvL, isB]⟩⟩
    | cons a l => exact ⟨fun h => Wt.noConfusion h, fun h => Wt.noConfusion h⟩
theorem wtK_ok {n : Nat} {ops : List Oper} {g : Option (Nat × Bool)} (hf : FOk ρ n f) : (wtK f (guK ops g) = .y → gd (fv ρ f) g (ops.map (·.dst)) = true) ∧ (wtK f (guK ops g) = .n → gd (fv ρ f) g (ops.map (·.dst)) = false) := by
  cases g with
  | none => exact ⟨fun _ => rfl, fun h => Wt.noConfusion h⟩
  | some p =>
    obtain ⟨j, b⟩ := p
    simp only [guK, nthO_eq]
    cases hj : ops[j]? with
    | none => exact ⟨fun h => Wt.noConfusion h, fun h => Wt.noConfusion h⟩
    | some o =>
      simp only
      cases hd : o.dst with
      | none => exact ⟨fun h => Wt.noConfusion h, fun h => Wt.noConfusion h⟩
      | some d =>
        have hg : gd (fv ρ f) (some (j, b)) (ops.map (·.dst)) = isB (fv ρ f d) b := by simp [gd, hj, hd]
        rw [hg]
        show (wtV ((tmpG d).g f) b = .y → _) ∧ (wtV ((tmpG d).g f) b = .n → _)
        obtain ⟨h1, h2⟩ := wtV_ok (ρ := ρ) (v := (tmpG d).g f) (b := b)
        rcases tmpG_ok (d := d) hf with e | ⟨e, _⟩
        · rw [e]; exact ⟨fun h => Wt.noConfusion h, fun h => Wt.noConfusion h⟩
        · rw [e]; exact ⟨h1, fun h => (h2 h).2⟩
/-! a value is put -/
theorem put_ok {n : Nat} {dst : Option Nat} {x : V} (hN : N ≤ 256) (hd : ∀ d, dst = some d → d < N) (hf : FOk ρ n f) (hx : Gd ρ n x) : FOk ρ n (putD dst x f) ∧ fv ρ (putD dst x f) = putF (fv ρ f) dst (cv ρ x) := by
  cases dst with
  | none => exact ⟨hf, rfl⟩
  | some d =>
    have h := Nat.lt_of_lt_of_le (hd d rfl) hN
    have e : putD (some d) x f = (acc d).p x f := by
      show ((bif Nat.blt d 256 then acc d else noA).p) x f = _
      rw [blt_t.2 h]; rfl
    rw [e]
    exact ⟨hf.put hx h, fv_put ρ f x h⟩
theorem isFr_put {dst : Option Nat} {a : Act} {g : Fr} {v : Value} (hd : ∀ d, dst = some d → d < N) (ha : IsFr N [] a g) : IsFr N [] (a.put dst v) (putF g dst v) := by
  cases dst with
  | none => exact ha.put_none v
  | some d => exact ha.put (blt_t.2 (hd d rfl)) v
theorem fv_put_und {n : Nat} {dst : Option Nat} (hN : N ≤ 256) (hd : ∀ d, dst = some d → d < N) (hf : FOk ρ n f) : FOk ρ n (putD dst und f) ∧ fv ρ (putD dst und f) = putF (fv ρ f) dst undef := by
  have := put_ok (ρ := ρ) (x := und) hN hd hf gd_und
  rw [cv_und] at this; exact this
/-- an operation that is made ready is no deferring -/
theorem not_def {o : Op} (h : ∀ n, (cop c o).r f s ≠ .er n) : isDefer o = false := by
  cases o <;> first | rfl | exact absurd rfl (h _)
/-- what is shown of an operation in a list -/
theorem nx_ok {self : Self} {o : Oper} {next : Go1} {e : Ex} {f' : Fm} {v : V} {s' : St} {F : List E.Item} {w0 : World} {K : Act → World → Prop} {Q : Exit → Act → World → Prop} {nx : Nx} (hS : SelfOk c self) (hN : N ≤ 256) (hd : ∀ d, o.dst = some d → d < N) (hs : SOk ρ s) (hf : FOk ρ s.nx f) (hF : FM c F w0)
    (hok : Nok c ρ s (ev (fv ρ f)) o.op nx) (h : nxK self (putD o.dst) next f s nx = .ok e f' v s')
    (hnext : ∀ x s1 ρ1, next (putD o.dst x f) s1 = .ok e f' v s' → Exn s.nx ρ ρ1 → SOk ρ1 s1 → Mono s s1 → Gd ρ1 s1.nx x → ∀ a w, IsFr N [] a (putF (fv ρ1 f) o.dst (cv ρ1 x)) → Mem w0 (hitem ρ1 s1.hp :: F) w → K a w)
    (a : Act) (w : World) (ha : IsFr N [] a (fv ρ f)) (hw : Mem w0 (hitem ρ s.hp :: F) w) : o.uponIn (FW none) 0 c.P a K Q ((execOp (ev (fv ρ f)) o).run c.P w) := by
  have hrun : ∀ r, Rn c (ev (fv ρ f)) o.op w r → (execOp (ev (fv ρ f)) o).run c.P w = r := fun r hr => by obtain ⟨dst, op, ty, pos, af, gu⟩ := o; exact hr dst ty pos af gu
  cases nx with
  | v x =>
    obtain ⟨g, hr⟩ := hok w0 F w hw
    rw [hrun _ hr]
    exact hnext x s ρ h Exn.refl hs Mono.refl g _ _ (isFr_put hd ha) hw
  | rv x r =>
    obtain ⟨g, hr⟩ := hok w0 F w hw
    rw [hrun _ hr]
    exact hnext x s ρ h Exn.refl hs Mono.refl g _ _ (isFr_put hd ha) hw
  | al x b =>
    have h2 : (Bool.rec (motive := fun _ => Out) (.er 160) (next (putD o.dst (x s.nx) f) (new s b)) (Nat.blt (Nat.succ s.nx) 1000000)) = .ok e f' v s' := h
    obtain ⟨ob, hob⟩ := hok w0 F w hw
    obtain ⟨ρ', h1, had, hbr, hbg, hgx, hr⟩ := hob s.nx hs.no
    rw [hrun _ hr]
    rw [brec] at h2
    split at h2
    · rename_i hlt
      obtain ⟨q1, q2⟩ := sok_new hs h1 (blt_t.1 hlt) hbg
      refine hnext (x s.nx) (new s b) ρ' h2 (h1.exn (n := s.nx) hs.no) q1 q2 hgx _ _ ?_ (m_newS ob hs h1 had hbr hw)
      rw [fv_ext (h1.exn (n := s.nx) hs.no) hf]; exact isFr_put hd ha
    · cases h2
  | sv x s1 =>
    have h2 : (Bool.rec (motive := fun _ => Out) (.er 160) (next (putD o.dst x f) s1) (Nat.blt s1.nx 1000000)) = .ok e f' v s' := h
    rw [brec] at h2
    split at h2
    · rename_i hlt
      obtain ⟨ρ', w', h1, hs1, hm, hgx, hw', hr⟩ := hok (blt_t.1 hlt) w0 F w hw
      have hfv := fv_ext h1 hf
      rcases hr with hr | ⟨hx, hr⟩
      · rw [hrun _ hr]
        refine hnext x s1 ρ' h2 h1 hs1 hm hgx _ _ ?_ hw'
        rw [hfv]; exact isFr_put hd ha
      · rw [hrun _ hr]
        refine hnext x s1 ρ' h2 h1 hs1 hm hgx _ _ ?_ hw'
        rw [hfv, hx, cv_und]; exact isFr_put hd ha
    · cases h2
  | en k args =>
    obtain ⟨hg, hr⟩ := hok w0 F w hw
    rw [hrun _ hr]
    have h2 : afK (putD o.dst) next f (self (.call k args) s) = .ok e f' v s' := h
    cases hc : self (.call k args) s with
    | er n => rw [hc] at h2; cases h2
    | ok e1 f1 v1 s1 =>
      rw [hc] at h2
      have h3 : next (putD o.dst v1 f) s1 = .ok e f' v s' := h2
      refine ⟨(fun h => by simp [FW] at h), callsIn_FW ((hS.call k args s e1 f1 v1 s1 hc ρ F w0 w hF hs hg hw).mono ?_)⟩
      rintro e2 w2 ⟨ρ', rfl, h4, h5, h6, h7, h8⟩
      refine hnext v1 s1 ρ' h3 h4 h5 h6 h7 _ _ ?_ h8
      rw [fv_ext h4 hf]; exact isFr_put hd ha
  | er n => cases h
theorem roK_ok {ops : List Oper} {o : Oper} (h : wtK f (roK c N ops o).gd ≠ .er) : (∀ d, o.dst = some d → d < N) ∧ roK c N ops o = ⟨guK ops o.guard, cop c o.op, putD o.dst⟩ := by
  unfold roK at h ⊢
  cases hd : dstK N o.dst with
  | false => rw [hd] at h; exact absurd rfl h
  | true =>
    refine ⟨fun d e => ?_, rfl⟩
    rw [e] at hd
    exact blt_t.1 hd
/-- a list of operations -/
theorem lis_ok {self : Self} (hT : TabOk c) (hNm : NameOk c) (hS : SelfOk c self) (hN : N ≤ 256) (ops : List Oper) : ∀ (rest : List Oper) (f : Fm) (s : St) (e : Ex) (f' : Fm) (v : V) (s' : St), lisK self (rest.map (roK c N ops)) f s = .ok e f' v s' →
    ∀ (ρ : Env) (F : List E.Item) (w0 : World) (PQ : PJ), FM c F w0 → SOk ρ s → FOk ρ s.nx f → (∀ ρ', Exn s.nx ρ ρ' → SOk ρ' s' → FOk ρ' s'.nx f' → Mono s s' → PQ (exOf e) w0 (hitem ρ' s'.hp :: F) (fv ρ' f')) →
      ∀ a w, IsFr N [] a (fv ρ f) → Mem w0 (hitem ρ s.hp :: F) w → wpListIn (FW none) 0 c.P ops.toArray (lift ⟨c.P, none, N⟩ PQ) rest a w
  | [], f, s, e, f', v, s', h, ρ, F, w0, PQ, hF, hs, hf, hq, a, w, ha, hw => by
    have h2 : Out.ok .n f und s = .ok e f' v s' := h
    injection h2 with h2 h3 h4 h5
    subst h2; subst h3; subst h5
    exact ⟨w0, hitem ρ s.hp :: F, fv ρ f, by rw [marks_h hF.1]; exact ha, hw, hq ρ Exn.refl hs hf Mono.refl⟩
  | o :: rest, f, s, e, f', v, s', h, ρ, F, w0, PQ, hF, hs, hf, hq, a, w, ha, hw => by
    have ih := lis_ok hT hNm hS hN ops rest
    have h2 : Wt.rec (motive := fun _ => Out) (lisK self (rest.map (roK c N ops)) ((roK c N ops o).p und f) s) (nxK self (roK c N ops o).p (lisK self (rest.map (roK c N ops))) f s ((roK c N ops o).co.r f s)) (.er 161) (wtK f (roK c N ops o).gd) = .ok e f' v s' := h
    obtain ⟨g1, g2⟩ := wtK_ok (ρ := ρ) (ops := ops) (g := o.guard) hf
    obtain ⟨hdn, hro⟩ := roK_ok (c := c) (N := N) (ops := ops) (o := o) (f := f) (by
      intro hw
      rw [hw] at h2; cases h2)
    rw [hro] at h2
    show if Region.wanted o (yielded ops.toArray a.tmps) then _ else _
    rw [wanted_fr ha]
    cases hwt : wtK f (guK ops o.guard) with
    | er => rw [hwt] at h2; cases h2
    | n =>
      rw [hwt] at h2
      rw [g2 hwt]
      refine ⟨fun _ _ => trivial, ?_⟩
      obtain ⟨p1, p2⟩ := fv_put_und (ρ := ρ) (dst := o.dst) hN hdn hf
      refine ih _ s e f' v s' h2 ρ F w0 PQ hF hs p1 hq _ _ ?_ hw
      rw [p2]; exact isFr_put hdn ha
    | y =>
      rw [hwt] at h2
      rw [g1 hwt, if_pos rfl]
      have hnd : isDefer o.op = false := not_def (c := c) (s := s) (f := f) fun n hn => by
        have h3 : nxK self (putD o.dst) (lisK self (rest.map (roK c N ops))) f s ((cop c o.op).r f s) = .ok e f' v s' := h2
        rw [hn] at h3; cases h3
      refine ⟨fun _ _ => trivial, ?_⟩
      rw [Oper.semAt_eq _ _ _ (not_defer hnd), ha.eval]
      refine nx_ok (s' := s') (f' := f') (e := e) (v := v) hS hN hdn hs hf hF (cop_ok hT hNm hs hf o.op) h2 (fun x s1 ρ1 hn hx1 hs1 hm1 hg1 a1 w1 ha1 hw1 => ?_) a w ha hw
      obtain ⟨p1, p2⟩ := put_ok (ρ := ρ1) (dst := o.dst) hN hdn (hf.ext hx1 hm1.nx) hg1
      refine ih _ s1 e f' v s' hn ρ1 F w0 PQ hF hs1 p1 (fun ρ' q1 q2 q3 q4 => hq ρ' (hx1.trans q1 hm1.nx) q2 q3 (hm1.trans q4)) a1 w1 ?_ hw1
      rw [p2]; exact ha1
end
end Go.Proofs.O

/-
  Code and calls.
-/
set_option linter.unusedVariables false
set_option linter.unusedSimpArgs false
namespace Go.Proofs.O
open Go Go.Proofs.E

/-- .. with loops of at most n rounds -/
structure RunOk (c : Tab) (n : Nat) (sf : Self) : Prop extends SelfOk c sf where
  loop : ∀ N a f s e f' v s', N ≤ 256 → sf (.code N (.loop a) f) s = .ok e f' v s' → RndOk c N n a f s e f' s'
/-- what is to be shown of regions that draw their order -/
def DrawOk (c : Tab) : Prop := ∀ (sf : Self) (N : Nat) (id : Nat) (ops : Array Oper) (f : Fm) (s : St) (e : Ex) (f' : Fm) (v : V) (s' : St), SelfOk c sf → N ≤ 256 → (regK c N ops.toList true).go sf f s = .ok e f' v s' → CodeOk c N (.region id ops true) f s e f' s'

section
variable {c : Tab} {ρ : Env} {s : St} {f : Fm} {N : Nat}
theorem seqK_ok {sf : Self} {b : Code} {o : Out} {e : Ex} {f' : Fm} {v : V} {s' : St} (h : seqK sf N b o = .ok e f' v s') : ∃ e1 f1 v1 s1, o = .ok e1 f1 v1 s1 ∧ ((e1 = .n ∧ sf (.code N b f1) s1 = .ok e f' v s') ∨ (e1 ≠ .n ∧ e = e1 ∧ f' = f1 ∧ s' = s1)) := by
  cases o with
  | er n => cases h
  | ok e1 f1 v1 s1 =>
    refine ⟨e1, f1, v1, s1, rfl, ?_⟩
    cases e1 with
    | n => exact .inl ⟨rfl, h⟩
    | x i =>
      have h2 : Out.ok (.x i) f1 v1 s1 = .ok e f' v s' := h
      injection h2 with h2 h3 h4 h5
      exact .inr ⟨by simp, h2.symm, h3.symm, h5.symm⟩
    | r =>
      have h2 : Out.ok .r f1 v1 s1 = .ok e f' v s' := h
      injection h2 with h2 h3 h4 h5
      exact .inr ⟨by simp, h2.symm, h3.symm, h5.symm⟩
theorem thenJ_other {K : J} {PQ : PJ} {e : Ex} {w0 : World} {L : List E.Item} {g : Fr} (he : e ≠ .n) (h : PQ (exOf e) w0 L g) : thenJ K PQ (exOf e) w0 L g := by
  cases e with
  | n => exact absurd rfl he
  | x i => exact h
  | r => exact h
theorem reg_ok {sf : Self} {id : Nat} {ops : Array Oper} {e : Ex} {f' : Fm} {v : V} {s' : St} (hT : TabOk c) (hNm : NameOk c) (hS : SelfOk c sf) (hN : N ≤ 256) (h : (regK c N ops.toList false).go sf f s = .ok e f' v s') : CodeOk c N (.region id ops false) f s e f' s' := by
  intro ρ F w0 PQ hF hs hf hq
  have e1 : ops = ops.toList.toArray := Array.toArray_toList.symm
  rw [e1]
  refine H_region fun a w ha hw => ?_
  rw [marks_h hF.1] at ha
  exact lis_ok hT hNm hS hN ops.toList ops.toList f s e f' v s' h ρ F w0 PQ hF hs hf hq a w ha hw
theorem rnd_ok {n : Nat} {sf : Self} {a : Code} {e : Ex} {f' : Fm} {v : V} {s' : St} (hS : RunOk c n sf) (hN : N ≤ 256) (h : seqK sf N (.loop a) (sf (.code N a f) s) = .ok e f' v s') : RndOk c N (n + 1) a f s e f' s' := by
  intro ρ F w0 PQ hF hs hf hq aa ww ha hw
  obtain ⟨e1, f1, v1, s1, h1, h2⟩ := seqK_ok h
  have hb := hS.code N a f s e1 f1 v1 s1 hN h1
  rw [roundsIn_succ]
  have hH := hb ρ F w0 (thenJ (fun w0 L g => ∀ a' w', IsFr N (marks L) a' g → Mem w0 L w' → Code.roundsIn (FW none) 0 c.P a (lift ⟨c.P, none, N⟩ PQ) n a' w') PQ) hF hs hf (fun ρ' q1 q2 q3 q4 => by
    rcases h2 with ⟨rfl, h2⟩ | ⟨hne, rfl, rfl, rfl⟩
    · show ∀ a' w', _
      intro a' w' ha' hw'
      rw [marks_h hF.1] at ha'
      exact hS.loop N a f1 s1 e f' v s' hN h2 ρ' F w0 PQ hF q2 q3 (fun ρ'' r1 r2 r3 r4 => hq ρ'' (q1.trans r1 q4.nx) r2 r3 (q4.trans r4)) a' w' ha' hw'
    · exact thenJ_other hne (hq ρ' q1 q2 q3 q4))
  refine wpIn_mono (hH aa ww (by rw [marks_h hF.1]; exact ha) hw) ?_
  rintro e2 a' w' ⟨u', L', g', k1, k2, k3⟩
  cases e2 with
  | normal => exact k3 a' w' k1 k2
  | exit i => exact ⟨u', L', g', k1, k2, k3⟩
  | goto l => exact ⟨u', L', g', k1, k2, k3⟩
  | ret => exact ⟨u', L', g', k1, k2, k3⟩
  | panic ch => exact ⟨u', L', g', k1, k2, k3⟩
  | outgrown => exact ⟨u', L', g', k1, k2, k3⟩
theorem code_ok {n : Nat} {sf : Self} {k : Code} {e : Ex} {f' : Fm} {v : V} {s' : St} (hT : TabOk c) (hNm : NameOk c) (hD : DrawOk c) (hS : RunOk c n sf) (hN : N ≤ 256) (h : codK c sf N k f s = .ok e f' v s') : CodeOk c N k f s e f' s' := by
  cases k with
  | skip =>
    have h2 : Out.ok .n f und s = .ok e f' v s' := h
    injection h2 with h2 h3 h4 h5
    subst h2; subst h3; subst h5
    exact fun ρ F w0 PQ hF hs hf hq => H_skip (hq ρ Exn.refl hs hf Mono.refl)
  | label l =>
    have h2 : Out.ok .n f und s = .ok e f' v s' := h
    injection h2 with h2 h3 h4 h5
    subst h2; subst h3; subst h5
    exact fun ρ F w0 PQ hF hs hf hq => H_label (hq ρ Exn.refl hs hf Mono.refl)
  | exit id =>
    have h2 : Out.ok (.x id) f und s = .ok e f' v s' := h
    injection h2 with h2 h3 h4 h5
    subst h2; subst h3; subst h5
    exact fun ρ F w0 PQ hF hs hf hq => H_exit (hq ρ Exn.refl hs hf Mono.refl)
  | ret =>
    have h2 : Out.ok .r f und s = .ok e f' v s' := h
    injection h2 with h2 h3 h4 h5
    subst h2; subst h3; subst h5
    exact fun ρ F w0 PQ hF hs hf hq => H_ret (hq ρ Exn.refl hs hf Mono.refl)
  | region id ops draw =>
    cases draw with
    | false => exact reg_ok hT hNm hS.toSelfOk hN h
    | true => exact hD sf N id ops f s e f' v s' hS.toSelfOk hN h
  | seq a b =>
    intro ρ F w0 PQ hF hs hf hq
    obtain ⟨e1, f1, v1, s1, h1, h2⟩ := seqK_ok (h : seqK sf N b (sf (.code N a f) s) = .ok e f' v s')
    refine H_seq (hS.code N a f s e1 f1 v1 s1 hN h1 ρ F w0 _ hF hs hf fun ρ' q1 q2 q3 q4 => ?_)
    rcases h2 with ⟨rfl, h2⟩ | ⟨hne, rfl, rfl, rfl⟩
    · exact thenJ_normal (hS.code N b f1 s1 e f' v s' hN h2 ρ' F w0 PQ hF q2 q3 fun ρ'' r1 r2 r3 r4 => hq ρ'' (q1.trans r1 q4.nx) r2 r3 (q4.trans r4))
    · exact thenJ_other hne (hq ρ' q1 q2 q3 q4)
  | cond x a b =>
    intro ρ F w0 PQ hF hs hf hq
    have h2 : cndK sf N a b f s (asB ((opd x).g f)) = .ok e f' v s' := h
    rcases opd_ok hf x with he | ⟨he, _⟩
    · rw [he] at h2; cases h2
    · generalize (opd x).g f = q at h2 he
      cases q <;> try (cases h2; done)
      rename_i t
      simp only [cv] at he
      have h3 : (Bool.rec (motive := fun _ => Out) (sf (.code N b f) s) (sf (.code N a f) s) t) = .ok e f' v s' := h2
      refine H_cond he (fun ht => ?_) (fun ht => ?_)
      · subst ht; exact hS.code N a f s e f' v s' hN h3 ρ F w0 PQ hF hs hf hq
      · subst ht; exact hS.code N b f s e f' v s' hN h3 ρ F w0 PQ hF hs hf hq
  | block id a =>
    intro ρ F w0 PQ hF hs hf hq
    have h2 : blkK id (sf (.code N a f) s) = .ok e f' v s' := h
    cases h1 : sf (.code N a f) s with
    | er n => rw [h1] at h2; cases h2
    | ok e1 f1 v1 s1 =>
      rw [h1] at h2
      refine H_block (hS.code N a f s e1 f1 v1 s1 hN h1 ρ F w0 _ hF hs hf fun ρ' q1 q2 q3 q4 => ?_)
      cases e1 with
      | n =>
        have h3 : Out.ok .n f1 v1 s1 = .ok e f' v s' := h2
        injection h3 with h3 h4 h5 h6
        subst h3; subst h4; subst h6
        exact blockJ_normal (hq ρ' q1 q2 q3 q4)
      | x i =>
        have h3 : (Bool.rec (motive := fun _ => Out) (.ok (.x i) f1 v1 s1) (.ok .n f1 v1 s1) (Nat.beq i id)) = .ok e f' v s' := h2
        cases hb : Nat.beq i id with
        | true =>
          rw [hb] at h3
          have h3 : Out.ok .n f1 v1 s1 = .ok e f' v s' := h3
          injection h3 with h3 h4 h5 h6
          subst h3; subst h4; subst h6
          have := beq_t.1 hb
          subst this
          exact blockJ_hit (hq ρ' q1 q2 q3 q4)
        | false =>
          rw [hb] at h3
          have h3 : Out.ok (.x i) f1 v1 s1 = .ok e f' v s' := h3
          injection h3 with h3 h4 h5 h6
          subst h3; subst h4; subst h6
          exact blockJ_pass hb (hq ρ' q1 q2 q3 q4)
      | r =>
        have h3 : Out.ok .r f1 v1 s1 = .ok e f' v s' := h2
        injection h3 with h3 h4 h5 h6
        subst h3; subst h4; subst h6
        exact blockJ_ret (hq ρ' q1 q2 q3 q4)
  | loop a =>
    intro ρ F w0 PQ hF hs hf hq aa ww ha hw
    rw [marks_h hF.1] at ha
    exact wpIn_loop_rounds (n + 1) (rnd_ok hS hN h ρ F w0 PQ hF hs hf hq aa ww ha hw)
  | _ => cases h

/-! calls -/
theorem H_enter2 {P : Program} {k : FuncId} {fn : Func} {code : Code} {l : List Value} {w0 w : World} {L : List E.Item} {R : Ending → World → Prop} {N : Nat} (hf : P.funcs[k]? = some fn) (hb : fn.body = some code) (hN : fn.ntmps = N) (hl : l.length ≤ N) (hL : marks L = []) (hw : Mem w0 L w)
    (h : H ⟨P, none, N⟩ code (retJ ⟨P, none, N⟩ fn R) w0 L (frOf l)) : Calls P k l.toArray w R := by
  refine calls_FW (n := 0) (callsIn_of_wp_marks hf hb trivial (wpIn_mono (h _ w ⟨?_, ?_, ?_⟩ hw) ?_) rfl)
  · simp [hN]; omega
  · intro i
    simp only [Array.getD_eq_getD_getElem?, frOf, List.getD_eq_getElem?_getD]
    rw [Array.getElem?_append]
    split
    · simp
    · rename_i hi
      have : l[i]? = none := List.getElem?_eq_none (by simpa using hi)
      rw [this]
      simp only [Array.getElem?_replicate]
      split <;> rfl
  · rw [hL]
  · rintro e a w' ⟨u', L', f', k1, k2, k3⟩
    cases e with
    | normal => have := k3 w' a k2 k1; rw [← k1.defers] at this; exact this
    | ret => have := k3 w' a k2 k1; rw [← k1.defers] at this; exact this
    | exit i => exact k3.elim
    | goto l => exact k3.elim
    | panic ch => exact k3.elim
    | outgrown => exact k3.elim
theorem frOf_ini {l : List V} (hl : l.length ≤ 16) : frOf (cvL ρ l) = fv ρ (iniF l) := by
  funext i
  unfold frOf fv
  by_cases hi : i < 256
  · rw [if_pos hi, iniF_g l hl i hi, List.getD_eq_getElem?_getD, List.getD_eq_getElem?_getD, cvL_eq, List.getElem?_map]
    cases l[i]? with
    | none => simp [cv_und]
    | some v => rfl
  · rw [if_neg hi, List.getD_eq_getElem?_getD, List.getElem?_eq_none (by rw [cvL_eq]; simp; omega)]; rfl
theorem fOk_ini {l : List V} {n : Nat} (hl : l.length ≤ 16) (hg : GdL ρ n l) : FOk ρ n (iniF l) := fun k hk => by
  rw [iniF_g l hl k hk, List.getD_eq_getElem?_getD]
  cases h : l[k]? with
  | none => exact gd_und
  | some v => exact GdL_iff.1 hg v (List.mem_of_getElem? h)
/-- one result -/
def rone (tmps : Array Value) (r : ResultVar) : Sem Value := match r with
  | .tmp t => pure (tmps.getD t undef)
  | .cell a t => do loadVar t (← asAddr (tmps.getD a undef))
/-- the results -/
theorem rs_ok (hs : SOk ρ s) (hf : FOk ρ s.nx f) : ∀ (rs : List ResultVar) (l : List V), (rsK c rs).g f s = some l → ∀ w0 F w, Mem w0 (hitem ρ s.hp :: F) w → GdL ρ s.nx l ∧ ∀ (tmps : Array Value), (∀ i, tmps.getD i undef = fv ρ f i) →
    (rs.mapM (rone tmps)).run c.P w = .ok (cvL ρ l) w
  | [], l, h, w0, F, w, hw => by
    have h2 : some [] = some l := h
    cases h2
    exact ⟨trivial, fun tmps ht => rfl⟩
  | .tmp t :: rs, l, h, w0, F, w, hw => by
    have h2 : rsC und (vK ((tmpG t).g f)) ((rsK c rs).g f s) = some l := h
    rcases tmpG_ok (d := t) hf with e | ⟨e, g⟩
    · rw [e] at h2; cases h2
    · unfold vK at h2
      rw [brec, gd_bad g] at h2
      have h3 : ((rsK c rs).g f s).map (fun l => (tmpG t).g f :: l) = some l := h2
      cases hr : (rsK c rs).g f s with
      | none => rw [hr] at h3; cases h3
      | some l' =>
        rw [hr] at h3
        simp only [Option.map_some, Option.some.injEq] at h3
        subst h3
        obtain ⟨g2, ih⟩ := rs_ok hs hf rs l' hr w0 F w hw
        refine ⟨⟨g, g2⟩, fun tmps ht => ?_⟩
        have h1 : (rone tmps (.tmp t)).run c.P w = .ok (cv ρ ((tmpG t).g f)) w := by
          show Result.ok (tmps.getD t undef) w = _
          rw [ht t, e]
        simp only [List.mapM_cons, Sem.run_bind, Sem.run_pure, Result.andThen_ok, ih tmps ht, cvL, h1]
  | .cell a t :: rs, l, h, w0, F, w, hw => by
    unfold rsK at h
    split at h
    · rename_i gg ha
      have h2 : rsL (loadK gg (c.size t) ((tmpG a).g f) s) ((rsK c rs).g f s) = some l := h
      have hok := k_load (c := c) (t := t) (x := .tmp a) hs hf
      have hco : ((cop c (.load t (.tmp a))).r f s) = loadK gg (c.size t) ((tmpG a).g f) s := by
        unfold cop; simp only; rw [ha]; rfl
      rw [hco] at hok
      have hp : ∀ q : V × Nat, loadK gg (c.size t) ((tmpG a).g f) s = .rv q.1 q.2 → ∃ A, fv ρ f a = .pointer (some A) := fun q hq => by
        rcases tmpG_ok (d := a) hf with e | ⟨e, g⟩
        · rw [e] at hq; cases hq
        · generalize (tmpG a).g f = vv at hq e
          cases vv <;> try (cases hq; done)
          rename_i id off
          rw [e, cv]
          exact ⟨_, rfl⟩
      generalize hL : loadK gg (c.size t) ((tmpG a).g f) s = nx at h2 hok hp
      cases nx with
      | rv q r =>
        obtain ⟨g, hr⟩ := hok w0 F w hw
        have h3 : ((rsK c rs).g f s).map (fun l => q :: l) = some l := h2
        cases hrs : (rsK c rs).g f s with
        | none => rw [hrs] at h3; cases h3
        | some l' =>
          rw [hrs] at h3
          simp only [Option.map_some, Option.some.injEq] at h3
          subst h3
          obtain ⟨g2, ih⟩ := rs_ok hs hf rs l' hrs w0 F w hw
          refine ⟨⟨g, g2⟩, fun tmps ht => ?_⟩
          obtain ⟨A, hA⟩ := hp (q, r) rfl
          have hr0 := hr none 0 "" #[] none
          have hev : ev (fv ρ f) (.tmp a) = .pointer (some A) := hA
          simp only [execOp, hev, Instr.loadAt, Instr.sureAddr, Sem.run_bind, Sem.run_pure, Result.andThen_ok] at hr0
          have hlv : (loadVar t A).run c.P w = .ok (cv ρ q) w := by
            cases hx : (loadVar t A).run c.P w with
            | ok a' w' =>
              rw [hx] at hr0
              simp only [Result.andThen] at hr0
              injection hr0 with h4 h5
              injection h4 with h4
              rw [h4, h5]
            | halt a' w' => rw [hx] at hr0; cases hr0
          have h1 : (rone tmps (.cell a t)).run c.P w = .ok (cv ρ q) w := by
            unfold rone
            simp only [ht a, hA, asAddr, Sem.run_bind, Sem.run_pure, Result.andThen_ok, hlv]
          simp only [List.mapM_cons, Sem.run_bind, Sem.run_pure, Result.andThen_ok, h1, ih tmps ht, cvL]
      | v q => cases h2
      | al q b => cases h2
      | sv q b => cases h2
      | en q b => cases h2
      | er q => cases h2
    · cases h
theorem rs1_ok {l : List V} {n : Nat} (hg : GdL ρ n l) : Gd ρ n (rs1 l) ∧ (if h : (cvL ρ l).toArray.size = 1 then (cvL ρ l).toArray[0] else .tuple (cvL ρ l).toArray) = cv ρ (rs1 l) := by
  match l, hg with
  | [], hg => exact ⟨by simp [rs1, Gd, GdL], by simp [rs1, cv, cvL]⟩
  | [x], hg => exact ⟨hg.1, by simp [rs1, cvL]⟩
  | x :: y :: l, hg => exact ⟨by simpa [rs1, Gd] using hg, by simp [rs1, cv, cvL]⟩
theorem res_is {fn : Func} {l : List V} {w0 : World} {F : List E.Item} (hs : SOk ρ s) (hf : FOk ρ s.nx f) (h : (rsK c fn.results.toList).g f s = some l) : ResIs c.P N fn w0 (hitem ρ s.hp :: F) (fv ρ f) (cv ρ (rs1 l)) := by
  intro w ds a hw ha
  obtain ⟨g, hr⟩ := rs_ok hs hf _ l h w0 F w hw
  have h1 := hr a.tmps fun i => ha.get i
  show (do let vs ← fn.results.mapM (rone a.tmps); pure (if h : vs.size = 1 then vs[0] else .tuple vs) : Sem Value).run c.P w = _
  rw [Array.mapM_eq_mapM_toList]
  simp only [map_eq_pure_bind, Sem.run_bind, Sem.run_pure, h1, Result.andThen_ok]
  rw [(rs1_ok g).2]
/-- calls -/
theorem call_ok {sf : Self} {k : FuncId} {args : List V} {e : Ex} {f' : Fm} {v : V} {s' : St} (hS : SelfOk c sf) (h : clK sf args s (fcK c k) = .ok e f' v s') : CallOk c k args s v s' := by
  intro ρ F w0 w hF hs hg hw
  unfold clK at h
  rw [brec] at h
  cases hb : band (fcK c k).ok (band (Nat.ble (len args) 16) (Nat.ble (len args) (fcK c k).N)) with
  | false => rw [hb] at h; cases h
  | true =>
    rw [hb] at h
    have h2 : retK (fcK c k).rs (sf (.code (fcK c k).N (fcK c k).body (iniF args)) s) = .ok e f' v s' := h
    obtain ⟨b1, b2⟩ := band_t.1 hb
    obtain ⟨b2, b3⟩ := band_t.1 b2
    cases hfn : c.fun? k with
    | none => simp only [fcK, hfn] at b1; cases b1
    | some fn =>
      cases hbo : fn.body with
      | none => simp only [fcK, hfn, hbo] at b1; cases b1
      | some code =>
        simp only [fcK, hfn, hbo] at h2 b1 b2 b3
        cases hc : sf (.code fn.ntmps code (iniF args)) s with
        | er n => rw [hc] at h2; cases h2
        | ok e1 f1 v1 s1 =>
          rw [hc] at h2
          have hN : fn.ntmps ≤ 256 := ble_t.1 b1
          rw [len_eq] at b2 b3
          have hl : args.length ≤ 16 := ble_t.1 b2
          have hl2 : args.length ≤ fn.ntmps := ble_t.1 b3
          have hrt : (e1 = .n ∨ e1 = .r) ∧ retX (rsK c fn.results.toList) f1 s1 = .ok e f' v s' := by
            cases e1 with
            | n => exact ⟨.inl rfl, h2⟩
            | r => exact ⟨.inr rfl, h2⟩
            | x i => cases h2
          obtain ⟨he1, h3⟩ := hrt
          unfold retX at h3
          cases hr : (rsK c fn.results.toList).g f1 s1 with
          | none => rw [hr] at h3; cases h3
          | some l =>
            rw [hr] at h3
            have h4 : Out.ok .n fm0 (rs1 l) s1 = .ok e f' v s' := h3
            injection h4 with h4 h5 h6 h7
            subst h6; subst h7
            refine H_enter2 (fun_ok hfn) hbo rfl (by rw [cvL_eq]; simpa using hl2) (marks_h hF.1) hw ?_
            rw [frOf_ini hl]
            refine hS.code _ _ _ _ _ _ _ _ hN hc ρ F w0 _ hF hs (fOk_ini hl hg) fun ρ' q1 q2 q3 q4 => ?_
            have hrs := res_is (N := fn.ntmps) (w0 := w0) (F := F) q2 q3 hr
            have hfin : ∀ w, Mem w0 (hitem ρ' s1.hp :: F) w → ∃ ρ'', Ending.returned (cv ρ' (rs1 l)) = .returned (cv ρ'' (rs1 l)) ∧ Exn s.nx ρ ρ'' ∧ SOk ρ'' s1 ∧ Mono s s1 ∧ Gd ρ'' s1.nx (rs1 l) ∧ Mem w0 (hitem ρ'' s1.hp :: F) w :=
              fun w hw => ⟨ρ', rfl, q1, q2, q4, (rs1_ok (rs_ok q2 q3 _ l hr w0 F w hw).1).1, hw⟩
            rcases he1 with rfl | rfl
            · exact end_of (marks_h hF.1) hrs hfin
            · exact ret_of (marks_h hF.1) hrs hfin
end
end Go.Proofs.O

/-
  An operation looks at its operands' values, and at the block that it reads, alone.
-/
set_option linter.unusedVariables false
set_option linter.unusedSimpArgs false
namespace Go.Proofs.O
open Go Go.Proofs.E

/-- what is read at s is read at s' -/
def Lnx (s s' : St) (n' : Nx) : Nx → Prop
  | .v x => n' = .v x
  | .rv x r => blk s' r = blk s r → n' = .rv x r
  | .al x b => n' = .al x b
  | _ => True
def Rl (k : St → Nx) : Prop := ∀ s s', Lnx s s' (k s') (k s)
theorem Rl.const (n : Nx) : Rl fun _ => n := fun s s' => by cases n <;> first | rfl | exact fun _ => rfl | trivial
def RvE (id : Nat) (n : Nx) : Prop := (∃ x, n = .rv x id) ∨ ∃ m, n = .er m
theorem RvE.er {id m : Nat} : RvE id (.er m) := .inr ⟨m, rfl⟩
theorem RvE.rv {id : Nat} {x : V} : RvE id (.rv x id) := .inl ⟨x, rfl⟩
theorem RvE.b {id : Nat} {x y : Nx} (hx : RvE id x) (hy : RvE id y) (t : Bool) : RvE id (Bool.rec (motive := fun _ => Nx) x y t) := by cases t <;> assumption
theorem Rl.at {id : Nat} {g : HB → Nx} (h : ∀ b, RvE id (g b)) : Rl fun s => g (blk s id) := fun s s' => by
  show Lnx s s' (g (blk s' id)) (g (blk s id))
  rcases h (blk s id) with ⟨x, e⟩ | ⟨m, e⟩
  · rw [e]; intro e2; rw [e2, e]
  · rw [e]; trivial
theorem Rl.b {x y : St → Nx} (hx : Rl x) (hy : Rl y) (t : Bool) : Rl fun s => Bool.rec (motive := fun _ => Nx) (x s) (y s) t := by cases t <;> assumption
theorem rl_load (agg : Bool) (n : Nat) (v : V) : Rl (loadK agg n v) := by
  show Rl fun s => OP.rec (motive := fun _ => Nx) (.er 10) (fun id off => loadB agg n id off (asBC (blk s id))) (asP v)
  cases asP v with
  | no => exact Rl.const _
  | p id off =>
    refine Rl.at (id := id) (g := fun b => loadB agg n id off (asBC b)) fun b => ?_
    show RvE id (loadB agg n id off (asBC b))
    cases asBC b with
    | no => exact .er
    | c t sz ex rows =>
      show RvE id (loadR agg n id (Nat.div off sz) (Nat.mod off sz) sz rows)
      unfold loadR
      cases nth OL.no (rows.map OL.l) (Nat.div off sz) with
      | no => exact .er
      | l row =>
        refine RvE.b ?_ ?_ agg
        · exact RvE.b .rv .er _
        · exact RvE.b (RvE.b .er .rv _) .rv _
theorem rl_len (v : V) : Rl (lenMp v) := by
  show Rl fun s => OM.rec (motive := fun _ => Nx) (.er 74) (.v (.i .i64 (.ofNat 0))) (fun id => lenM id (asBM (blk s id))) (asM v)
  cases asM v with
  | no => exact Rl.const _
  | nil => exact Rl.const _
  | m id =>
    refine Rl.at (id := id) (g := fun b => lenM id (asBM b)) fun b => ?_
    show RvE id (lenM id (asBM b))
    cases asBM b with
    | no => exact .er
    | m es cl => exact .rv
theorem rl_cap (sz : Nat) (v : V) : Rl (capK sz v) := by
  unfold capK
  cases asS v with
  | no => exact Rl.const _
  | nil => exact Rl.const _
  | s b => exact Rl.const _
  | sl id off n cap =>
    cases cap with
    | some c => exact Rl.const _
    | none =>
      refine Rl.at (id := id) (g := fun b => capX sz id off (asBC b)) fun b => ?_
      show RvE id (capX sz id off (asBC b))
      cases asBC b with
      | no => exact .er
      | c t z ex rows => exact RvE.b .er .rv _
theorem rl_slc (sz : Nat) (x : V) (lo hi : Nat → ON) : Rl (slcK sz x lo hi) := by
  unfold slcK
  cases asS x with
  | no => exact Rl.const _
  | nil => exact Rl.const _
  | s b => exact Rl.const _
  | sl id off n cap =>
    cases h1 : lo 0 with
    | no => simp only [h1]; exact Rl.const _
    | n l =>
      cases h2 : hi n with
      | no => simp only [h1, h2]; exact Rl.const _
      | n h =>
        simp only [h1, h2]
        cases cap with
        | some c => exact Rl.const _
        | none =>
          show Rl fun s => slcN sz id off n l h s
          unfold slcN
          refine Rl.b (Rl.const _) (Rl.b ?_ (Rl.const _) _) _
          refine Rl.at (id := id) (g := fun b => ON.rec (motive := fun _ => Nx) (.er 45) (fun k => Bool.rec (motive := fun _ => Nx) (.er 46) (.rv (cutK sz id off l h none) id) (band (Nat.ble (Nat.add (Nat.div off sz) h) k) (Nat.blt (Nat.add (Nat.div off sz) l) k))) (knownR sz (asBC b))) fun b => ?_
          show RvE id (ON.rec (motive := fun _ => Nx) _ _ (knownR sz (asBC b)))
          cases knownR sz (asBC b) with
          | no => exact .er
          | n k => exact RvE.b .er .rv _
theorem rl_lok (p : Kp) (ok : Bool) (z x k : V) : Rl (lokK p ok z x k) := by
  show Rl fun s => Bool.rec (motive := fun _ => Nx) (.er 99) (OM.rec (motive := fun _ => Nx) (.er 81) (.v (Bool.rec (motive := fun _ => V) z (.t [z, .b false]) ok)) (fun id => lokM p ok z k id (asBM (blk s id))) (asM x)) (isKey p k)
  refine Rl.b (Rl.const _) ?_ _
  cases asM x with
  | no => exact Rl.const _
  | nil => exact Rl.const _
  | m id =>
    refine Rl.at (id := id) (g := fun b => lokM p ok z k id (asBM b)) fun b => ?_
    show RvE id (lokM p ok z k id (asBM b))
    cases asBM b with
    | no => exact .er
    | m es cl =>
      show RvE id (lokR ok z id (findE p k es))
      cases findE p k es with
      | _ => first | exact .er | exact .rv

/-- frames with the same operands -/
def Sf (f f' : Fm) (l : List Operand) : Prop := ∀ x ∈ l, (opd x).g f = (opd x).g f'
/-- an operation's result hangs on its operands' values, and on the block that it reads -/
def Loc (f f' : Fm) (C : Co) : Prop := C.r f = C.r f' ∧ (C.ch = false → ∀ g, Rl (C.r g))
section
variable {c : Tab} {f f' : Fm} {x y z : Operand}
theorem Loc.e {n : Nat} : Loc f f' (coE n) := ⟨rfl, fun _ _ => Rl.const _⟩
theorem Loc.o1 {k : V → Nx} (hx : (opd x).g f = (opd x).g f') : Loc f f' (co1 x k) := ⟨by unfold co1; simp only [hx], fun _ _ => Rl.const _⟩
theorem Loc.o2 {k : V → V → Nx} (hx : (opd x).g f = (opd x).g f') (hy : (opd y).g f = (opd y).g f') : Loc f f' (co2 x y k) := ⟨by unfold co2; simp only [hx, hy], fun _ _ => Rl.const _⟩
theorem Loc.o3 {k : V → V → V → Nx} (hx : (opd x).g f = (opd x).g f') (hy : (opd y).g f = (opd y).g f') (hz : (opd z).g f = (opd z).g f') : Loc f f' (co3 x y z k) := ⟨by unfold co3; simp only [hx, hy, hz], fun _ _ => Rl.const _⟩
theorem Loc.m1 {k : V → St → Nx} (hk : ∀ v, Rl (k v)) (hx : (opd x).g f = (opd x).g f') : Loc f f' (cm1 x k) := ⟨by unfold cm1; simp only [hx], fun _ g => hk _⟩
theorem Loc.m2 {b : Bool} {k : V → V → St → Nx} (hk : b = false → ∀ v u, Rl (k v u)) (hx : (opd x).g f = (opd x).g f') (hy : (opd y).g f = (opd y).g f') : Loc f f' (cm2 b x y k) := ⟨by unfold cm2; simp only [hx, hy], fun hb g => hk hb _ _⟩
theorem Loc.m3 {k : V → V → V → St → Nx} (hx : (opd x).g f = (opd x).g f') (hy : (opd y).g f = (opd y).g f') (hz : (opd z).g f = (opd z).g f') : Loc f f' (cm3 x y z k) := ⟨by unfold cm3; simp only [hx, hy, hz], fun h => by cases h⟩
theorem Loc.kk {n : Nx} : Loc f f' ⟨false, fun _ _ => n⟩ := ⟨rfl, fun _ _ => Rl.const _⟩
theorem Loc.bif {b : Bool} {C D : Co} (h1 : Loc f f' C) (h2 : Loc f f' D) : Loc f f' (bif b then C else D) := by cases b <;> assumption
theorem Loc.zb {t : TypeId} {k : List V → Co} (h : ∀ z, Loc f f' (k z)) : Loc f f' (zcz c t k) := by unfold zcz; exact Loc.bif (h _) Loc.e
theorem Loc.zz {t : TypeId} {k : List V → Co} (h : ∀ z, Loc f f' (k z)) : Loc f f' (zcs c t k) := by unfold zcs; exact Loc.bif (h _) Loc.e
theorem opds_sf : ∀ {l : List Operand}, Sf f f' l → (opds l).g f = (opds l).g f'
  | [], _ => rfl
  | x :: l, h => by
    show (opd x).g f :: (opds l).g f = (opd x).g f' :: (opds l).g f'
    rw [h x (List.mem_cons_self ..), opds_sf fun y hy => h y (List.mem_cons_of_mem _ hy)]
theorem gpK_sf {tot : Nat} {pl : Nat → Option (Nat × Nat)} : ∀ {l : List (Nat × Operand)} {g : Gp}, gpK tot pl l = some g → Sf f f' (l.map (·.2)) → g.g f = g.g f'
  | [], g, h, _ => by
    have h2 : some (⟨fun _ => []⟩ : Gp) = some g := h
    cases h2; rfl
  | p :: l, g, h, hs => by
    unfold gpK at h
    split at h
    · rename_i q hh h1 h2
      cases hb : Nat.ble (q.1 + q.2) tot with
      | false => rw [hb] at h; cases h
      | true =>
        rw [hb] at h
        simp only [cond_true, Option.some.injEq] at h
        subst h
        simp only
        rw [gpK_sf h2 fun y hy => hs y (List.mem_cons_of_mem _ hy), hs p.2 (by simp)]
    · cases h
theorem Loc.build {zero : List V} {tot : Nat} {pl : Nat → Option (Nat × Nat)} {l : List (Nat × Operand)} (hs : Sf f f' (l.map (·.2))) : Loc f f' (coBuild zero (gpK tot pl l)) := by
  unfold coBuild
  split
  · rename_i g h
    exact ⟨by simp only [gpK_sf h hs], fun _ _ => Rl.const _⟩
  · exact Loc.e
theorem Loc.rows {e sz n : Nat} {zero : List V} {tot : Nat} {pl : Nat → Option (Nat × Nat)} {l : List (Nat × Operand)} (hs : Sf f f' (l.map (·.2))) : Loc f f' (coRows e sz n zero (gpK tot pl l)) := by
  unfold coRows
  split
  · rename_i g h
    exact ⟨by simp only [gpK_sf h hs], fun _ _ => Rl.const _⟩
  · exact Loc.e
theorem gnK_sf {o : Option Operand} (h : ∀ x, o = some x → (opd x).g f = (opd x).g f') : (gnK o).g f = (gnK o).g f' := by
  unfold gnK
  cases o with
  | none => rfl
  | some x => simp only [h x rfl]
/-- whatever the match: each of its ways -/
theorem Loc.bin {op : BinOp} {t : TypeId} (hx : (opd x).g f = (opd x).g f') (hy : (opd y).g f = (opd y).g f') : Loc f f' (coBin c op t x y) := by
  unfold coBin coEq
  repeat (first | exact Loc.e | exact Loc.kk | exact Loc.o1 (by assumption) | exact Loc.o2 (by assumption) (by assumption) | refine Loc.bif ?_ ?_ | split)
theorem Loc.at_ {t : TypeId} (hx : (opd x).g f = (opd x).g f') (hy : (opd y).g f = (opd y).g f') : Loc f f' (coAt c t x y) := by
  unfold coAt
  repeat (first | exact Loc.e | exact Loc.kk | exact Loc.o1 (by assumption) | exact Loc.o2 (by assumption) (by assumption) | refine Loc.bif ?_ ?_ | split)
theorem Loc.ix {t : TypeId} (hx : (opd x).g f = (opd x).g f') (hy : (opd y).g f = (opd y).g f') : Loc f f' (coIx c t x y) := by
  unfold coIx
  repeat (first | exact Loc.e | exact Loc.kk | exact Loc.o1 (by assumption) | exact Loc.o2 (by assumption) (by assumption) | refine Loc.bif ?_ ?_ | split)
theorem Loc.fld {t : TypeId} {i : Nat} (hx : (opd x).g f = (opd x).g f') : Loc f f' (coFld c t x i) := by
  unfold coFld
  repeat (first | exact Loc.e | exact Loc.kk | exact Loc.o1 (by assumption) | exact Loc.o2 (by assumption) (by assumption) | refine Loc.bif ?_ ?_ | split)
theorem Loc.fad {t : TypeId} {i : Nat} (hx : (opd x).g f = (opd x).g f') : Loc f f' (coFad c t x i) := by
  unfold coFad
  repeat (first | exact Loc.e | exact Loc.kk | exact Loc.o1 (by assumption) | exact Loc.o2 (by assumption) (by assumption) | refine Loc.bif ?_ ?_ | split)
theorem Loc.map {t : TypeId} {k : Kp → TypeId → Co} (h : ∀ p e, Loc f f' (k p e)) : Loc f f' (coMap c t k) := by
  unfold coMap
  repeat (first | exact Loc.e | exact h _ _ | split)
end
end Go.Proofs.O

/-
  An operation looks at its operands' values, and at the block that it reads, alone: every operation.
-/
set_option linter.unusedVariables false
set_option linter.unusedSimpArgs false
namespace Go.Proofs.O
open Go Go.Proofs.E

section
variable {c : Tab} {f f' : Fm}
theorem Sf.mk {l : List Operand} (h : ∀ x ∈ l, (opd x).g f = (opd x).g f') : Sf f f' l := h
theorem loc_slice {t : TypeId} {x : Operand} {lo hi mx : Option Operand} (h : Sf f f' (Op.slice t x lo hi mx).operands.toList) : Loc f f' (coSlice c t x lo hi mx) := by
  have hx : (opd x).g f = (opd x).g f' := h x (by simp [Op.operands])
  have hlo : ∀ y, lo = some y → (opd y).g f = (opd y).g f' := fun y e => h y (by subst e; simp [Op.operands])
  have hhi : ∀ y, hi = some y → (opd y).g f = (opd y).g f' := fun y e => h y (by subst e; simp [Op.operands])
  have hmx : ∀ y, mx = some y → (opd y).g f = (opd y).g f' := fun y e => h y (by subst e; simp [Op.operands])
  have e1 := gnK_sf hlo
  have e2 := gnK_sf hhi
  have e3 := gnK_sf hmx
  unfold coSlice
  split
  · refine Loc.bif ?_ Loc.e
    unfold coSl
    split
    · exact ⟨by simp only [hx, e1, e2], fun _ g => rl_slc _ _ _ _⟩
    · split
      · exact ⟨by simp only [hx, e1, e2, e3], fun _ _ => Rl.const _⟩
      · exact Loc.e
  · split
    · exact ⟨by simp only [hx, e1, e2], fun _ _ => Rl.const _⟩
    · exact Loc.e
  · exact Loc.e
theorem loc_blt {b : Builtin} {tys : List TypeId} {args : List Operand} (h : Sf f f' args) : Loc f f' (coBlt c b tys args) := by
  unfold coBlt
  split
  · have hx := h _ (List.mem_cons_self ..)
    split
    · exact Loc.o1 hx
    · exact Loc.o1 hx
    · exact Loc.m1 rl_len hx
    · exact Loc.kk
    · split
      · exact Loc.kk
      · exact Loc.e
    · exact Loc.e
  · have hx := h _ (List.mem_cons_self ..)
    split
    · exact Loc.bif (Loc.m1 (rl_cap _) hx) Loc.e
    · exact Loc.e
  · exact ⟨by simp only [opds_sf h], fun _ _ => Rl.const _⟩
  · exact ⟨by simp only [opds_sf h], fun _ _ => Rl.const _⟩
  · have hx := h _ (List.mem_cons_self ..)
    have hy := h _ (List.mem_cons_of_mem _ (List.mem_cons_self ..))
    split
    · refine Loc.bif ?_ Loc.e
      split
      · exact Loc.zz fun z => Loc.m2 (by intro h; cases h) hx hy
      · exact Loc.m2 (by intro h; cases h) hx hy
      · exact Loc.m2 (by intro h; cases h) hx hy
      · exact Loc.e
    · exact Loc.e
  · have hx := h _ (List.mem_cons_self ..)
    have hy := h _ (List.mem_cons_of_mem _ (List.mem_cons_self ..))
    split
    · exact Loc.bif (Loc.m2 (by intro h; cases h) hx hy) Loc.e
    · exact Loc.e
  · have hx := h _ (List.mem_cons_self ..)
    have hy := h _ (List.mem_cons_of_mem _ (List.mem_cons_self ..))
    exact Loc.map fun p e => Loc.m2 (by intro h; cases h) hx hy
  · have hx := h _ (List.mem_cons_self ..)
    split
    · exact Loc.zz fun z => ⟨by simp only [hx], fun h => by cases h⟩
    · exact Loc.e
  · exact Loc.e
theorem cop_loc (o : Op) (h : Sf f f' o.operands.toList) : Loc f f' (cop c o) := by
  cases o with
  | move x => exact Loc.o1 (h x (by simp [Op.operands]))
  | assign x => exact Loc.o1 (h x (by simp [Op.operands]))
  | pick x a b => exact Loc.o3 (h x (by simp [Op.operands])) (h a (by simp [Op.operands])) (h b (by simp [Op.operands]))
  | alloc t => exact Loc.zz fun z => Loc.kk
  | box t x => exact Loc.bif (Loc.o1 (h x (by simp [Op.operands]))) (Loc.o1 (h x (by simp [Op.operands])))
  | build t ps =>
    have hs : Sf f f' (ps.toList.map (·.2)) := fun x hx => h x (by simpa [Op.operands] using hx)
    show Loc f f' (match c.desc t with | _ => _)
    unfold cop
    simp only
    split
    · exact Loc.bif (Loc.zb fun z => Loc.build hs) Loc.e
    · exact Loc.bif (Loc.zz fun z => Loc.build hs) Loc.e
    · exact Loc.e
  | buildSlice t n ps =>
    have hs : Sf f f' (ps.toList.map (·.2)) := fun x hx => h x (by simpa [Op.operands] using hx)
    unfold cop
    simp only
    split
    · exact Loc.bif (Loc.zz fun z => Loc.rows hs) Loc.e
    · exact Loc.e
  | load t x =>
    unfold cop
    simp only
    split
    · exact Loc.m1 (rl_load _ _) (h x (by simp [Op.operands]))
    · exact Loc.e
  | store t x y => exact Loc.bif (Loc.m2 (by intro h; cases h) (h x (by simp [Op.operands])) (h y (by simp [Op.operands]))) Loc.e
  | nilCheck x => exact Loc.o1 (h x (by simp [Op.operands]))
  | binOp op t x y u => exact Loc.bin (h x (by simp [Op.operands])) (h y (by simp [Op.operands]))
  | unOp op t x =>
    have hx := h x (by simp [Op.operands])
    unfold cop
    cases op <;> first | exact Loc.o1 hx | exact Loc.e
  | convert t u x =>
    have hx := h x (by simp [Op.operands])
    unfold cop
    simp only
    split
    · exact Loc.o1 hx
    · exact Loc.o1 hx
    · exact Loc.e
  | makeInterface t x =>
    have hx := h x (by simp [Op.operands])
    unfold cop
    simp only
    split
    · exact Loc.e
    · exact Loc.e
    · exact Loc.o1 hx
  | makeFunc fn a b =>
    have ha : Sf f f' a.toList := fun x hx => h x (by simp only [Op.operands, Array.toList_append, List.mem_append]; exact .inl hx)
    have hb : Sf f f' b.toList := fun x hx => h x (by simp only [Op.operands, Array.toList_append, List.mem_append]; exact .inr hx)
    exact ⟨by unfold cop; simp only [opds_sf ha, opds_sf hb], fun _ _ => Rl.const _⟩
  | makeMap t r =>
    unfold cop
    cases r with
    | none => exact Loc.kk
    | some x => exact Loc.e
  | makeSlice t x y =>
    unfold cop
    simp only
    split
    · exact Loc.bif (Loc.zz fun z => Loc.o2 (h x (by simp [Op.operands])) (h y (by simp [Op.operands]))) Loc.e
    · exact Loc.e
  | slice t x lo hi mx => exact loc_slice h
  | fieldAddr t x i => exact Loc.fad (h x (by simp [Op.operands]))
  | field t x i => exact Loc.fld (h x (by simp [Op.operands]))
  | indexAddr t x y => exact Loc.at_ (h x (by simp [Op.operands])) (h y (by simp [Op.operands]))
  | index t x y => exact Loc.ix (h x (by simp [Op.operands])) (h y (by simp [Op.operands]))
  | lookup t x k ok => exact Loc.map fun p e => Loc.bif Loc.e (Loc.m2 (fun _ v u => rl_lok _ _ _ _ _) (h x (by simp [Op.operands])) (h k (by simp [Op.operands])))
  | mapUpdate t m k x => exact Loc.map fun p e => Loc.m3 (h m (by simp [Op.operands])) (h k (by simp [Op.operands])) (h x (by simp [Op.operands]))
  | mapEntry t m k => exact Loc.map fun p e => Loc.bif Loc.e (Loc.m2 (by intro h; cases h) (h m (by simp [Op.operands])) (h k (by simp [Op.operands])))
  | entryStore t m st x => exact Loc.m3 (h m (by simp [Op.operands])) (h st (by simp [Op.operands])) (h x (by simp [Op.operands]))
  | typeAssert x t u ok =>
    have hx := h x (by simp [Op.operands])
    unfold cop
    simp only
    split
    · exact Loc.e
    · exact Loc.e
    · exact Loc.o1 hx
  | extract x i => exact Loc.o1 (h x (by simp [Op.operands]))
  | call cl =>
    obtain ⟨ce, args, ts⟩ := cl
    cases ce with
    | builtin b => exact loc_blt fun x hx => h x (by simpa [Op.operands, Call.operands] using hx)
    | value g =>
      have hg : (opd g).g f = (opd g).g f' := h g (by simp [Op.operands, Call.operands])
      have ha : Sf f f' args.toList := fun x hx => h x (by simp [Op.operands, Call.operands]; exact .inr (by simpa using hx))
      exact ⟨by unfold cop; simp only [hg, opds_sf ha], fun h => by cases h⟩
    | invoke g n =>
      have hg : (opd g).g f = (opd g).g f' := h g (by simp [Op.operands, Call.operands])
      have ha : Sf f f' args.toList := fun x hx => h x (by simp [Op.operands, Call.operands]; exact .inr (by simpa using hx))
      exact ⟨by unfold cop; simp only [hg, opds_sf ha], fun h => by cases h⟩
  | range t x =>
    have hx := h x (by simp [Op.operands])
    unfold cop
    simp only
    split
    · exact ⟨by simp only [hx], fun h => by cases h⟩
    · exact Loc.e
  | next x b =>
    have hx := h x (by simp [Op.operands])
    unfold cop
    cases b with
    | false => exact ⟨by simp only [hx], fun h => by cases h⟩
    | true => exact Loc.e
  | _ => exact Loc.e
end
end Go.Proofs.O

/-
  Regions that draw their order: what stands ahead of an operation, as the bits of a number.
-/
set_option linter.unusedVariables false
set_option linter.unusedSimpArgs false
namespace Go.Proofs.O
open Go Go.Proofs.E

theorem bit_eq (m j : Nat) : bit m j = m.testBit j := by
  unfold bit
  rw [Nat.testBit_eq_decide_div_mod_eq]
  cases h : Nat.beq (Nat.mod (Nat.div m (2 ^ j)) 2) 1 with
  | true => have := beq_t.1 h; exact (decide_eq_true this).symm
  | false =>
    refine (decide_eq_false fun e => ?_).symm
    have : Nat.beq (Nat.mod (Nat.div m (2 ^ j)) 2) 1 = true := beq_t.2 e
    rw [h] at this; cases this
theorem bit_zero (j : Nat) : bit 0 j = false := by rw [bit_eq]; exact Nat.zero_testBit j
theorem mask_fold (acc : List Nat) : ∀ (es : List Edge) (m l : Nat), bit (es.foldl (fun m e => bif Region.binds .any e then m ||| 2 ^ e.on ||| acc.getD e.on 0 else m) m) l = true ↔
    bit m l = true ∨ ∃ e ∈ es, Region.binds .any e = true ∧ (l = e.on ∨ bit (acc.getD e.on 0) l = true)
  | [], m, l => by simp
  | e :: es, m, l => by
    rw [List.foldl_cons, mask_fold acc es]
    cases hb : Region.binds .any e with
    | false => simp [hb]
    | true =>
      simp only [cond_true, bit_eq, Nat.testBit_or, Bool.or_eq_true, Nat.testBit_two_pow, decide_eq_true_eq, List.mem_cons, exists_eq_or_imp, hb, true_and]
      constructor
      · rintro (((h | h) | h) | h)
        · exact .inl h
        · exact .inr (.inl (.inl h.symm))
        · exact .inr (.inl (.inr h))
        · exact .inr (.inr h)
      · rintro (h | (h | h) | h)
        · exact .inl (.inl (.inl h))
        · exact .inl (.inl (.inr h.symm))
        · exact .inl (.inr h)
        · exact .inr h
theorem maskK_iff (acc : List Nat) (o : Oper) (l : Nat) : bit (maskK acc o) l = true ↔ ∃ e ∈ o.after.toList, Region.binds .any e = true ∧ (l = e.on ∨ bit (acc.getD e.on 0) l = true) := by
  unfold maskK
  rw [mask_fold, bit_zero]; simp
theorem masks_go : ∀ (ops : List Oper) (acc : List Nat), ∃ r : List Nat, ops.foldl (fun acc o => acc ++ [maskK acc o]) acc = acc ++ r ∧ r.length = ops.length ∧ ∀ i o, ops[i]? = some o → r[i]? = some (maskK (acc ++ r.take i) o)
  | [], acc => ⟨[], by simp, rfl, fun i o h => by simp at h⟩
  | x :: ops, acc => by
    obtain ⟨r, h1, h2, h3⟩ := masks_go ops (acc ++ [maskK acc x])
    refine ⟨maskK acc x :: r, by rw [List.foldl_cons, h1]; simp, by simp [h2], fun i o h => ?_⟩
    cases i with
    | zero => simp at h; subst h; simp
    | succ i =>
      simp only [List.getElem?_cons_succ] at h ⊢
      rw [h3 i o h]; simp
theorem masks_len (ops : List Oper) : (masks ops).length = ops.length := by
  obtain ⟨r, h1, h2, _⟩ := masks_go ops []
  unfold masks; rw [h1]; simpa using h2
theorem masks_at {ops : List Oper} {i : Nat} {o : Oper} (h : ops[i]? = some o) : (masks ops)[i]? = some (maskK ((masks ops).take i) o) := by
  obtain ⟨r, h1, h2, h3⟩ := masks_go ops []
  have e : masks ops = r := by unfold masks; rw [h1]; rfl
  rw [e]; simpa using h3 i o h
/-- what the static check says -/
structure Sep (ops : List Oper) : Prop where
  edge : ∀ i o, ops[i]? = some o → ∀ e ∈ o.after.toList, Region.binds .any e = true → e.on < i
  look : ∀ i y j x d, ops[i]? = some y → ops[j]? = some x → x.dst = some d → i ≠ j → (d ∈ y.looksAt ops.toArray → bit ((masks ops).getD i 0) j = true ∨ bit ((masks ops).getD j 0) i = true) ∧ y.dst ≠ some d
theorem sepK_ok {ops : List Oper} (h : sepK ops (masks ops) = true) : Sep ops := by
  unfold sepK at h
  have hm : ∀ i o, ops[i]? = some o → (o, i) ∈ ops.zipIdx := fun i o h => by
    rw [List.mem_iff_getElem?]
    exact ⟨i, by simp [List.getElem?_zipIdx, h]⟩
  rw [List.all_eq_true] at h
  refine ⟨fun i o hi e he hb => ?_, fun i y j x d hi hj hd hij => ?_⟩
  · have := h _ (hm i o hi)
    simp only [Bool.and_eq_true, List.all_eq_true] at this
    have h2 := this.1 e he
    rw [hb] at h2
    exact blt_t.1 (by simpa using h2)
  · have := h _ (hm i y hi)
    simp only [Bool.and_eq_true, List.all_eq_true] at this
    have h2 := this.2 _ (hm j x hj)
    unfold sep2 at h2
    rw [hd] at h2
    simp only [Bool.or_eq_true, Bool.and_eq_true, Bool.not_eq_true', bne_iff_ne] at h2
    rcases h2 with h2 | ⟨h2, h3⟩
    · exact absurd (beq_t.1 h2) hij
    · refine ⟨fun hd => ?_, h3⟩
      rcases h2 with (h2 | h2) | h2
      · rw [List.contains_iff_mem.2 hd] at h2; cases h2
      · exact .inl h2
      · exact .inr h2
section
variable {ops : List Oper} {i j : Nat}
theorem bit_lt (hS : Sep ops) : ∀ i j, bit ((masks ops).getD i 0) j = true → j < i := by
  intro i
  induction i using Nat.strongRecOn with
  | _ i ih =>
    intro j h
    cases ho : ops[i]? with
    | none =>
      rw [List.getD_eq_getElem?_getD, List.getElem?_eq_none (by rw [masks_len]; exact List.getElem?_eq_none_iff.1 ho)] at h
      rw [Option.getD_none, bit_zero] at h; cases h
    | some o =>
      rw [List.getD_eq_getElem?_getD, masks_at ho, Option.getD_some, maskK_iff] at h
      obtain ⟨e, he, hb, hj⟩ := h
      have hlt := hS.edge i o ho e he hb
      rcases hj with rfl | hj
      · exact hlt
      · have : ((masks ops).take i).getD e.on 0 = (masks ops).getD e.on 0 := by
          rw [List.getD_eq_getElem?_getD, List.getD_eq_getElem?_getD, List.getElem?_take, if_pos hlt]
        rw [this] at hj
        exact Nat.lt_trans (ih e.on hlt j hj) hlt
/-- a set that holds what its members' edges lead to holds what stands ahead of its members -/
theorem closed_bit (hS : Sep ops) {S : Nat → Prop} (hc : ∀ i o, ops[i]? = some o → S i → ∀ e ∈ o.after.toList, Region.binds .any e = true → S e.on) : ∀ i j, S i → bit ((masks ops).getD i 0) j = true → S j := by
  intro i
  induction i using Nat.strongRecOn with
  | _ i ih =>
    intro j hi h
    cases ho : ops[i]? with
    | none =>
      rw [List.getD_eq_getElem?_getD, List.getElem?_eq_none (by rw [masks_len]; exact List.getElem?_eq_none_iff.1 ho)] at h
      rw [Option.getD_none, bit_zero] at h; cases h
    | some o =>
      rw [List.getD_eq_getElem?_getD, masks_at ho, Option.getD_some, maskK_iff] at h
      obtain ⟨e, he, hb, hj⟩ := h
      have hlt := hS.edge i o ho e he hb
      have hSe := hc i o ho hi e he hb
      rcases hj with rfl | hj
      · exact hSe
      · have : ((masks ops).take i).getD e.on 0 = (masks ops).getD e.on 0 := by
          rw [List.getD_eq_getElem?_getD, List.getD_eq_getElem?_getD, List.getElem?_take, if_pos hlt]
        rw [this] at hj
        exact ih e.on hlt j hSe hj
end
end Go.Proofs.O

/-
  Regions that draw their order: the run in the order of the text, step by step.
-/
set_option linter.unusedVariables false
set_option linter.unusedSimpArgs false
namespace Go.Proofs.O
open Go Go.Proofs.E

/-! equal values -/
theorem eqO_ok {c d : Option Nat} (h : eqO c d = true) : c = d := by
  cases c <;> cases d
  · rfl
  · cases h
  · cases h
  · exact congrArg some (beq_t.1 h)
theorem nilK_np {y : V} (h : Nat.beq (nilK y) 1 = true) : y = .np := by cases y <;> first | rfl | (cases h; done)
theorem nilK_nsl {y : V} (h : Nat.beq (nilK y) 2 = true) : y = .nsl := by cases y <;> first | rfl | (cases h; done)
theorem nilK_nm {y : V} (h : Nat.beq (nilK y) 3 = true) : y = .nm := by cases y <;> first | rfl | (cases h; done)
theorem nilK_nf {y : V} (h : Nat.beq (nilK y) 4 = true) : y = .nf := by cases y <;> first | rfl | (cases h; done)
theorem nilK_ni {y : V} (h : Nat.beq (nilK y) 5 = true) : y = .ni := by cases y <;> first | rfl | (cases h; done)
theorem isT_ok {o : O3} (h : isT o = true) : o = .b true := by
  cases o with
  | no => cases h
  | b b => exact congrArg O3.b h
mutual
theorem eqV_ok : ∀ (x y : V), eqV x y = true → x = y
  | .b b, y, h => by
    cases y <;> try (cases h; done)
    have h2 : eqB b _ = true := h
    rw [eqB_t] at h2; rw [eq_of_beq h2]
  | .i k n, y, h => by
    obtain ⟨q, m, l, e1, e2, e3⟩ := eqI_ok (ρ := ⟨id, id, id, id, fun _ => True⟩) (isT_ok (h : isT (eqI (.i k n) y) = true))
    have := of_decide_eq_true e3.symm
    subst this; rw [e1, e2]
  | .s s, y, h => by
    cases y <;> try (cases h; done)
    rename_i t
    have h2 : (s.data.toList == t.data.toList) = true := h
    rw [ByteArray.ext (Array.ext' (eq_of_beq h2))]
  | .p a i, y, h => by
    cases y <;> try (cases h; done)
    obtain ⟨h1, h2⟩ := band_t.1 (h : band _ _ = true)
    rw [beq_t.1 h1, beq_t.1 h2]
  | .np, y, h => (nilK_np h).symm
  | .sl a o l c, y, h => by
    cases y <;> try (cases h; done)
    obtain ⟨h1, h2⟩ := band_t.1 (h : band _ _ = true)
    obtain ⟨h2, h3⟩ := band_t.1 h2
    obtain ⟨h3, h4⟩ := band_t.1 h3
    rw [beq_t.1 h1, beq_t.1 h2, beq_t.1 h3, eqO_ok h4]
  | .nsl, y, h => (nilK_nsl h).symm
  | .m a, y, h => by
    cases y <;> try (cases h; done)
    rw [beq_t.1 (h : Nat.beq a _ = true)]
  | .nm, y, h => (nilK_nm h).symm
  | .f _ _ _, y, h => by cases h
  | .nf, y, h => (nilK_nf h).symm
  | .ic t v, y, h => by
    cases y <;> try (cases h; done)
    obtain ⟨h1, h2⟩ := band_t.1 (h : band _ (eqV v _) = true)
    rw [beq_t.1 h1, eqV_ok v _ h2]
  | .ni, y, h => (nilK_ni h).symm
  | .a cs, y, h => by
    cases y <;> try (cases h; done)
    rw [eqVs_ok cs _ h]
  | .t cs, y, h => by
    cases y <;> try (cases h; done)
    rw [eqVs_ok cs _ h]
  | .bad, y, h => by cases h
theorem eqVs_ok : ∀ (xs ys : List V), (V.rec_1 (motive_1 := fun _ => V → Bool) (motive_2 := fun _ => List V → Bool)
  (fun b y => OB.rec (motive := fun _ => Bool) false (fun t => eqB b t) (asB y))
  (fun k n y => isT (eqI (.i k n) y))
  (fun s y => OS.rec (motive := fun _ => Bool) false false (fun _ _ _ _ => false) (fun t => s.data.toList == t.data.toList) (asS y))
  (fun a i y => OP.rec (motive := fun _ => Bool) false (fun b j => band (Nat.beq a b) (Nat.beq i j)) (asP y))
  (fun y => Nat.beq (nilK y) 1)
  (fun a o l c y => OS.rec (motive := fun _ => Bool) false false (fun b p m d => band (Nat.beq a b) (band (Nat.beq o p) (band (Nat.beq l m) (eqO c d)))) (fun _ => false) (asS y))
  (fun y => Nat.beq (nilK y) 2)
  (fun a y => OM.rec (motive := fun _ => Bool) false false (fun b => Nat.beq a b) (asM y))
  (fun y => Nat.beq (nilK y) 3)
  (fun _ _ _ _ _ _ => false)
  (fun y => Nat.beq (nilK y) 4)
  (fun t v ih y => OC.rec (motive := fun _ => Bool) false (fun u w => band (Nat.beq t u) (ih w)) (asC y))
  (fun y => Nat.beq (nilK y) 5)
  (fun cs ih y => OL.rec (motive := fun _ => Bool) false (fun ds => ih ds) (asA y))
  (fun cs ih y => OL.rec (motive := fun _ => Bool) false (fun ds => ih ds) (asT y))
  (fun _ => false)
  (fun l => List.rec (motive := fun _ => Bool) true (fun _ _ _ => false) l)
  (fun x l ihx ihl r => List.rec (motive := fun _ => Bool) false (fun y ys _ => band (ihx y) (ihl ys)) r) xs : List V → Bool) ys = true → xs = ys
  | [], ys, h => by
    cases ys with
    | nil => rfl
    | cons y ys => cases h
  | x :: xs, ys, h => by
    cases ys with
    | nil => cases h
    | cons y ys =>
      obtain ⟨h1, h2⟩ := band_t.1 (h : band (eqV x y) _ = true)
      rw [eqV_ok x y h1, eqVs_ok xs ys h2]
end
theorem sameX_ok {r : Nat} {x : V} {n : Nx} (h : sameX r x n = true) : n = .rv x r := by
  cases n <;> try (cases h; done)
  obtain ⟨h1, h2⟩ := band_t.1 (h : band _ _ = true)
  rw [beq_t.1 h1, eqV_ok _ _ h2]
end Go.Proofs.O

/-
  Regions that draw their order: the run in the order of the text, step by step.
-/
set_option linter.unusedVariables false
set_option linter.unusedSimpArgs false
namespace Go.Proofs.O
open Go Go.Proofs.E

inductive Kd where | skip | v | rd (r : Nat) | nw (b : B) | ch
/-- an operation that may turn the memory: its value, the memory behind it -/
inductive Tn (self : Self) (s0 : St) : Nx → V → St → Prop where
  | v (x : V) : Tn self s0 (.v x) x s0
  | rv (x : V) (r : Nat) : Tn self s0 (.rv x r) x s0
  | sv (x : V) (s : St) : Tn self s0 (.sv x s) x s
  | en (k : FuncId) (args : List V) (e : Ex) (f : Fm) (x : V) (s : St) : self (.call k args) s0 = .ok e f x s → Tn self s0 (.en k args) x s
/-- a step in the order of the text: its kind, its value, what is known behind it, the memory behind it -/
inductive Stp (c : Tab) (self : Self) (n0 : Nat) (all : List Oper) (o : Oper) (m : Nat) (d : Dw) (f : Fm) (s : St) : Kd → V → Dw → St → Prop where
  | skip : wtK f (guK all o.guard) = .n → Stp c self n0 all o m d f s .skip und (dNext d) s
  | v (x : V) : wtK f (guK all o.guard) = .y → (cop c o.op).ch = false → (cop c o.op).r f s = .v x → Stp c self n0 all o m d f s .v x (dNext d) s
  | rd (x : V) (r : Nat) : wtK f (guK all o.guard) = .y → (cop c o.op).ch = false → (cop c o.op).r f s = .rv x r → rdOk m r ((cop c o.op).r f) x d.ch = true → Stp c self n0 all o m d f s (.rd r) x (dRead d r ((cop c o.op).r f) x) s
  | nw (xf : Nat → V) (b : B) : wtK f (guK all o.guard) = .y → (cop c o.op).ch = false → (cop c o.op).r f s = .al xf b → Stp c self n0 all o m d f s (.nw b) (xf (n0 + d.i)) (dNew d (n0 + d.i) b) s
  | ch (x : V) (s' : St) : wtK f (guK all o.guard) = .y → (cop c o.op).ch = true → Tn self (mergeK m d.xs s) ((cop c o.op).r f (mergeK m d.xs s)) x s' → chOk m s' d.rd = true → lastOk m d.ch = true → s'.nx < 1000000 → Stp c self n0 all o m d f s .ch x (dTurn d m s) s'
structure Rec where
  d : Dw
  f : Fm
  s : St
/-- the run of a list -/
inductive Runs (c : Tab) (self : Self) (N n0 : Nat) (all : List Oper) : List Oper → List Nat → Rec → Rec → List (Rec × Kd × V) → Prop where
  | nil (a : Rec) : Runs c self N n0 all [] [] a a []
  | cons (o : Oper) (os : List Oper) (m : Nat) (ms : List Nat) (a b : Rec) (k : Kd) (x : V) (d' : Dw) (s' : St) (t : List (Rec × Kd × V)) : (∀ d, o.dst = some d → d < N) → Stp c self n0 all o m a.d a.f a.s k x d' s' → Runs c self N n0 all os ms ⟨d', putD o.dst x a.f, s'⟩ b t → Runs c self N n0 all (o :: os) (m :: ms) a b ((a, k, x) :: t)
section
variable {c : Tab} {self : Self} {N n0 : Nat} {all : List Oper}
theorem turnK_ok {m : Nat} {s0 s : St} {d : Dw} {next : Go2} {f f' : Fm} {e : Ex} {v : V} {s' : St} (h : turnK m s0 d next f s = .ok e f' v s') : chOk m s d.rd = true ∧ lastOk m d.ch = true ∧ s.nx < 1000000 ∧ next (dTurn d m s0) f s = .ok e f' v s' := by
  unfold turnK at h
  rw [brec] at h
  split at h
  · rename_i hb
    obtain ⟨h1, h2⟩ := band_t.1 hb
    obtain ⟨h2, h3⟩ := band_t.1 h2
    exact ⟨h1, h2, blt_t.1 h3, h⟩
  · cases h
theorem dop_ok {o : Oper} {m : Nat} {next : Go2} {d : Dw} {f f' : Fm} {s : St} {e : Ex} {v : V} {s' : St} (h : dopK self n0 ⟨roK c N all o, m⟩ next d f s = .ok e f' v s') :
    (∀ d, o.dst = some d → d < N) ∧ ∃ k x d1 s1, Stp c self n0 all o m d f s k x d1 s1 ∧ next d1 (putD o.dst x f) s1 = .ok e f' v s' := by
  have hne : wtK f (roK c N all o).gd ≠ .er := fun he => by
    unfold dopK at h
    rw [show (({ ro := roK c N all o, ms := m } : Rd).ro.gd) = (roK c N all o).gd from rfl, he] at h
    cases h
  obtain ⟨hd, hro⟩ := roK_ok hne
  rw [hro] at h hne
  refine ⟨hd, ?_⟩
  have hne : wtK f (guK all o.guard) ≠ .er := hne
  have h1 : Wt.rec (motive := fun _ => Out) (next (dNext d) (putD o.dst und f) s)
    (Bool.rec (motive := fun _ => Out) (qxK n0 m (putD o.dst) (cop c o.op).r next d f s ((cop c o.op).r f s)) (cxK self m s (putD o.dst) next d f (mergeK m d.xs s) ((cop c o.op).r f (mergeK m d.xs s))) (cop c o.op).ch) (.er 161) (wtK f (guK all o.guard)) = .ok e f' v s' := h
  cases hw : wtK f (guK all o.guard) with
  | er => exact absurd hw hne
  | n =>
    rw [hw] at h1
    exact ⟨.skip, und, _, s, .skip hw, h1⟩
  | y =>
    rw [hw] at h1
    have h1 : (Bool.rec (motive := fun _ => Out) (qxK n0 m (putD o.dst) (cop c o.op).r next d f s ((cop c o.op).r f s)) (cxK self m s (putD o.dst) next d f (mergeK m d.xs s) ((cop c o.op).r f (mergeK m d.xs s))) (cop c o.op).ch) = .ok e f' v s' := h1
    cases hc : (cop c o.op).ch with
    | false =>
      rw [hc] at h1
      have h1 : qxK n0 m (putD o.dst) (cop c o.op).r next d f s ((cop c o.op).r f s) = .ok e f' v s' := h1
      cases hr : (cop c o.op).r f s with
      | v x => rw [hr] at h1; exact ⟨.v, x, _, s, .v x hw hc hr, h1⟩
      | rv x r =>
        rw [hr] at h1
        have h2 : (Bool.rec (motive := fun _ => Out) (.er 163) (next (dRead d r ((cop c o.op).r f) x) (putD o.dst x f) s) (rdOk m r ((cop c o.op).r f) x d.ch)) = .ok e f' v s' := h1
        rw [brec] at h2
        split at h2
        · rename_i hk
          exact ⟨.rd r, x, _, s, .rd x r hw hc hr hk, h2⟩
        · cases h2
      | al xf b => rw [hr] at h1; exact ⟨.nw b, _, _, s, .nw xf b hw hc hr, h1⟩
      | sv x s1 => rw [hr] at h1; cases h1
      | en k args => rw [hr] at h1; cases h1
      | er n => rw [hr] at h1; cases h1
    | true =>
      rw [hc] at h1
      have h1 : cxK self m s (putD o.dst) next d f (mergeK m d.xs s) ((cop c o.op).r f (mergeK m d.xs s)) = .ok e f' v s' := h1
      cases hr : (cop c o.op).r f (mergeK m d.xs s) with
      | v x =>
        rw [hr] at h1
        obtain ⟨q1, q2, q3, q4⟩ := turnK_ok h1
        exact ⟨.ch, x, _, _, .ch x _ hw hc (hr ▸ .v x) q1 q2 q3, q4⟩
      | rv x r =>
        rw [hr] at h1
        obtain ⟨q1, q2, q3, q4⟩ := turnK_ok h1
        exact ⟨.ch, x, _, _, .ch x _ hw hc (hr ▸ .rv x r) q1 q2 q3, q4⟩
      | al xf b => rw [hr] at h1; cases h1
      | sv x s1 =>
        rw [hr] at h1
        obtain ⟨q1, q2, q3, q4⟩ := turnK_ok h1
        exact ⟨.ch, x, _, _, .ch x _ hw hc (hr ▸ .sv x s1) q1 q2 q3, q4⟩
      | en k args =>
        rw [hr] at h1
        have h2 : afD m s (putD o.dst) next d f (self (.call k args) (mergeK m d.xs s)) = .ok e f' v s' := h1
        cases hs : self (.call k args) (mergeK m d.xs s) with
        | er n => rw [hs] at h2; cases h2
        | ok e1 f1 x s1 =>
          rw [hs] at h2
          obtain ⟨q1, q2, q3, q4⟩ := turnK_ok h2
          exact ⟨.ch, x, _, _, .ch x _ hw hc (hr ▸ .en k args e1 f1 x s1 hs) q1 q2 q3, q4⟩
      | er n => rw [hr] at h1; cases h1
theorem dis_ok : ∀ (l : List Oper) (ms : List Nat) (a : Rec) {e : Ex} {f' : Fm} {v : V} {s' : St}, ms.length = l.length → disK self n0 (rdK c N all l ms) a.d a.f a.s = .ok e f' v s' →
    ∃ b t, Runs c self N n0 all l ms a b t ∧ e = .n ∧ f' = b.f ∧ s' = allK b.d.xs b.s
  | [], ms, a, e, f', v, s', hl, h => by
    have : ms = [] := by cases ms with | nil => rfl | cons _ _ => cases hl
    subst this
    have h2 : Out.ok .n a.f und (allK a.d.xs a.s) = .ok e f' v s' := h
    injection h2 with h2 h3 h4 h5
    exact ⟨a, [], .nil a, h2.symm, h3.symm, h5.symm⟩
  | o :: l, [], a, e, f', v, s', hl, h => by cases hl
  | o :: l, m :: ms, a, e, f', v, s', hl, h => by
    have h2 : dopK self n0 ⟨roK c N all o, m⟩ (disK self n0 (rdK c N all l ms)) a.d a.f a.s = .ok e f' v s' := h
    obtain ⟨hd, k, x, d1, s1, hst, hn⟩ := dop_ok h2
    obtain ⟨b, t, h3, h4⟩ := dis_ok l ms ⟨d1, putD o.dst x a.f, s1⟩ (by simpa using hl) hn
    exact ⟨b, _, .cons o l m ms a b k x d1 s1 t hd hst h3, h4⟩
end
end Go.Proofs.O

/-
  Regions that draw their order: what the run in the order of the text says of each operation.
-/
set_option linter.unusedVariables false
set_option linter.unusedSimpArgs false
namespace Go.Proofs.O
open Go Go.Proofs.E

structure Story (c : Tab) (sf : Self) (N n0 : Nat) (all l : List Oper) (ms : List Nat) (T : Nat → Rec) (K : Nat → Kd) (X : Nat → V) : Prop where
  dst : ∀ (i : Nat) (o : Oper), l[i]? = some o → ∀ d, o.dst = some d → d < N
  step : ∀ (i : Nat) (o : Oper), l[i]? = some o → Stp c sf n0 all o (ms.getD i 0) (T i).d (T i).f (T i).s (K i) (X i) (T (i + 1)).d (T (i + 1)).s
  put : ∀ (i : Nat) (o : Oper), l[i]? = some o → (T (i + 1)).f = putD o.dst (X i) (T i).f
section
variable {c : Tab} {sf : Self} {N n0 : Nat} {all : List Oper}
theorem story_of {l : List Oper} {ms : List Nat} {a b : Rec} {t : List (Rec × Kd × V)} (h : Runs c sf N n0 all l ms a b t) : ∃ (T : Nat → Rec) (K : Nat → Kd) (X : Nat → V), Story c sf N n0 all l ms T K X ∧ T 0 = a ∧ T l.length = b := by
  induction h with
  | nil a => exact ⟨fun _ => a, fun _ => .skip, fun _ => und, ⟨fun i o h => by simp at h, fun i o h => by simp at h, fun i o h => by simp at h⟩, rfl, rfl⟩
  | cons o os m ms a b k x d' s' t hd hst _ ih =>
    obtain ⟨T, K, X, h1, h2, h3⟩ := ih
    refine ⟨fun i => Nat.casesOn i a T, fun i => Nat.casesOn i k K, fun i => Nat.casesOn i x X, ⟨?_, ?_, ?_⟩, rfl, h3⟩
    · intro i y hy
      cases i with
      | zero => simp at hy; subst hy; exact hd
      | succ i => exact h1.dst i y (by simpa using hy)
    · intro i y hy
      cases i with
      | zero =>
        simp at hy; subst hy
        show Stp c sf n0 all o m a.d a.f a.s k x (T 0).d (T 0).s
        rw [h2]; exact hst
      | succ i =>
        have := h1.step i y (by simpa using hy)
        simpa using this
    · intro i y hy
      cases i with
      | zero =>
        simp at hy; subst hy
        show (T 0).f = putD o.dst x a.f
        rw [h2]
      | succ i => exact h1.put i y (by simpa using hy)
theorem Stp.di {o : Oper} {m : Nat} {d d' : Dw} {f : Fm} {s s' : St} {k : Kd} {x : V} (h : Stp c sf n0 all o m d f s k x d' s') : d'.i = d.i + 1 := by cases h <;> rfl
theorem Stp.same {o : Oper} {m : Nat} {d d' : Dw} {f : Fm} {s s' : St} {k : Kd} {x : V} (h : Stp c sf n0 all o m d f s k x d' s') (hk : k ≠ .ch) : s' = s ∧ d'.ch = d.ch := by
  cases h <;> first | exact ⟨rfl, rfl⟩ | exact absurd rfl hk
variable {l : List Oper} {ms : List Nat} {T : Nat → Rec} {K : Nat → Kd} {X : Nat → V}
theorem some_of_lt {i : Nat} (h : i < l.length) : ∃ o, l[i]? = some o := ⟨l[i], List.getElem?_eq_getElem h⟩
theorem Story.di (h : Story c sf N n0 all l ms T K X) (h0 : (T 0).d.i = 0) : ∀ i, i ≤ l.length → (T i).d.i = i
  | 0, _ => h0
  | i + 1, hi => by
    obtain ⟨o, ho⟩ := some_of_lt (l := l) (i := i) (by omega)
    rw [(h.step i o ho).di, Story.di h h0 i (by omega)]
/-- between operations that turn the memory it stays -/
theorem Story.same (h : Story c sf N n0 all l ms T K X) : ∀ k i, k ≤ i → i ≤ l.length → (∀ j, k ≤ j → j < i → K j ≠ .ch) → (T i).s = (T k).s
  | k, 0, hk, _, _ => by have : k = 0 := by omega
                         rw [this]
  | k, i + 1, hk, hi, hn => by
    by_cases e : k = i + 1
    · rw [e]
    · obtain ⟨o, ho⟩ := some_of_lt (l := l) (i := i) (by omega)
      rw [((h.step i o ho).same (hn i (by omega) (by omega))).1]
      exact Story.same h k i (by omega) (by omega) fun j h1 h2 => hn j h1 (by omega)
/-- operations that turned the memory -/
theorem Story.chs (h : Story c sf N n0 all l ms T K X) (h0 : (T 0).d.i = 0) : ∀ i, i ≤ l.length → ∀ j, j < i → K j = .ch → (j, (T j).s) ∈ (T i).d.ch
  | 0, _, j, hj, _ => by omega
  | i + 1, hi, j, hj, hk => by
    obtain ⟨o, ho⟩ := some_of_lt (l := l) (i := i) (by omega)
    have hs := h.step i o ho
    by_cases e : j = i
    · subst e
      have hd := h.di h0 j (by omega)
      rw [hk] at hs
      generalize hT : (T (j + 1)).d = d' at hs ⊢
      cases hs with
      | ch x s' h1 h2 h3 h4 h5 h6 => 
        show (j, (T j).s) ∈ ((T j).d.i, (T j).s) :: (T j).d.ch
        rw [hd]; exact List.mem_cons_self ..
    · have ih := Story.chs h h0 i (by omega) j (by omega) hk
      generalize hT : (T (i + 1)).d = d' at hs ⊢
      generalize K i = kk at hs
      generalize X i = xx at hs
      generalize (T (i + 1)).s = ss at hs
      cases hs <;> first | exact ih | exact List.mem_cons_of_mem _ ih
/-- what was read -/
theorem Story.rds (h : Story c sf N n0 all l ms T K X) (h0 : (T 0).d.i = 0) : ∀ i, i ≤ l.length → ∀ (j : Nat) (o : Oper) r, j < i → l[j]? = some o → K j = .rd r → (⟨j, r, (cop c o.op).r (T j).f, X j⟩ : Rr) ∈ (T i).d.rd
  | 0, _, j, _, _, hj, _, _ => by omega
  | i + 1, hi, j, y, r, hj, hy, hk => by
    obtain ⟨o, ho⟩ := some_of_lt (l := l) (i := i) (by omega)
    have hs := h.step i o ho
    by_cases e : j = i
    · subst e
      have hd := h.di h0 j (by omega)
      rw [hy] at ho
      injection ho with ho
      subst ho
      rw [hk] at hs
      generalize hT : (T (j + 1)).d = d' at hs ⊢
      generalize hX : X j = x at hs ⊢
      generalize (T (j + 1)).s = ss at hs
      cases hs with
      | rd _ _ h1 h2 h3 h4 =>
        show _ ∈ (⟨(T j).d.i, r, (cop c y.op).r (T j).f, x⟩ : Rr) :: (T j).d.rd
        rw [hd]; exact List.mem_cons_self ..
    · have ih := Story.rds h h0 i (by omega) j y r (by omega) hy hk
      generalize hT : (T (i + 1)).d = d' at hs ⊢
      generalize K i = kk at hs
      generalize X i = xx at hs
      generalize (T (i + 1)).s = ss at hs
      cases hs <;> first | exact ih | exact List.mem_cons_of_mem _ ih
/-- frames -/
theorem Story.fr1 (h : Story c sf N n0 all l ms T K X) (hN : N ≤ 256) (hsep : ∀ (i j : Nat) (y x : Oper) (d : Nat), l[i]? = some y → l[j]? = some x → x.dst = some d → i ≠ j → y.dst ≠ some d) : ∀ i, i ≤ l.length → ∀ (j : Nat) (o : Oper) d, j < i → l[j]? = some o → o.dst = some d → (acc d).g (T i).f = X j
  | 0, _, j, _, _, hj, _, _ => by omega
  | i + 1, hi, j, y, d, hj, hy, hd => by
    obtain ⟨o, ho⟩ := some_of_lt (l := l) (i := i) (by omega)
    have hlt := Nat.lt_of_lt_of_le (h.dst j y hy d hd) hN
    rw [h.put i o ho]
    by_cases e : j = i
    · subst e
      rw [hy] at ho; injection ho with ho; subst ho
      rw [hd]
      show (acc d).g ((bif Nat.blt d 256 then acc d else noA).p (X j) (T j).f) = _
      rw [blt_t.2 hlt]
      show (acc d).g ((acc d).p (X j) (T j).f) = _
      rw [acc_gp _ _ hlt hlt, if_pos rfl]
    · have ih := Story.fr1 h hN hsep i (by omega) j y d (by omega) hy hd
      have hne := hsep i j o y d ho hy hd (by omega)
      cases ho2 : o.dst with
      | none => exact ih
      | some d2 =>
        have hlt2 := Nat.lt_of_lt_of_le (h.dst i o ho d2 ho2) hN
        show (acc d).g ((bif Nat.blt d2 256 then acc d2 else noA).p (X i) (T i).f) = _
        rw [blt_t.2 hlt2]
        show (acc d).g ((acc d2).p (X i) (T i).f) = _
        rw [acc_gp _ _ hlt2 hlt, if_neg (fun e2 => hne (by rw [ho2, e2]))]
        exact ih
theorem Story.fr2 (h : Story c sf N n0 all l ms T K X) (hN : N ≤ 256) : ∀ i, i ≤ l.length → ∀ t, t < 256 → (∀ (j : Nat) (o : Oper), j < i → l[j]? = some o → o.dst ≠ some t) → (acc t).g (T i).f = (acc t).g (T 0).f
  | 0, _, t, _, _ => rfl
  | i + 1, hi, t, ht, hn => by
    obtain ⟨o, ho⟩ := some_of_lt (l := l) (i := i) (by omega)
    rw [h.put i o ho]
    have ih := Story.fr2 h hN i (by omega) t ht fun j o h1 h2 => hn j o (by omega) h2
    cases ho2 : o.dst with
    | none => exact ih
    | some d2 =>
      have hlt2 := Nat.lt_of_lt_of_le (h.dst i o ho d2 ho2) hN
      show (acc t).g ((bif Nat.blt d2 256 then acc d2 else noA).p (X i) (T i).f) = _
      rw [blt_t.2 hlt2]
      show (acc t).g ((acc d2).p (X i) (T i).f) = _
      rw [acc_gp _ _ hlt2 ht, if_neg (fun e2 => hn i o (by omega) ho (by rw [ho2, e2]))]
      exact ih
end
end Go.Proofs.O

/-
  Regions that draw their order: new blocks that are not yet in the memory.
-/
set_option linter.unusedVariables false
set_option linter.unusedSimpArgs false
namespace Go.Proofs.O
open Go Go.Proofs.E

theorem restK_mem {m : Nat} {x : Nat × Nat × B} : ∀ {l : List (Nat × Nat × B)}, x ∈ restK m l ↔ x ∈ l ∧ bit m x.1 = false
  | [] => by simp [restK]
  | y :: l => by
    have ih := restK_mem (m := m) (x := x) (l := l)
    show x ∈ (Bool.rec (motive := fun _ => List (Nat × Nat × B)) (y :: restK m l) (restK m l) (bit m y.1)) ↔ _
    cases hb : bit m y.1 with
    | false =>
      show x ∈ y :: restK m l ↔ _
      rw [List.mem_cons, List.mem_cons, ih]
      constructor
      · rintro (rfl | h)
        · exact ⟨.inl rfl, hb⟩
        · exact ⟨.inr h.1, h.2⟩
      · rintro ⟨rfl | h, h2⟩
        · exact .inl rfl
        · exact .inr ⟨h, h2⟩
    | true =>
      show x ∈ restK m l ↔ _
      rw [List.mem_cons, ih]
      constructor
      · exact fun h => ⟨.inr h.1, h.2⟩
      · rintro ⟨rfl | h, h2⟩
        · rw [hb] at h2; cases h2
        · exact ⟨h, h2⟩
theorem mergeK_cons (m : Nat) (x : Nat × Nat × B) (l : List (Nat × Nat × B)) (s : St) : mergeK m (x :: l) s = mergeK m l (if bit m x.1 = true then mergeA s x.2.1 x.2.2 else s) := by
  show mergeK m l (Bool.rec (motive := fun _ => St) s (mergeA s x.2.1 x.2.2) (bit m x.1)) = _
  rw [brec]
theorem mergeA_get {s : St} {i : Nat} {b : B} (hi : i < 1000000) (j : Nat) : hget (mergeA s i b).hp j = if j = i then .bk s.tk b else hget s.hp j := hgp _ _ _ hi
theorem merge_get {m : Nat} : ∀ (l : List (Nat × Nat × B)) (s : St), (∀ x ∈ l, x.2.1 < 1000000) → ∀ id st b, hget (mergeK m l s).hp id = .bk st b → (∃ st', hget s.hp id = .bk st' b) ∨ ∃ j, (j, id, b) ∈ l ∧ bit m j = true
  | [], s, _, id, st, b, h => .inl ⟨st, h⟩
  | x :: l, s, hl, id, st, b, h => by
    rw [mergeK_cons] at h
    rcases merge_get l _ (fun y hy => hl y (List.mem_cons_of_mem _ hy)) id st b h with ⟨st', h1⟩ | ⟨j, h1, h2⟩
    · split at h1
      · rename_i hb
        rw [mergeA_get (hl x (List.mem_cons_self ..))] at h1
        split at h1
        · rename_i e
          cases h1
          exact .inr ⟨x.1, by rw [e]; exact List.mem_cons_self .., hb⟩
        · exact .inl ⟨st', h1⟩
      · exact .inl ⟨st', h1⟩
    · exact .inr ⟨j, List.mem_cons_of_mem _ h1, h2⟩
theorem merge_sok {ρ : Env} {m : Nat} : ∀ (l : List (Nat × Nat × B)) (s : St), SOk ρ s → (∀ x ∈ l, bit m x.1 = true → ρ.ok x.2.1 ∧ BG ρ 0 x.2.2) → SOk ρ (mergeK m l s) ∧ (mergeK m l s).nx = s.nx
  | [], s, hs, _ => ⟨hs, rfl⟩
  | x :: l, s, hs, hl => by
    rw [mergeK_cons]
    split
    · rename_i hb
      obtain ⟨h1, h2⟩ := hl x (List.mem_cons_self ..) hb
      have hlt : x.2.1 < 1000000 := Nat.lt_trans (hs.up _ h1) hs.nx
      have h3 : SOk ρ (mergeA s x.2.1 x.2.2) := ⟨hs.nx, fun j sj bj hj => by
        rw [mergeA_get hlt] at hj
        split at hj
        · rename_i e; cases hj; rw [e]; exact ⟨h1, Nat.lt_succ_self _, BG.ext (Exn.refl (n := 0)) (Nat.zero_le _) h2⟩
        · have := hs.bk _ _ _ hj; exact ⟨this.1, Nat.lt_succ_of_lt this.2.1, this.2.2⟩, hs.up⟩
      obtain ⟨q1, q2⟩ := merge_sok l _ h3 fun y hy => hl y (List.mem_cons_of_mem _ hy)
      exact ⟨q1, q2⟩
    · exact merge_sok l s hs fun y hy => hl y (List.mem_cons_of_mem _ hy)
theorem allK_eq : ∀ (l : List (Nat × Nat × B)) (s : St), allK l s = l.foldl (fun s x => mergeA s x.2.1 x.2.2) s
  | [], s => rfl
  | x :: l, s => by
    show allK l (mergeA s x.2.1 x.2.2) = _
    rw [allK_eq l]; rfl
/-- a table for each finite choice of blocks -/
theorem exX (n0 : Nat) (Pd : Nat → Option B) : ∀ n, n0 + n < 1000000 → ∃ X : HT, ∀ id st b, hget X id = .bk st b ↔ st = 0 ∧ ∃ j, j < n ∧ id = n0 + j ∧ Pd j = some b
  | 0, _ => ⟨.e, fun id st b => by
    constructor
    · intro h; rw [hget_e] at h; cases h
    · rintro ⟨_, j, h, _⟩; omega⟩
  | n + 1, hn => by
    obtain ⟨X, hX⟩ := exX n0 Pd n (by omega)
    cases hp : Pd n with
    | none =>
      refine ⟨X, fun id st b => ?_⟩
      rw [hX]
      constructor
      · rintro ⟨h0, j, h1, h2, h3⟩; exact ⟨h0, j, by omega, h2, h3⟩
      · rintro ⟨h0, j, h1, h2, h3⟩
        by_cases e : j = n
        · rw [e, hp] at h3; cases h3
        · exact ⟨h0, j, by omega, h2, h3⟩
    | some b0 =>
      refine ⟨hput 20 (n0 + n) (.bk 0 b0) X, fun id st b => ?_⟩
      rw [hgp _ _ _ (by omega)]
      by_cases e : id = n0 + n
      · rw [if_pos e]
        constructor
        · intro h; cases h; exact ⟨rfl, n, by omega, e, hp⟩
        · rintro ⟨h0, j, h1, h2, h3⟩
          have : j = n := by omega
          subst this
          rw [hp] at h3; cases h3; rw [h0]
      · rw [if_neg e, hX]
        constructor
        · rintro ⟨h0, j, h1, h2, h3⟩; exact ⟨h0, j, by omega, h2, h3⟩
        · rintro ⟨h0, j, h1, h2, h3⟩
          exact ⟨h0, j, by (have : j ≠ n := fun e2 => e (by rw [h2, e2])); omega, h2, h3⟩
/-- the memory is parted anew -/
theorem m_part {ρ : Env} {A B A' B' : HT} {F : List E.Item} {w0 w : World} (h : Mem w0 (hitem ρ A :: hitem ρ B :: F) w)
    (ha : ∀ id st b, hget A' id = .bk st b → (∃ st', hget A id = .bk st' b) ∨ ∃ st', hget B id = .bk st' b)
    (hb : ∀ id st b, hget B' id = .bk st b → (∃ st', hget A id = .bk st' b) ∨ ∃ st', hget B id = .bk st' b)
    (hd : ∀ id st b st' b', hget A' id = .bk st b → hget B' id = .bk st' b' → False) : Mem w0 (hitem ρ A' :: hitem ρ B' :: F) w := by
  obtain ⟨h1, h2, h3, h4⟩ := h
  have hA := h2 _ (List.mem_cons_self ..)
  have hB := h2 _ (List.mem_cons_of_mem _ (List.mem_cons_self ..))
  obtain ⟨p1, p2⟩ := List.pairwise_cons.1 h4
  obtain ⟨p3, p4⟩ := List.pairwise_cons.1 p2
  have br : ∀ id b, ((∃ st', hget A id = .bk st' b) ∨ ∃ st', hget B id = .bk st' b) → BR ρ id w b := fun id b => by
    rintro (⟨st, h⟩ | ⟨st, h⟩)
    · exact hA.1 id st b h
    · exact hB.1 id st b h
  have inj : ∀ i bi j bj, ((∃ st', hget A i = .bk st' bi) ∨ ∃ st', hget B i = .bk st' bi) → ((∃ st', hget A j = .bk st' bj) ∨ ∃ st', hget B j = .bk st' bj) → ρ.ad i = ρ.ad j → i = j := fun i bi j bj hi hj e => by
    rcases hi with ⟨s1, hi⟩ | ⟨s1, hi⟩ <;> rcases hj with ⟨s2, hj⟩ | ⟨s2, hj⟩
    · exact hA.2 _ _ _ _ _ _ hi hj e
    · exact absurd ⟨j, s2, bj, hj, rfl⟩ (p1 _ (List.mem_cons_self ..) (ρ.ad j) ⟨i, s1, bi, hi, e⟩)
    · exact absurd ⟨i, s1, bi, hi, rfl⟩ (p1 _ (List.mem_cons_self ..) (ρ.ad i) ⟨j, s2, bj, hj, e.symm⟩)
    · exact hB.2 _ _ _ _ _ _ hi hj e
  have fp : ∀ id b, ((∃ st', hget A id = .bk st' b) ∨ ∃ st', hget B id = .bk st' b) → (hitem ρ A).fp (ρ.ad id) ∨ (hitem ρ B).fp (ρ.ad id) := fun id b => by
    rintro (⟨st, h⟩ | ⟨st, h⟩)
    · exact .inl ⟨id, st, b, h, rfl⟩
    · exact .inr ⟨id, st, b, h, rfl⟩
  refine ⟨h1, ?_, ?_, ?_⟩
  · intro x hx
    rcases List.mem_cons.1 hx with rfl | hx
    · exact ⟨fun id st b hk => br id b (ha id st b hk), fun i si bi j sj bj q1 q2 => inj i bi j bj (ha i si bi q1) (ha j sj bj q2)⟩
    · rcases List.mem_cons.1 hx with rfl | hx
      · exact ⟨fun id st b hk => br id b (hb id st b hk), fun i si bi j sj bj q1 q2 => inj i bi j bj (hb i si bi q1) (hb j sj bj q2)⟩
      · exact h2 x (List.mem_cons_of_mem _ (List.mem_cons_of_mem _ hx))
  · intro x hx b hf
    have both : ∀ b, (hitem ρ A).fp b ∨ (hitem ρ B).fp b → w0.heap.size ≤ b ∧ b < w.heap.size := fun b hf => by
      rcases hf with hf | hf
      · exact h3 _ (List.mem_cons_self ..) b hf
      · exact h3 _ (List.mem_cons_of_mem _ (List.mem_cons_self ..)) b hf
    rcases List.mem_cons.1 hx with rfl | hx
    · obtain ⟨id, st, k, q1, q2⟩ := hf
      rw [← q2]; exact both _ (fp id k (ha id st k q1))
    · rcases List.mem_cons.1 hx with rfl | hx
      · obtain ⟨id, st, k, q1, q2⟩ := hf
        rw [← q2]; exact both _ (fp id k (hb id st k q1))
      · exact h3 x (List.mem_cons_of_mem _ (List.mem_cons_of_mem _ hx)) b hf
  · have out : ∀ y ∈ F, ∀ b, (hitem ρ A).fp b ∨ (hitem ρ B).fp b → y.fp b → False := fun y hy b hf hg => by
      rcases hf with hf | hf
      · exact p1 y (List.mem_cons_of_mem _ hy) b hf hg
      · exact p3 y hy b hf hg
    refine List.pairwise_cons.2 ⟨fun y hy b hf hg => ?_, List.pairwise_cons.2 ⟨fun y hy b hf hg => ?_, p4⟩⟩
    · obtain ⟨id, st, k, q1, q2⟩ := hf
      rcases List.mem_cons.1 hy with rfl | hy
      · obtain ⟨id', st', k', r1, r2⟩ := hg
        have := inj id k id' k' (ha id st k q1) (hb id' st' k' r1) (q2.trans r2.symm)
        subst this
        exact hd id st k st' k' q1 r1
      · rw [← q2] at hg; exact out y hy _ (fp id k (ha id st k q1)) hg
    · obtain ⟨id, st, k, q1, q2⟩ := hf
      rw [← q2] at hg; exact out y hy _ (fp id k (hb id st k q1)) hg
end Go.Proofs.O

/-
  Regions that draw their order: blocks that are not yet in the memory, in the run of the text.
-/
set_option linter.unusedVariables false
set_option linter.unusedSimpArgs false
namespace Go.Proofs.O
open Go Go.Proofs.E

section
variable {c : Tab} {sf : Self} {N n0 : Nat} {all l : List Oper} {ms : List Nat} {T : Nat → Rec} {K : Nat → Kd} {X : Nat → V}
theorem Stp.xs {o : Oper} {m : Nat} {d d' : Dw} {f : Fm} {s s' : St} {k : Kd} {x : V} (h : Stp c sf n0 all o m d f s k x d' s') : (∃ b, k = .nw b ∧ d'.xs = (d.i, n0 + d.i, b) :: d.xs) ∨ (k = .ch ∧ d'.xs = restK m d.xs) ∨ ((∀ b, k ≠ .nw b) ∧ k ≠ .ch ∧ d'.xs = d.xs) := by
  cases h with
  | nw xf b => exact .inl ⟨b, rfl, rfl⟩
  | ch => exact .inr (.inl ⟨rfl, rfl⟩)
  | skip => exact .inr (.inr ⟨fun b h => (by cases h), (by simp), rfl⟩)
  | v => exact .inr (.inr ⟨fun b h => (by cases h), (by simp), rfl⟩)
  | rd => exact .inr (.inr ⟨fun b h => (by cases h), (by simp), rfl⟩)
theorem Story.xs (h : Story c sf N n0 all l ms T K X) (h0 : (T 0).d.i = 0) (hx : (T 0).d.xs = []) : ∀ i, i ≤ l.length → ∀ x, x ∈ (T i).d.xs → x.1 < i ∧ x.2.1 = n0 + x.1 ∧ K x.1 = .nw x.2.2
  | 0, _, x, hm => by rw [hx] at hm; cases hm
  | i + 1, hi, x, hm => by
    obtain ⟨o, ho⟩ := some_of_lt (l := l) (i := i) (by omega)
    have ih := Story.xs h h0 hx i (by omega) x
    have hd := h.di h0 i (by omega)
    rcases (h.step i o ho).xs with ⟨b, hk, e⟩ | ⟨_, e⟩ | ⟨_, _, e⟩
    · rw [e] at hm
      rcases List.mem_cons.1 hm with rfl | hm
      · rw [hd]; exact ⟨by omega, rfl, by simpa using hk⟩
      · obtain ⟨a, b, c⟩ := ih hm; exact ⟨by omega, b, c⟩
    · rw [e] at hm
      obtain ⟨a, b, c⟩ := ih (restK_mem.1 hm).1; exact ⟨by omega, b, c⟩
    · rw [e] at hm
      obtain ⟨a, b, c⟩ := ih hm; exact ⟨by omega, b, c⟩
/-- between operations that turn the memory new blocks come and none goes -/
theorem Story.xs_up (h : Story c sf N n0 all l ms T K X) (h0 : (T 0).d.i = 0) : ∀ k i, k ≤ i → i ≤ l.length → (∀ j, k ≤ j → j < i → K j ≠ .ch) → (∀ x, x ∈ (T k).d.xs → x ∈ (T i).d.xs) ∧ (∀ x, x ∈ (T i).d.xs → x.1 < k → x ∈ (T k).d.xs) ∧ ∀ j b, k ≤ j → j < i → K j = .nw b → (j, n0 + j, b) ∈ (T i).d.xs
  | k, 0, hk, _, _ => by
    have : k = 0 := by omega
    subst this
    exact ⟨fun x h => h, fun x h _ => h, fun j b h1 h2 => by omega⟩
  | k, i + 1, hk, hi, hn => by
    by_cases e : k = i + 1
    · subst e
      exact ⟨fun x h => h, fun x h _ => h, fun j b h1 h2 => by omega⟩
    · obtain ⟨o, ho⟩ := some_of_lt (l := l) (i := i) (by omega)
      obtain ⟨q1, q2, q3⟩ := Story.xs_up h h0 k i (by omega) (by omega) fun j h1 h2 => hn j h1 (by omega)
      have hd := h.di h0 i (by omega)
      rcases (h.step i o ho).xs with ⟨b, hb, e2⟩ | ⟨hc, _⟩ | ⟨hnw, _, e2⟩
      · rw [e2, hd]
        refine ⟨fun x hx => List.mem_cons_of_mem _ (q1 x hx), fun x hx hlt => ?_, fun j b' h1 h2 h3 => ?_⟩
        · rcases List.mem_cons.1 hx with rfl | hx
          · exact absurd hlt (by simp only; omega)
          · exact q2 x hx hlt
        · by_cases e3 : j = i
          · subst e3; rw [hb] at h3; cases h3; exact List.mem_cons_self ..
          · exact List.mem_cons_of_mem _ (q3 j b' h1 (by omega) h3)
      · exact absurd hc (hn i (by omega) (by omega))
      · rw [e2]
        refine ⟨q1, q2, fun j b' h1 h2 h3 => ?_⟩
        by_cases e3 : j = i
        · subst e3; exact absurd h3 (hnw b')
        · exact q3 j b' h1 (by omega) h3
/-! what the checks say -/
theorem rdOk_mem {m r : Nat} {g : St → Nx} {x : V} : ∀ {l : List (Nat × St)}, rdOk m r g x l = true → ∀ p ∈ l, bit m p.1 = true ∨ g p.2 = .rv x r
  | [], _, p, hp => by cases hp
  | q :: l, h, p, hp => by
    have h2 : (Bool.rec (motive := fun _ => Bool) false (rdOk m r g x l) (Bool.rec (motive := fun _ => Bool) (sameX r x (g q.2)) true (bit m q.1))) = true := h
    cases hb : bit m q.1 with
    | true =>
      rw [hb] at h2
      have h3 : rdOk m r g x l = true := h2
      rcases List.mem_cons.1 hp with rfl | hp
      · exact .inl hb
      · exact rdOk_mem h3 p hp
    | false =>
      rw [hb] at h2
      have h3 : (Bool.rec (motive := fun _ => Bool) false (rdOk m r g x l) (sameX r x (g q.2))) = true := h2
      cases hs : sameX r x (g q.2) with
      | false => rw [hs] at h3; cases h3
      | true =>
        rw [hs] at h3
        rcases List.mem_cons.1 hp with rfl | hp
        · exact .inr (sameX_ok hs)
        · exact rdOk_mem h3 p hp
theorem chOk_mem {m : Nat} {s : St} : ∀ {l : List Rr}, chOk m s l = true → ∀ p ∈ l, bit m p.i = true ∨ p.g s = .rv p.x p.r
  | [], _, p, hp => by cases hp
  | q :: l, h, p, hp => by
    have h2 : (Bool.rec (motive := fun _ => Bool) false (chOk m s l) (Bool.rec (motive := fun _ => Bool) (sameX q.r q.x (q.g s)) true (bit m q.i))) = true := h
    cases hb : bit m q.i with
    | true =>
      rw [hb] at h2
      have h3 : chOk m s l = true := h2
      rcases List.mem_cons.1 hp with rfl | hp
      · exact .inl hb
      · exact chOk_mem h3 p hp
    | false =>
      rw [hb] at h2
      have h3 : (Bool.rec (motive := fun _ => Bool) false (chOk m s l) (sameX q.r q.x (q.g s))) = true := h2
      cases hs : sameX q.r q.x (q.g s) with
      | false => rw [hs] at h3; cases h3
      | true =>
        rw [hs] at h3
        rcases List.mem_cons.1 hp with rfl | hp
        · exact .inr (sameX_ok hs)
        · exact chOk_mem h3 p hp
theorem lastOk_mem {m : Nat} : ∀ {l : List (Nat × St)}, lastOk m l = true → ∀ p ∈ l, bit m p.1 = true
  | [], _, p, hp => by cases hp
  | q :: l, h, p, hp => by
    have h2 : (Bool.rec (motive := fun _ => Bool) false (lastOk m l) (bit m q.1)) = true := h
    rw [brec] at h2
    split at h2
    · rename_i hb
      rcases List.mem_cons.1 hp with rfl | hp
      · exact hb
      · exact lastOk_mem h2 p hp
    · cases h2
end
end Go.Proofs.O

/-
  Regions that draw their order: what is read is read at each memory that the operation may meet.
-/
set_option linter.unusedVariables false
set_option linter.unusedSimpArgs false
namespace Go.Proofs.O
open Go Go.Proofs.E

theorem first_in (P : Nat → Prop) : ∀ (k i : Nat), k ≤ i → (∀ j, k ≤ j → j < i → ¬P j) ∨ ∃ c, k ≤ c ∧ c < i ∧ P c ∧ ∀ j, k ≤ j → j < c → ¬P j
  | k, 0, _ => .inl fun j h1 h2 => by omega
  | k, i + 1, hk => by
    by_cases e : k = i + 1
    · exact .inl fun j h1 h2 => by omega
    · rcases first_in P k i (by omega) with h | ⟨c, h1, h2, h3, h4⟩
      · by_cases hp : P i
        · exact .inr ⟨i, by omega, by omega, hp, h⟩
        · refine .inl fun j h1 h2 => ?_
          by_cases e2 : j = i
          · rw [e2]; exact hp
          · exact h j h1 (by omega)
      · exact .inr ⟨c, h1, by omega, h3, h4⟩
theorem last_in (P : Nat → Prop) : ∀ (k i : Nat), k ≤ i → (∀ j, k ≤ j → j < i → ¬P j) ∨ ∃ c, k ≤ c ∧ c < i ∧ P c ∧ ∀ j, c < j → j < i → ¬P j
  | k, 0, _ => .inl fun j h1 h2 => by omega
  | k, i + 1, hk => by
    by_cases e : k = i + 1
    · exact .inl fun j h1 h2 => by omega
    · by_cases hp : P i
      · exact .inr ⟨i, by omega, by omega, hp, fun j h1 h2 => by omega⟩
      · rcases last_in P k i (by omega) with h | ⟨c, h1, h2, h3, h4⟩
        · refine .inl fun j h1 h2 => ?_
          by_cases e2 : j = i
          · rw [e2]; exact hp
          · exact h j h1 (by omega)
        · refine .inr ⟨c, h1, by omega, h3, fun j h5 h6 => ?_⟩
          by_cases e2 : j = i
          · rw [e2]; exact hp
          · exact h4 j h5 (by omega)
section
variable {c : Tab} {sf : Self} {N n0 : Nat} {all l : List Oper} {ms : List Nat} {T : Nat → Rec} {K : Nat → Kd} {X : Nat → V}
theorem Story.read (h : Story c sf N n0 all l ms T K X) (h0 : (T 0).d.i = 0) {i k r : Nat} {o : Oper} (hi : l[i]? = some o) (hk : K i = .rd r) (hkn : k ≤ l.length)
    (ha : ∀ j, K j = .ch → j < i → bit (ms.getD i 0) j = true → j < k) (hb : ∀ j, K j = .ch → i < j → j < l.length → bit (ms.getD j 0) i = true → k ≤ j) :
    wtK (T i).f (guK all o.guard) = .y ∧ (cop c o.op).ch = false ∧ (cop c o.op).r (T i).f (T k).s = .rv (X i) r := by
  have hil : i < l.length := by
    rcases Nat.lt_or_ge i l.length with h | h
    · exact h
    · rw [List.getElem?_eq_none h] at hi; cases hi
  have hst := h.step i o hi
  have hx : wtK (T i).f (guK all o.guard) = .y ∧ (cop c o.op).ch = false ∧ (cop c o.op).r (T i).f (T i).s = .rv (X i) r ∧ rdOk (ms.getD i 0) r ((cop c o.op).r (T i).f) (X i) (T i).d.ch = true := by
    rw [hk] at hst
    generalize (T (i + 1)).d = d' at hst
    generalize (T (i + 1)).s = s' at hst
    generalize X i = x at hst ⊢
    cases hst with
    | rd _ _ h1 h2 h3 h4 => exact ⟨h1, h2, h3, h4⟩
  obtain ⟨x1, x2, x3, x4⟩ := hx
  refine ⟨x1, x2, ?_⟩
  rcases Nat.le_total k i with hki | hki
  · rcases first_in (fun j => K j = .ch) k i hki with hn | ⟨j, h1, h2, h3, h4⟩
    · rw [← h.same k i hki (by omega) hn]; exact x3
    · have e := h.same k j h1 (by omega) h4
      rcases rdOk_mem x4 _ (h.chs h0 i (by omega) j h2 h3) with hbit | hr
      · have := ha j h3 h2 hbit; omega
      · rw [← e]; exact hr
  · rcases last_in (fun j => K j = .ch) i k hki with hn | ⟨j, h1, h2, h3, h4⟩
    · rw [h.same i k hki hkn hn]; exact x3
    · have hji : j ≠ i := fun e => by rw [e, hk] at h3; cases h3
      obtain ⟨oj, hoj⟩ := some_of_lt (l := l) (i := j) (by omega)
      have e := h.same (j + 1) k (by omega) hkn fun q q1 q2 => h4 q (by omega) q2
      rw [e]
      have hsj := h.step j oj hoj
      have hrd := h.rds h0 j (by omega) i o r (by omega) hi hk
      have hch : chOk (ms.getD j 0) (T (j + 1)).s (T j).d.rd = true := by
        have h3' : K j = .ch := h3
        rw [h3'] at hsj
        generalize (T (j + 1)).d = d' at hsj
        generalize (T (j + 1)).s = s' at hsj ⊢
        generalize X j = x at hsj
        cases hsj with
        | ch _ _ q1 q2 q3 q4 => exact q4
      rcases chOk_mem hch _ hrd with hbit | hr
      · have := hb j h3 (by omega) (by omega) hbit; omega
      · exact hr
end
end Go.Proofs.O

/-
  Regions that draw their order: frames.
-/
set_option linter.unusedVariables false
set_option linter.unusedSimpArgs false
namespace Go.Proofs.O
open Go Go.Proofs.E

/-- the frame when the operations of S are done -/
structure FrS (all : List Oper) (T : Nat → Rec) (X : Nat → V) (S : Nat → Prop) (g : Fm) : Prop where
  one : ∀ (j : Nat) (o : Oper) (d : Nat), all[j]? = some o → S j → o.dst = some d → (acc d).g g = X j
  two : ∀ (t : Nat), t < 256 → (∀ (j : Nat) (o : Oper), all[j]? = some o → S j → o.dst ≠ some t) → (acc t).g g = (acc t).g (T 0).f
section
variable {c : Tab} {sf : Self} {N n0 : Nat} {all : List Oper} {T : Nat → Rec} {K : Nat → Kd} {X : Nat → V} {S : Nat → Prop} {g : Fm}
theorem lt_of_some {i : Nat} {o : Oper} (h : all[i]? = some o) : i < all.length := by
  rcases Nat.lt_or_ge i all.length with h2 | h2
  · exact h2
  · rw [List.getElem?_eq_none h2] at h; cases h
theorem FrS.agree (h : Story c sf N n0 all all (masks all) T K X) (hN : N ≤ 256) (hS : Sep all) (hc : ∀ i j, S i → bit ((masks all).getD i 0) j = true → S j) (hf : FrS all T X S g) {i : Nat} {o : Oper} (hi : all[i]? = some o) (hn : ¬S i) (hr : ∀ j, bit ((masks all).getD i 0) j = true → S j)
    {t : Nat} (ht : t < 256) (hl : t ∈ o.looksAt all.toArray) : (acc t).g g = (acc t).g (T i).f := by
  have hsep : ∀ (i j : Nat) (y x : Oper) (d : Nat), all[i]? = some y → all[j]? = some x → x.dst = some d → i ≠ j → y.dst ≠ some d := fun i j y x d h1 h2 h3 h4 => (hS.look i y j x d h1 h2 h3 h4).2
  have hil := lt_of_some hi
  by_cases hex : ∃ (j : Nat) (x : Oper), all[j]? = some x ∧ x.dst = some t ∧ j ≠ i
  · obtain ⟨j, x, hj, hd, hne⟩ := hex
    rcases (hS.look i o j x t hi hj hd (Ne.symm hne)).1 hl with hb | hb
    · rw [hf.one j x t hj (hr j hb) hd, h.fr1 hN hsep i (by omega) j x t (bit_lt hS i j hb) hj hd]
    · have hjn : ¬S j := fun hs => hn (hc j i hs hb)
      have hij := bit_lt hS j i hb
      rw [hf.two t ht fun j' o' h1 h2 h3 => ?_, h.fr2 hN i (by omega) t ht fun j' o' h1 h2 h3 => ?_]
      · exact hsep j' j o' x t h2 hj hd (by omega) h3
      · exact hsep j' j o' x t h1 hj hd (fun e => hjn (e ▸ h2)) h3
  · rw [hf.two t ht fun j' o' h1 h2 h3 => hex ⟨j', o', h1, h3, fun e => hn (e ▸ h2)⟩, h.fr2 hN i (by omega) t ht fun j' o' h1 h2 h3 => hex ⟨j', o', h2, h3, by omega⟩]
theorem FrS.eqs (h : Story c sf N n0 all all (masks all) T K X) (hN : N ≤ 256) (hS : Sep all) (hc : ∀ i j, S i → bit ((masks all).getD i 0) j = true → S j) (hf : FrS all T X S g) {i : Nat} {o : Oper} (hi : all[i]? = some o) (hn : ¬S i) (hr : ∀ j, bit ((masks all).getD i 0) j = true → S j) :
    Sf g (T i).f o.op.operands.toList ∧ wtK g (guK all o.guard) = wtK (T i).f (guK all o.guard) := by
  have ag : ∀ t, t ∈ o.looksAt all.toArray → (tmpG t).g g = (tmpG t).g (T i).f := fun t hl => by
    by_cases ht : t < 256
    · show (opd (.tmp t)).g g = (opd (.tmp t)).g (T i).f
      rw [opd_tmp ht, opd_tmp ht]
      exact hf.agree h hN hS hc hi hn hr ht hl
    · have hb : Nat.blt t 256 = false := by
        cases hb : Nat.blt t 256 with
        | false => rfl
        | true => exact absurd (blt_t.1 hb) ht
      show ((bif Nat.blt t 256 then acc t else noA).g) g = ((bif Nat.blt t 256 then acc t else noA).g) (T i).f
      rw [hb]; rfl
  refine ⟨fun x hx => ?_, ?_⟩
  · cases x with
    | tmp t => exact ag t (by unfold Oper.looksAt; rw [List.mem_append, List.mem_filterMap]; exact .inl ⟨_, hx, rfl⟩)
    | const v => rfl
    | func k => rfl
    | global k => rfl
  · cases hgd : o.guard with
    | none => rfl
    | some p =>
      obtain ⟨j, b⟩ := p
      simp only [guK, nthO_eq]
      cases hj : all[j]? with
      | none => rfl
      | some y =>
        simp only
        cases hd : y.dst with
        | none => rfl
        | some d =>
          show wtV ((tmpG d).g g) b = wtV ((tmpG d).g (T i).f) b
          rw [ag d (by unfold Oper.looksAt; rw [List.mem_append, hgd]; exact .inr (by simp [hj, hd]))]
theorem FrS.put (h : Story c sf N n0 all all (masks all) T K X) (hN : N ≤ 256) (hS : Sep all) (hf : FrS all T X S g) {i : Nat} {o : Oper} (hi : all[i]? = some o) : FrS all T X (fun j => S j ∨ j = i) (putD o.dst (X i) g) := by
  have hput : ∀ d, o.dst = some d → d < 256 ∧ putD o.dst (X i) g = (acc d).p (X i) g := fun d hd => by
    have hlt := Nat.lt_of_lt_of_le (h.dst i o hi d hd) hN
    refine ⟨hlt, ?_⟩
    rw [hd]
    show ((bif Nat.blt d 256 then acc d else noA).p) (X i) g = _
    rw [blt_t.2 hlt]; rfl
  refine ⟨fun j x d hj hs hd => ?_, fun t ht hn => ?_⟩
  · have hlt := Nat.lt_of_lt_of_le (h.dst j x hj d hd) hN
    by_cases e : j = i
    · subst e
      rw [hi] at hj; cases hj
      rw [(hput d hd).2, acc_gp _ _ hlt hlt, if_pos rfl]
    · have hs' : S j := hs.resolve_right e
      have ih := hf.one j x d hj hs' hd
      cases hod : o.dst with
      | none => exact ih
      | some d2 =>
        rw [← hod, (hput d2 hod).2, acc_gp _ _ (hput d2 hod).1 hlt, if_neg (fun e2 => (hS.look i o j x d hi hj hd (Ne.symm e)).2 (by rw [hod, e2]))]
        exact ih
  · have ih := hf.two t ht fun j x hj hs => hn j x hj (.inl hs)
    cases hod : o.dst with
    | none => exact ih
    | some d2 =>
      rw [← hod, (hput d2 hod).2, acc_gp _ _ (hput d2 hod).1 ht, if_neg (fun e2 => hn i o hi (.inr rfl) (by rw [hod, e2]))]
      exact ih
end
end Go.Proofs.O

/-
  Regions that draw their order: the state when the operations of S are done.
-/
set_option linter.unusedVariables false
set_option linter.unusedSimpArgs false
namespace Go.Proofs.O
open Go Go.Proofs.E

structure Node (all : List Oper) (T : Nat → Rec) (K : Nat → Kd) (X : Nat → V) (s : St) (ρ0 : Env) (S : Nat → Prop) (k : Nat) (ρ : Env) (g : Fm) (Xt : HT) : Prop where
  kle : k ≤ all.length
  chs : ∀ j, j < all.length → K j = .ch → (S j ↔ j < k)
  fr : FrS all T X S g
  fok : FOk ρ 0 g
  sok : SOk ρ (T k).s
  room : s.nx + all.length ≤ (T k).s.nx
  mono : Mono s (T k).s
  fresh : ∀ j b, j < all.length → K j = .nw b → ¬S j → ¬ρ.ok (s.nx + j)
  xt : ∀ id st b, hget Xt id = .bk st b ↔ st = 0 ∧ ∃ j, j < all.length ∧ id = s.nx + j ∧ K j = .nw b ∧ S j ∧ (j < k → (j, s.nx + j, b) ∈ (T k).d.xs)
  xok : ∀ id st b, hget Xt id = .bk st b → ρ.ok id ∧ BG ρ 0 b
  exn : Exn s.nx ρ0 ρ
section
variable {c : Tab} {sf : Self} {N : Nat} {all : List Oper} {T : Nat → Rec} {K : Nat → Kd} {X : Nat → V} {S : Nat → Prop} {s : St} {ρ0 ρ : Env} {k i : Nat} {g : Fm} {Xt : HT} {o : Oper}
/-- an operation that gives a value and turns nothing -/
theorem Node.value (h : Story c sf N s.nx all all (masks all) T K X) (hN : N ≤ 256) (hS : Sep all) (hn : Node all T K X s ρ0 S k ρ g Xt) (hi : all[i]? = some o) (hns : ¬S i) (hk : K i ≠ .ch) (hk2 : ∀ b, K i ≠ .nw b) (hg : Gd ρ 0 (X i)) :
    Node all T K X s ρ0 (fun j => S j ∨ j = i) k ρ (putD o.dst (X i) g) Xt := by
  refine ⟨hn.kle, fun j hj hc => ?_, hn.fr.put h hN hS hi, (put_ok (ρ := ρ) (dst := o.dst) hN (h.dst i o hi) hn.fok hg).1, hn.sok, hn.room, hn.mono, fun j b hj hb hs => hn.fresh j b hj hb fun h => hs (.inl h), fun id st b => ?_, hn.xok, hn.exn⟩
  · rw [← hn.chs j hj hc]
    exact ⟨fun h => h.resolve_right fun e => hk (e ▸ hc), .inl⟩
  · rw [hn.xt]
    constructor
    · rintro ⟨h0, j, h1, h2, h3, h4, h5⟩; exact ⟨h0, j, h1, h2, h3, .inl h4, h5⟩
    · rintro ⟨h0, j, h1, h2, h3, h4, h5⟩; exact ⟨h0, j, h1, h2, h3, h4.resolve_right fun e => hk2 b (e ▸ h3), h5⟩
end
end Go.Proofs.O

/-
  Regions that draw their order: a new block.
-/
set_option linter.unusedVariables false
set_option linter.unusedSimpArgs false
namespace Go.Proofs.O
open Go Go.Proofs.E

theorem m_sw {a b : E.Item} {w0 w : World} {F : List E.Item} (h : Mem w0 (a :: b :: F) w) : Mem w0 (b :: a :: F) w := h.perm (List.Perm.swap a b F)
theorem m_ext2 {ρ ρ' : Env} {n : Nat} {A B : HT} {w0 w : World} {F : List E.Item} (h : Mem w0 (hitem ρ A :: hitem ρ B :: F) w) (he : Exn n ρ ρ')
    (hA : ∀ id st k, hget A id = .bk st k → ρ.ok id ∧ BG ρ 0 k) (hB : ∀ id st k, hget B id = .bk st k → ρ.ok id ∧ BG ρ 0 k) : Mem w0 (hitem ρ' A :: hitem ρ' B :: F) w := by
  have h0 : Exn (⟨.e, 0, 0⟩ : St).nx ρ ρ' := he.mono (Nat.zero_le _)
  have h1 := m_ext (s := ⟨.e, 0, 0⟩) (ρ := ρ) (ρ' := ρ') hA h0 h
  exact m_sw (m_ext (s := ⟨.e, 0, 0⟩) (ρ := ρ) (ρ' := ρ') hB h0 (m_sw h1))
theorem SOk.ext {ρ ρ' : Env} {s : St} {n : Nat} (hs : SOk ρ s) (he : Exn n ρ ρ') (hu : ∀ id, ρ'.ok id → id < s.nx) : SOk ρ' s :=
  ⟨hs.nx, fun id st k hk => by obtain ⟨a, b, c⟩ := hs.bk id st k hk; exact ⟨(he.1 id a).2.2.2.2, b, c.ext he (Nat.le_refl _)⟩, hu⟩
theorem BG.any {ρ : Env} {n m : Nat} {b : B} (h : BG ρ n b) : BG ρ m b := by
  cases b with
  | c t sz ex rows => exact fun r hr => (h r hr).any
  | m es cl => exact fun e he => ⟨(h e he).1.any, (h e he).2.any⟩
  | it m s l t => exact h
end Go.Proofs.O

/-
  Regions that draw their order: a new block.
-/
set_option linter.unusedVariables false
set_option linter.unusedSimpArgs false
namespace Go.Proofs.O
open Go Go.Proofs.E

section
variable {c : Tab} {sf : Self} {N n0 : Nat} {all l : List Oper} {ms : List Nat} {T : Nat → Rec} {K : Nat → Kd} {X : Nat → V}
/-- a new block stays out of the memory until an operation behind it turns the memory -/
theorem Story.xs_keep (h : Story c sf N n0 all l ms T K X) (h0 : (T 0).d.i = 0) {i : Nat} {b : B} (hk : K i = .nw b) : ∀ k, k ≤ l.length → i < k → (∀ j, i < j → j < k → K j = .ch → bit (ms.getD j 0) i = false) → (i, n0 + i, b) ∈ (T k).d.xs
  | 0, _, hi, _ => by omega
  | k + 1, hl, hi, hc => by
    obtain ⟨o, ho⟩ := some_of_lt (l := l) (i := k) (by omega)
    have hd := h.di h0 k (by omega)
    by_cases e : i = k
    · subst e
      rcases (h.step i o ho).xs with ⟨b', hb, e2⟩ | ⟨hb, _⟩ | ⟨hb, _, _⟩
      · rw [e2, hd]
        have : b' = b := by
          have e3 : Kd.nw b' = Kd.nw b := by rw [← hk]; simpa using hb.symm
          injection e3
        rw [this]; exact List.mem_cons_self ..
      · rw [hk] at hb; cases hb
      · exact absurd hk (hb b)
    · have ih := Story.xs_keep h h0 hk k (by omega) (by omega) fun j h1 h2 => hc j h1 (by omega)
      rcases (h.step k o ho).xs with ⟨b', hb, e2⟩ | ⟨hb, e2⟩ | ⟨_, _, e2⟩
      · rw [e2]; exact List.mem_cons_of_mem _ ih
      · rw [e2]; exact restK_mem.2 ⟨ih, hc k (by omega) (by omega) hb⟩
      · rw [e2]; exact ih
end
section
variable {c : Tab} {sf : Self} {N : Nat} {all : List Oper} {T : Nat → Rec} {K : Nat → Kd} {X : Nat → V} {S : Nat → Prop} {s : St} {ρ0 ρ ρ' : Env} {k i : Nat} {g : Fm} {Xt : HT} {o : Oper} {b : B} {w0 w : World} {F : List E.Item}
theorem Node.new (h : Story c sf N s.nx all all (masks all) T K X) (h0 : (T 0).d.i = 0) (hN : N ≤ 256) (hS : Sep all) (hc : ∀ i j, S i → bit ((masks all).getD i 0) j = true → S j) (hn : Node all T K X s ρ0 S k ρ g Xt) (hi : all[i]? = some o) (hns : ¬S i) (hk : K i = .nw b)
    (ob : Obj) (hx : Exo (s.nx + i) ρ ρ') (had : ρ'.ad (s.nx + i) = w.heap.size) (hbr : BR ρ' (s.nx + i) (w.alloc ob) b) (hbg : BG ρ' 0 b) (hg : Gd ρ' 0 (X i)) (hw : Mem w0 (hitem ρ (T k).s.hp :: hitem ρ Xt :: F) w) :
    ∃ Xt', Node all T K X s ρ0 (fun j => S j ∨ j = i) k ρ' (putD o.dst (X i) g) Xt' ∧ Mem w0 (hitem ρ' (T k).s.hp :: hitem ρ' Xt' :: F) (w.alloc ob) := by
  have hil := lt_of_some hi
  have hno : ¬ρ.ok (s.nx + i) := hn.fresh i b hil hk hns
  have he : Exn (s.nx + i) ρ ρ' := hx.exn hno
  have hlt : s.nx + i < 1000000 := by have := hn.sok.nx; have := hn.room; omega
  have hup : ∀ id, ρ'.ok id → id < (T k).s.nx := fun id hid => by
    by_cases e : id = s.nx + i
    · have := hn.room; omega
    · exact hn.sok.up id ((hx.2 id e).2.2.2.2.1 hid)
  have hw1 := m_ext2 hw he (fun id st q hq => by obtain ⟨a, _, d⟩ := hn.sok.bk id st q hq; exact ⟨a, d.any⟩) hn.xok
  have hgx : ∀ j, hget (hput 20 (s.nx + i) (.bk 0 b) Xt) j = if j = s.nx + i then .bk 0 b else hget Xt j := fun j => hgp _ _ _ hlt
  have hne : ∀ id st q, hget Xt id = .bk st q → id ≠ s.nx + i := fun id st q hq e => hno (e ▸ (hn.xok id st q hq).1)
  have hw2 : Mem w0 (hitem ρ' (hput 20 (s.nx + i) (.bk 0 b) Xt) :: hitem ρ' (T k).s.hp :: F) (w.alloc ob) := by
    refine m_new (s := ⟨.e, 0, 0⟩) (ρ := ρ') ob (m_sw hw1) hlt (fun j sj bj hj => ⟨hne j sj bj hj, (he.1 j (hn.xok j sj bj hj).1).2.2.2.2, (hn.xok j sj bj hj).2.ext he (Nat.le_refl _)⟩) (fun j _ _ => ⟨rfl, rfl, rfl, rfl⟩) (fun j sj bj hj => m_br (m_sw hw1) hj) had hbr
  refine ⟨hput 20 (s.nx + i) (.bk 0 b) Xt, ⟨hn.kle, fun j hj hcj => ?_, hn.fr.put h hN hS hi, (put_ok (ρ := ρ') (dst := o.dst) hN (h.dst i o hi) (hn.fok.ext he (Nat.le_refl _)) hg).1, hn.sok.ext he hup, hn.room, hn.mono, fun j b' hj hb hs hok => ?_, fun id st b' => ?_, fun id st q hq => ?_, ⟨fun id hid => ?_, fun id hid => ?_⟩⟩, m_sw hw2⟩
  · rw [← hn.chs j hj hcj]
    exact ⟨fun h => h.resolve_right fun e => (by rw [e, hk] at hcj; cases hcj), .inl⟩
  · have e : j ≠ i := fun e => hs (.inr e)
    exact hn.fresh j b' hj hb (fun h => hs (.inl h)) ((hx.2 (s.nx + j) (by omega)).2.2.2.2.1 hok)
  · rw [hgx]
    by_cases e : id = s.nx + i
    · rw [if_pos e]
      constructor
      · intro h2
        cases h2
        refine ⟨rfl, i, hil, e, hk, .inr rfl, fun hik => ?_⟩
        refine h.xs_keep h0 hk k hn.kle hik fun j h1 h2 h3 => ?_
        cases hb : bit ((masks all).getD j 0) i with
        | false => rfl
        | true =>
          have hjl : j < all.length := by have := hn.kle; omega
          exact absurd (hc j i ((hn.chs j hjl h3).2 h2) hb) hns
      · rintro ⟨h1, j, h2, h3, h4, h5, h6⟩
        have : j = i := by omega
        subst this
        rw [hk] at h4; cases h4; rw [h1]
    · rw [if_neg e, hn.xt]
      constructor
      · rintro ⟨h1, j, h2, h3, h4, h5, h6⟩; exact ⟨h1, j, h2, h3, h4, .inl h5, h6⟩
      · rintro ⟨h1, j, h2, h3, h4, h5, h6⟩; exact ⟨h1, j, h2, h3, h4, h5.resolve_right fun e2 => e (by rw [h3, e2]), h6⟩
  · rw [hgx] at hq
    split at hq
    · rename_i e; cases hq; rw [e]; exact ⟨hx.1, hbg⟩
    · exact ⟨(he.1 id (hn.xok id st q hq).1).2.2.2.2, (hn.xok id st q hq).2.ext he (Nat.le_refl _)⟩
  · exact (hn.exn.trans he (Nat.le_add_right _ _)).1 id hid
  · exact (hn.exn.trans he (Nat.le_add_right _ _)).2 id hid
end
end Go.Proofs.O

/-
  Regions that draw their order: an operation that turns the memory.
-/
set_option linter.unusedVariables false
set_option linter.unusedSimpArgs false
namespace Go.Proofs.O
open Go Go.Proofs.E

theorem mergeA_mono {s : St} {i : Nat} {b : B} (hi : i < 1000000) : Mono s (mergeA s i b) := ⟨Nat.le_refl _, Nat.le_succ _, fun id st k h ht => by
  rw [mergeA_get hi] at h
  split at h
  · cases h; exact absurd ht (Nat.lt_irrefl _)
  · exact h⟩
theorem merge_mono {m : Nat} : ∀ (l : List (Nat × Nat × B)) (s : St), (∀ x ∈ l, x.2.1 < 1000000) → Mono s (mergeK m l s)
  | [], s, _ => Mono.refl
  | x :: l, s, hl => by
    rw [mergeK_cons]
    have ih := fun s => merge_mono (m := m) l s fun y hy => hl y (List.mem_cons_of_mem _ hy)
    split
    · exact (mergeA_mono (hl x (List.mem_cons_self ..))).trans (ih _)
    · exact ih s
section
variable {c : Tab} {sf : Self} {N : Nat} {all : List Oper} {T : Nat → Rec} {K : Nat → Kd} {X : Nat → V} {S : Nat → Prop} {s : St} {ρ0 ρ ρ' : Env} {k i : Nat} {g : Fm} {Xt : HT} {o : Oper} {w0 w : World} {F : List E.Item}
/-- ahead of it -/
theorem Node.merge (h : Story c sf N s.nx all all (masks all) T K X) (h0 : (T 0).d.i = 0) (hx : (T 0).d.xs = []) (hS : Sep all) (hn : Node all T K X s ρ0 S k ρ g Xt) (hi : all[i]? = some o) (hns : ¬S i) (hk : K i = .ch) (hr : ∀ j, bit ((masks all).getD i 0) j = true → S j)
    (hlast : ∀ p ∈ (T i).d.ch, bit ((masks all).getD i 0) p.1 = true) (hw : Mem w0 (hitem ρ (T k).s.hp :: hitem ρ Xt :: F) w) :
    k ≤ i ∧ SOk ρ (mergeK ((masks all).getD i 0) (T i).d.xs (T i).s) ∧ Mono s (mergeK ((masks all).getD i 0) (T i).d.xs (T i).s) ∧ s.nx + all.length ≤ (mergeK ((masks all).getD i 0) (T i).d.xs (T i).s).nx ∧
    ∃ Xt', (∀ id st b, hget Xt' id = .bk st b ↔ st = 0 ∧ ∃ j, j < all.length ∧ id = s.nx + j ∧ K j = .nw b ∧ S j ∧ (j < i + 1 → (j, s.nx + j, b) ∈ restK ((masks all).getD i 0) (T i).d.xs)) ∧ (∀ id st b, hget Xt' id = .bk st b → ρ.ok id ∧ BG ρ 0 b) ∧
      Mem w0 (hitem ρ (mergeK ((masks all).getD i 0) (T i).d.xs (T i).s).hp :: hitem ρ Xt' :: F) w := by
  have hil := lt_of_some hi
  have hki : k ≤ i := by
    rcases Nat.lt_or_ge i k with h2 | h2
    · exact absurd ((hn.chs i hil hk).2 h2) hns
    · exact h2
  have hnc : ∀ j, k ≤ j → j < i → K j ≠ .ch := fun j h1 h2 h3 => by
    have hb := hlast _ (h.chs h0 i (by omega) j h2 h3)
    have := (hn.chs j (by omega) h3).1 (hr j hb)
    omega
  have hsk := h.same k i hki (by omega) hnc
  obtain ⟨u1, u2, u3⟩ := h.xs_up h0 k i hki (by omega) hnc
  -- the blocks that are merged are among those that wait
  have hin : ∀ x ∈ (T i).d.xs, S x.1 → hget Xt (s.nx + x.1) = .bk 0 x.2.2 := fun x hm hs => by
    obtain ⟨a, b, d⟩ := h.xs h0 hx i (by omega) x hm
    rw [hn.xt]
    exact ⟨rfl, x.1, by omega, rfl, d, hs, fun hlt => by
      have := u2 x hm hlt
      obtain ⟨x1, x2, x3⟩ := x
      simp only at b; subst b; exact this⟩
  have hlt : ∀ x ∈ (T i).d.xs, x.2.1 < 1000000 := fun x hm => by
    obtain ⟨a, b, d⟩ := h.xs h0 hx i (by omega) x hm
    have := hn.sok.nx; have := hn.room; omega
  have hsi : SOk ρ (T i).s := hsk ▸ hn.sok
  have hmg : ∀ x ∈ (T i).d.xs, bit ((masks all).getD i 0) x.1 = true → ρ.ok x.2.1 ∧ BG ρ 0 x.2.2 := fun x hm hb => by
    obtain ⟨a, b, d⟩ := h.xs h0 hx i (by omega) x hm
    rw [b]; exact hn.xok _ _ _ (hin x hm (hr _ hb))
  obtain ⟨m1, m2⟩ := merge_sok (m := (masks all).getD i 0) (T i).d.xs (T i).s hsi hmg
  have hmono := merge_mono (m := (masks all).getD i 0) (T i).d.xs (T i).s hlt
  refine ⟨hki, m1, (hsk ▸ hn.mono).trans hmono, by rw [m2, hsk]; exact hn.room, ?_⟩
  obtain ⟨Xt', hX'⟩ : ∃ Xt' : HT, ∀ id st b, hget Xt' id = .bk st b ↔ st = 0 ∧ ∃ j, j < all.length ∧ id = s.nx + j ∧ K j = .nw b ∧ S j ∧ (j < i + 1 → (j, s.nx + j, b) ∈ restK ((masks all).getD i 0) (T i).d.xs) := by
    classical
    obtain ⟨Y, hY⟩ := exX s.nx (fun j => if hq : ∃ b, K j = .nw b ∧ S j ∧ (j < i + 1 → (j, s.nx + j, b) ∈ restK ((masks all).getD i 0) (T i).d.xs) then some hq.choose else none) all.length (by have := hn.sok.nx; have := hn.room; omega)
    refine ⟨Y, fun id st b => ?_⟩
    rw [hY]
    constructor
    · rintro ⟨e0, j, e1, e2, e3⟩
      split at e3
      · rename_i hq
        injection e3 with e3
        have := hq.choose_spec
        rw [e3] at this
        exact ⟨e0, j, e1, e2, this.1, this.2.1, this.2.2⟩
      · cases e3
    · rintro ⟨e0, j, e1, e2, e3, e4, e5⟩
      refine ⟨e0, j, e1, e2, ?_⟩
      have hq : ∃ b, K j = .nw b ∧ S j ∧ (j < i + 1 → (j, s.nx + j, b) ∈ restK ((masks all).getD i 0) (T i).d.xs) := ⟨b, e3, e4, e5⟩
      rw [dif_pos hq]
      have e6 := hq.choose_spec.1
      generalize hq.choose = q at e6
      have e7 : Kd.nw b = Kd.nw q := e3.symm.trans e6
      injection e7 with e7
      rw [e7]
  have hsub : ∀ id st b, hget Xt' id = .bk st b → hget Xt id = .bk 0 b := fun id st b hb => by
    obtain ⟨e0, j, e1, e2, e3, e4, e5⟩ := (hX' id st b).1 hb
    rw [hn.xt]
    exact ⟨rfl, j, e1, e2, e3, e4, fun hlt => u2 _ (restK_mem.1 (e5 (by omega))).1 hlt⟩
  refine ⟨Xt', hX', fun id st b hb => hn.xok id 0 b (hsub id st b hb), ?_⟩
  have hAi : hget (T i).s.hp = hget (T k).s.hp := by rw [hsk]
  refine m_part hw (fun id st b hb => ?_) (fun id st b hb => .inr ⟨0, hsub id st b hb⟩) (fun id st b st' b' hb hb' => ?_)
  · rcases merge_get _ _ hlt id st b hb with ⟨st', h1⟩ | ⟨j, h1, h2⟩
    · exact .inl ⟨st', by rw [← hAi]; exact h1⟩
    · obtain ⟨a, d, e⟩ := h.xs h0 hx i (by omega) _ h1
      have := hin _ h1 (hr j h2)
      simp only at d this
      exact .inr ⟨0, by rw [d]; exact this⟩
  · have hXb := hsub id st' b' hb'
    rcases merge_get _ _ hlt id st b hb with ⟨st2, h1⟩ | ⟨j, h1, h2⟩
    · rw [hAi] at h1
      exact (List.pairwise_cons.1 hw.2.2.2).1 _ (List.mem_cons_self ..) (ρ.ad id) ⟨id, st2, b, h1, rfl⟩ ⟨id, 0, b', hXb, rfl⟩
    · obtain ⟨a, d, e⟩ := h.xs h0 hx i (by omega) _ h1
      obtain ⟨e0, j', e1, e2, e3, e4, e5⟩ := (hX' id st' b').1 hb'
      simp only at d a
      have : j' = j := by omega
      subst this
      have := (restK_mem.1 (e5 (by omega))).2
      simp only at this
      rw [h2] at this; cases this
end
end Go.Proofs.O

/-
  Regions that draw their order: behind an operation that turned the memory; the end.
-/
set_option linter.unusedVariables false
set_option linter.unusedSimpArgs false
namespace Go.Proofs.O
open Go Go.Proofs.E

section
variable {c : Tab} {sf : Self} {N : Nat} {all : List Oper} {T : Nat → Rec} {K : Nat → Kd} {X : Nat → V} {S : Nat → Prop} {s : St} {ρ0 ρ ρ' : Env} {k i : Nat} {g : Fm} {Xt Xt' : HT} {o : Oper} {w0 w : World} {F : List E.Item}
theorem Node.turned (h : Story c sf N s.nx all all (masks all) T K X) (h0 : (T 0).d.i = 0) (hN : N ≤ 256) (hS : Sep all) (hn : Node all T K X s ρ0 S k ρ g Xt) (hi : all[i]? = some o) (hns : ¬S i) (hk : K i = .ch) (hr : ∀ j, bit ((masks all).getD i 0) j = true → S j)
    (hlast : ∀ p ∈ (T i).d.ch, bit ((masks all).getD i 0) p.1 = true) {s0 : St} (hki : k ≤ i) (hm0 : Mono s s0) (hroom : s.nx + all.length ≤ s0.nx)
    (hX : ∀ id st b, hget Xt' id = .bk st b ↔ st = 0 ∧ ∃ j, j < all.length ∧ id = s.nx + j ∧ K j = .nw b ∧ S j ∧ (j < i + 1 → (j, s.nx + j, b) ∈ restK ((masks all).getD i 0) (T i).d.xs)) (hXo : ∀ id st b, hget Xt' id = .bk st b → ρ.ok id ∧ BG ρ 0 b)
    (he : Exn s0.nx ρ ρ') (hs1 : SOk ρ' (T (i + 1)).s) (hm1 : Mono s0 (T (i + 1)).s) (hg : Gd ρ' 0 (X i)) (hxs : (T (i + 1)).d.xs = restK ((masks all).getD i 0) (T i).d.xs) :
    Node all T K X s ρ0 (fun j => S j ∨ j = i) (i + 1) ρ' (putD o.dst (X i) g) Xt' := by
  have hil := lt_of_some hi
  refine ⟨by omega, fun j hj hc => ⟨?_, fun hlt => ?_⟩, hn.fr.put h hN hS hi, (put_ok (ρ := ρ') (dst := o.dst) hN (h.dst i o hi) (hn.fok.ext he (Nat.le_refl _)) hg).1, hs1, Nat.le_trans hroom hm1.nx, hm0.trans hm1, fun j b hj hb hs hok => ?_, fun id st b => ?_, fun id st q hq => ?_, hn.exn.trans he (by omega)⟩
  · rintro (hs | e)
    · have := (hn.chs j hj hc).1 hs; omega
    · omega
  · by_cases e : j = i
    · exact .inr e
    · exact .inl (hr j (hlast _ (h.chs h0 i (by omega) j (by omega) hc)))
  · rcases he.2 _ hok with h1 | h1
    · exact hn.fresh j b hj hb (fun h => hs (.inl h)) h1
    · omega
  · rw [hX]
    constructor
    · rintro ⟨h1, j, h2, h3, h4, h5, h6⟩; exact ⟨h1, j, h2, h3, h4, .inl h5, fun hlt => by rw [hxs]; exact h6 hlt⟩
    · rintro ⟨h1, j, h2, h3, h4, h5, h6⟩; exact ⟨h1, j, h2, h3, h4, h5.resolve_right fun e => (by rw [e, hk] at h4; cases h4), fun hlt => by rw [← hxs]; exact h6 hlt⟩
  · exact ⟨(he.1 id (hXo id st q hq).1).2.2.2.2, (hXo id st q hq).2.ext he (Nat.le_refl _)⟩
end
end Go.Proofs.O

/-
  Regions that draw their order: the end.
-/
set_option linter.unusedVariables false
set_option linter.unusedSimpArgs false
namespace Go.Proofs.O
open Go Go.Proofs.E

theorem allK_cons (x : Nat × Nat × B) (l : List (Nat × Nat × B)) (s : St) : allK (x :: l) s = allK l (mergeA s x.2.1 x.2.2) := rfl
theorem all_get : ∀ (l : List (Nat × Nat × B)) (s : St), (∀ x ∈ l, x.2.1 < 1000000) → ∀ id st b, hget (allK l s).hp id = .bk st b → (∃ st', hget s.hp id = .bk st' b) ∨ ∃ j, (j, id, b) ∈ l
  | [], s, _, id, st, b, h => .inl ⟨st, h⟩
  | x :: l, s, hl, id, st, b, h => by
    rw [allK_cons] at h
    rcases all_get l _ (fun y hy => hl y (List.mem_cons_of_mem _ hy)) id st b h with ⟨st', h1⟩ | ⟨j, h1⟩
    · rw [mergeA_get (hl x (List.mem_cons_self ..))] at h1
      split at h1
      · rename_i e
        cases h1
        exact .inr ⟨x.1, by rw [e]; exact List.mem_cons_self ..⟩
      · exact .inl ⟨st', h1⟩
    · exact .inr ⟨j, List.mem_cons_of_mem _ h1⟩
theorem all_sok {ρ : Env} : ∀ (l : List (Nat × Nat × B)) (s : St), SOk ρ s → (∀ x ∈ l, ρ.ok x.2.1 ∧ BG ρ 0 x.2.2) → SOk ρ (allK l s) ∧ Mono s (allK l s)
  | [], s, hs, _ => ⟨hs, Mono.refl⟩
  | x :: l, s, hs, hl => by
    rw [allK_cons]
    obtain ⟨h1, h2⟩ := hl x (List.mem_cons_self ..)
    have hlt : x.2.1 < 1000000 := Nat.lt_trans (hs.up _ h1) hs.nx
    have h3 : SOk ρ (mergeA s x.2.1 x.2.2) := ⟨hs.nx, fun j sj bj hj => by
      rw [mergeA_get hlt] at hj
      split at hj
      · rename_i e; cases hj; rw [e]; exact ⟨h1, Nat.lt_succ_self _, h2.any⟩
      · have := hs.bk _ _ _ hj; exact ⟨this.1, Nat.lt_succ_of_lt this.2.1, this.2.2⟩, hs.up⟩
    obtain ⟨q1, q2⟩ := all_sok l _ h3 fun y hy => hl y (List.mem_cons_of_mem _ hy)
    exact ⟨q1, (mergeA_mono hlt).trans q2⟩
section
variable {c : Tab} {sf : Self} {N : Nat} {all : List Oper} {T : Nat → Rec} {K : Nat → Kd} {X : Nat → V} {S : Nat → Prop} {s : St} {ρ0 ρ ρ' : Env} {k i : Nat} {g : Fm} {Xt Xt' : HT} {o : Oper} {w0 w : World} {F : List E.Item}
theorem Node.done (h : Story c sf N s.nx all all (masks all) T K X) (h0 : (T 0).d.i = 0) (hx : (T 0).d.xs = []) (hN : N ≤ 256) (hS : Sep all) (hn : Node all T K X s ρ0 S k ρ g Xt) (hall : ∀ j, j < all.length → S j) (hw : Mem w0 (hitem ρ (T k).s.hp :: hitem ρ Xt :: F) w) :
    SOk ρ (allK (T all.length).d.xs (T all.length).s) ∧ Mono s (allK (T all.length).d.xs (T all.length).s) ∧ Exn s.nx ρ0 ρ ∧ fv ρ g = fv ρ (T all.length).f ∧ FOk ρ 0 (T all.length).f ∧ Mem w0 (hitem ρ (allK (T all.length).d.xs (T all.length).s).hp :: F) w := by
  have hnc : ∀ j, k ≤ j → j < all.length → K j ≠ .ch := fun j h1 h2 h3 => by
    have := (hn.chs j h2 h3).1 (hall j h2); omega
  have hsk := h.same k all.length hn.kle (Nat.le_refl _) hnc
  obtain ⟨u1, u2, u3⟩ := h.xs_up h0 k all.length hn.kle (Nat.le_refl _) hnc
  have hin : ∀ x ∈ (T all.length).d.xs, hget Xt x.2.1 = .bk 0 x.2.2 := fun x hm => by
    obtain ⟨a, b, d⟩ := h.xs h0 hx all.length (Nat.le_refl _) x hm
    rw [hn.xt]
    exact ⟨rfl, x.1, a, b, d, hall _ a, fun hlt => by
      have := u2 x hm hlt
      obtain ⟨x1, x2, x3⟩ := x
      simp only at b; subst b; exact this⟩
  have hok : ∀ x ∈ (T all.length).d.xs, ρ.ok x.2.1 ∧ BG ρ 0 x.2.2 := fun x hm => hn.xok _ _ _ (hin x hm)
  have hlt : ∀ x ∈ (T all.length).d.xs, x.2.1 < 1000000 := fun x hm => Nat.lt_trans (hn.sok.up _ (hok x hm).1) hn.sok.nx
  obtain ⟨m1, m2⟩ := all_sok (T all.length).d.xs (T all.length).s (hsk ▸ hn.sok) hok
  have hfr : ∀ t, t < 256 → (acc t).g g = (acc t).g (T all.length).f := fun t ht => by
    by_cases hex : ∃ (j : Nat) (x : Oper), all[j]? = some x ∧ x.dst = some t
    · obtain ⟨j, x, hj, hd⟩ := hex
      rw [hn.fr.one j x t hj (hall j (lt_of_some hj)) hd, h.fr1 hN (fun i j y x d h1 h2 h3 h4 => (hS.look i y j x d h1 h2 h3 h4).2) all.length (Nat.le_refl _) j x t (lt_of_some hj) hj hd]
    · rw [hn.fr.two t ht fun j x hj _ hd => hex ⟨j, x, hj, hd⟩, h.fr2 hN all.length (Nat.le_refl _) t ht fun j x _ hj hd => hex ⟨j, x, hj, hd⟩]
  refine ⟨m1, (hsk ▸ hn.mono).trans m2, hn.exn, ?_, fun t ht => by rw [← hfr t ht]; exact hn.fok t ht, ?_⟩
  · funext t
    unfold fv
    split
    · rename_i ht; rw [hfr t ht]
    · rfl
  · have hAi : hget (T all.length).s.hp = hget (T k).s.hp := by rw [hsk]
    have hp : Mem w0 (hitem ρ (allK (T all.length).d.xs (T all.length).s).hp :: hitem ρ .e :: F) w := by
      refine m_part hw (fun id st b hb => ?_) (fun id st b hb => by rw [hget_e] at hb; cases hb) (fun id st b st' b' hb hb' => by rw [hget_e] at hb'; cases hb')
      rcases all_get _ _ hlt id st b hb with ⟨st', h1⟩ | ⟨j, h1⟩
      · exact .inl ⟨st', by rw [← hAi]; exact h1⟩
      · exact .inr ⟨0, hin _ h1⟩
    exact (m_sw hp).tail
end
end Go.Proofs.O

/-
  Regions that draw their order: one operation, when what stands ahead is done.
-/
set_option linter.unusedVariables false
set_option linter.unusedSimpArgs false
namespace Go.Proofs.O
open Go Go.Proofs.E

/-- the operations of S are done -/
def At (N : Nat) (all : List Oper) (T : Nat → Rec) (K : Nat → Kd) (X : Nat → V) (s : St) (ρ0 : Env) (F : List E.Item) (w0 : World) (S : Nat → Prop) (a : Act) (w : World) : Prop :=
  ∃ k ρ g Xt, Node all T K X s ρ0 S k ρ g Xt ∧ IsFr N [] a (fv ρ g) ∧ Mem w0 (hitem ρ (T k).s.hp :: hitem ρ Xt :: F) w
section
variable {c : Tab} {sf : Self} {N : Nat} {all : List Oper} {T : Nat → Rec} {K : Nat → Kd} {X : Nat → V} {S : Nat → Prop} {s : St} {ρ0 ρ ρ' : Env} {k i : Nat} {g : Fm} {Xt Xt' : HT} {o : Oper} {w0 w : World} {F : List E.Item} {a : Act} {Q : Exit → Act → World → Prop}
theorem node_op (hT : TabOk c) (hNm : NameOk c) (hSf : SelfOk c sf) (h : Story c sf N s.nx all all (masks all) T K X) (h0 : (T 0).d.i = 0) (hx : (T 0).d.xs = []) (hN : N ≤ 256) (hS : Sep all) (hF : FM c F w0) (hc : ∀ i j, S i → bit ((masks all).getD i 0) j = true → S j)
    (hi : all[i]? = some o) (hns : ¬S i) (hr : ∀ j, bit ((masks all).getD i 0) j = true → S j) (hat : At N all T K X s ρ0 F w0 S a w) : wpOpIn (FW none) 0 c.P all.toArray Q i (At N all T K X s ρ0 F w0 fun j => S j ∨ j = i) a w := by
  obtain ⟨k, ρ, g, Xt, hn, ha, hw⟩ := hat
  have hil := lt_of_some hi
  have hd := h.dst i o hi
  obtain ⟨e1, e2⟩ := hn.fr.eqs h hN hS hc hi hns hr
  obtain ⟨l1, l2⟩ := cop_loc (c := c) o.op e1
  have hf : ∀ n, FOk ρ n g := fun n t ht => (hn.fok t ht).any
  obtain ⟨g1, g2⟩ := wtK_ok (ρ := ρ) (ops := all) (g := o.guard) hn.fok
  have hst := h.step i o hi
  unfold wpOpIn
  rw [show all.toArray[i]? = some o by simpa using hi]
  dsimp only
  rw [wanted_fr ha]
  -- a value of the operation, over the node
  have put : ∀ (ρ1 : Env) (x : V), Exn 0 ρ ρ1 → Gd ρ1 0 x → IsFr N [] (a.put o.dst (cv ρ1 x)) (fv ρ1 (putD o.dst x g)) := fun ρ1 x he hg => by
    rw [(put_ok (ρ := ρ1) (dst := o.dst) hN hd (hn.fok.ext he (Nat.le_refl _)) hg).2, fv_ext he hn.fok]
    exact isFr_put hd ha
  have quiet : K i ≠ .ch → (∀ b, K i ≠ .nw b) → Gd ρ 0 (X i) → At N all T K X s ρ0 F w0 (fun j => S j ∨ j = i) (a.put o.dst (cv ρ (X i))) w := fun q1 q2 q3 =>
    ⟨k, ρ, _, Xt, hn.value h hN hS hi hns q1 q2 q3, put ρ (X i) Exn.refl q3, hw⟩
  have hrun : ∀ {w : World} r, Rn c (ev (fv ρ g)) o.op w r → (execOp (ev (fv ρ g)) o).run c.P w = r := fun {w} r hr => by obtain ⟨dst, op, ty, pos, af, gu⟩ := o; exact hr dst ty pos af gu
  have hcop := cop_ok hT hNm hn.sok (hf _) o.op
  generalize hK : K i = kk at hst
  generalize hX : X i = x at hst
  generalize hTd : (T (i + 1)).d = d' at hst
  generalize hTs : (T (i + 1)).s = s' at hst
  cases hst with
  | skip q1 =>
    rw [g2 (e2.trans q1)]
    refine ⟨fun _ _ => trivial, ?_⟩
    have := quiet (by rw [hK]; simp) (fun b => by rw [hK]; simp) (by rw [hX]; exact gd_und)
    rw [hX, cv_und] at this
    exact this
  | v _ q1 q2 q3 =>
    rw [g1 (e2.trans q1), if_pos rfl]
    have q4 : (cop c o.op).r g (T k).s = .v x := by
      rw [l1]
      have := l2 q2 (T i).f (T i).s (T k).s
      rw [q3] at this; exact this
    rw [q4] at hcop
    obtain ⟨hg, hrn⟩ := hcop w0 _ w hw
    refine ⟨fun _ _ => trivial, ?_⟩
    rw [Oper.semAt_eq _ _ _ (not_defer (not_def (c := c) (s := (T k).s) (f := g) fun n hn => by rw [q4] at hn; cases hn)), ha.eval, hrun _ hrn]
    have := quiet (by rw [hK]; simp) (fun b => by rw [hK]; simp) (by rw [hX]; exact hg.any)
    rw [hX] at this; exact this
  | rd _ r q1 q2 q3 q5 =>
    obtain ⟨_, _, q6⟩ := h.read h0 hi hK hn.kle (fun j hj hlt hb => (hn.chs j (by omega) hj).1 (hr j hb)) (fun j hj hij hjl hb => by
      rcases Nat.lt_or_ge j k with h2 | h2
      · exact absurd (hc j i ((hn.chs j hjl hj).2 h2) hb) hns
      · exact h2)
    rw [g1 (e2.trans q1), if_pos rfl]
    have q4 : (cop c o.op).r g (T k).s = .rv x r := by rw [l1, q6, hX]
    rw [q4] at hcop
    obtain ⟨hg, hrn⟩ := hcop w0 _ w hw
    refine ⟨fun _ _ => trivial, ?_⟩
    rw [Oper.semAt_eq _ _ _ (not_defer (not_def (c := c) (s := (T k).s) (f := g) fun n hn => by rw [q4] at hn; cases hn)), ha.eval, hrun _ hrn]
    have := quiet (by rw [hK]; simp) (fun b => by rw [hK]; simp) (by rw [hX]; exact hg.any)
    rw [hX] at this; exact this
  | nw xf b q1 q2 q3 =>
    rw [g1 (e2.trans q1), if_pos rfl]
    have q4 : (cop c o.op).r g (T k).s = .al xf b := by
      rw [l1]
      have := l2 q2 (T i).f (T i).s (T k).s
      rw [q3] at this; exact this
    rw [q4] at hcop
    obtain ⟨ob, hob⟩ := hcop w0 _ w hw
    have hdi := h.di h0 i (by omega)
    obtain ⟨ρ1, h1, had, hbr, hbg, hgx, hrn⟩ := hob (s.nx + i) (hn.fresh i b hil hK hns)
    rw [hdi] at hX
    refine ⟨fun _ _ => trivial, ?_⟩
    rw [Oper.semAt_eq _ _ _ (not_defer (not_def (c := c) (s := (T k).s) (f := g) fun n hn => by rw [q4] at hn; cases hn)), ha.eval, hrun _ hrn]
    have hgX : Gd ρ1 0 (X i) := by rw [hX]; exact hgx.any
    obtain ⟨Xt', r1, r2⟩ := hn.new h h0 hN hS hc hi hns hK ob h1 had hbr hbg.any hgX hw
    have := put ρ1 (X i) (h1.exn (n := 0) (hn.fresh i b hil hK hns) (Nat.zero_le _)) hgX
    rw [hX] at this
    rw [hX] at r1
    exact ⟨k, ρ1, _, Xt', r1, this, r2⟩
  | ch _ _ q1 q2 q3 q5 q6 q7 =>
    obtain ⟨m1, m2, m3, m4, Xt', m5, m6, m7⟩ := hn.merge h h0 hx hS hi hns hK hr (fun p hp => lastOk_mem q6 p hp) hw
    rw [g1 (e2.trans q1), if_pos rfl]
    have hcop := cop_ok hT hNm m2 (hf _) o.op
    rw [l1] at hcop
    have hF' : marks (hitem ρ Xt' :: F) = [] := marks_h hF.1
    have fin : ∀ (ρ1 : Env) (w1 : World), Exn (mergeK ((masks all).getD i 0) (T i).d.xs (T i).s).nx ρ ρ1 → SOk ρ1 s' → Mono (mergeK ((masks all).getD i 0) (T i).d.xs (T i).s) s' → Gd ρ1 0 x → Mem w0 (hitem ρ1 s'.hp :: hitem ρ Xt' :: F) w1 → At N all T K X s ρ0 F w0 (fun j => S j ∨ j = i) (a.put o.dst (cv ρ1 x)) w1 := fun ρ1 w1 r1 r2 r3 r4 r5 => by
      have := hn.turned h h0 hN hS hi hns hK hr (fun p hp => lastOk_mem q6 p hp) m1 m3 m4 m5 m6 r1 (by rw [hTs]; exact r2) (by rw [hTs]; exact r3) (by rw [hX]; exact r4) (by rw [hTd]; rfl)
      refine ⟨i + 1, ρ1, _, Xt', this, ?_, ?_⟩
      · rw [hX]; exact put ρ1 x (r1.mono (Nat.zero_le _)) r4
      · rw [hTs]
        exact m_sw (m_ext (s := ⟨.e, 0, 0⟩) m6 (r1.mono (Nat.zero_le _)) (m_sw r5))
    have hnd : isDefer o.op = false := not_def (c := c) (s := mergeK ((masks all).getD i 0) (T i).d.xs (T i).s) (f := (T i).f) fun n hn => by rw [hn] at q3; cases q3
    refine ⟨fun _ _ => trivial, ?_⟩
    rw [Oper.semAt_eq _ _ _ (not_defer hnd), ha.eval]
    generalize hnx : (cop c o.op).r (T i).f (mergeK ((masks all).getD i 0) (T i).d.xs (T i).s) = nx at q3 hcop
    cases q3 with
    | v =>
      obtain ⟨hg, hrn⟩ := hcop w0 _ w m7
      rw [hrun _ hrn]
      exact fin ρ w Exn.refl m2 Mono.refl hg.any m7
    | rv _ r =>
      obtain ⟨hg, hrn⟩ := hcop w0 _ w m7
      rw [hrun _ hrn]
      exact fin ρ w Exn.refl m2 Mono.refl hg.any m7
    | sv =>
      obtain ⟨ρ1, w1, r1, r2, r3, r4, r5, hrn⟩ := hcop q7 w0 _ w m7
      rcases hrn with hrn | ⟨hxu, hrn⟩
      · rw [hrun _ hrn]
        exact fin ρ1 w1 r1 r2 r3 r4.any r5
      · rw [hrun _ hrn]
        have := fin ρ1 w1 r1 r2 r3 r4.any r5
        rw [hxu, cv_und] at this
        exact this
    | en kk args e f1 _ _ hcall =>
      obtain ⟨hg, hrn⟩ := hcop w0 _ w m7
      rw [hrun _ hrn]
      refine ⟨(fun h => by simp [FW] at h), callsIn_FW ((hSf.call kk args _ e f1 x s' hcall ρ _ w0 w ⟨hF', hF.2⟩ m2 hg m7).mono ?_)⟩
      rintro e2 w2 ⟨ρ1, rfl, r1, r2, r3, r4, r5⟩
      exact fin ρ1 w2 r1 r2 r3 r4.any r5
end
end Go.Proofs.O

/-
  Regions that draw their order: in every order.
-/
set_option linter.unusedVariables false
set_option linter.unusedSimpArgs false
namespace Go.Proofs.O
open Go Go.Proofs.E

theorem m_nil {ρ : Env} {w0 w : World} {F : List E.Item} (h : Mem w0 F w) : Mem w0 (hitem ρ .e :: F) w := by
  obtain ⟨h1, h2, h3, h4⟩ := h
  have hno : ∀ b, ¬(hitem ρ .e).fp b := by
    rintro b ⟨id, st, k, hk, _⟩
    rw [hget_e] at hk; cases hk
  refine ⟨h1, fun x hx => ?_, fun x hx b hf => ?_, List.pairwise_cons.2 ⟨fun y hy b hf hg => hno b hf, h4⟩⟩
  · rcases List.mem_cons.1 hx with rfl | hx
    · exact ⟨fun id st k hk => (by rw [hget_e] at hk; cases hk), fun i si bi j sj bj hk => (by rw [hget_e] at hk; cases hk)⟩
    · exact h2 x hx
  · rcases List.mem_cons.1 hx with rfl | hx
    · exact absurd hf (hno b)
    · exact h3 x hx b hf
/-- it is listed -/
def Li (l : Array Bool) (j : Nat) : Prop := l.getD j false = true
theorem li_set {l : Array Bool} {i : Nat} (h : i < l.size) : Li (l.setIfInBounds i true) = fun j => Li l j ∨ j = i := by
  funext j; apply propext; unfold Li
  rw [Array.getD_eq_getD_getElem?, Array.getD_eq_getD_getElem?, Array.getElem?_setIfInBounds]
  by_cases e : i = j
  · subst e; simp [h]
  · rw [if_neg e]
    exact ⟨.inl, fun h => h.resolve_right fun e2 => e e2.symm⟩
theorem li_no {l : Array Bool} {i : Nat} (h : i < l.size) : l.getD i true = false ↔ ¬Li l i := by
  unfold Li
  rw [Array.getD_eq_getD_getElem?, Array.getD_eq_getD_getElem?, Array.getElem?_eq_getElem h]
  simp
theorem li_count {l : Array Bool} {i : Nat} (h : i < l.size) (hn : ¬Li l i) {n : Nat} (hc : l.toList.count false ≤ n + 1) : (l.setIfInBounds i true).toList.count false ≤ n := by
  have h1 : l[i] = false := by
    have := (li_no h).2 hn
    rwa [Array.getD_eq_getD_getElem?, Array.getElem?_eq_getElem h] at this
  rw [Array.toList_setIfInBounds, List.count_set (by simpa using h), if_pos (by rw [Array.getElem_toList, h1]; rfl), if_neg (by decide)]
  omega
theorem li_all {l : Array Bool} (hc : l.toList.count false ≤ 0) {i : Nat} (h : i < l.size) : Li l i := by
  refine Classical.byContradiction fun hn => ?_
  have h1 : l[i] = false := by
    have := (li_no h).2 hn
    rwa [Array.getD_eq_getD_getElem?, Array.getElem?_eq_getElem h] at this
  have := List.count_eq_zero.1 (Nat.le_zero.1 hc)
  exact this (by rw [← h1]; exact Array.mem_toList_iff.2 (Array.getElem_mem h))
section
variable {c : Tab} {sf : Self} {N : Nat} {all : List Oper} {T : Nat → Rec} {K : Nat → Kd} {X : Nat → V} {s : St} {ρ0 : Env} {w0 : World} {F : List E.Item} {Q : Exit → Act → World → Prop}
theorem node_all (hT : TabOk c) (hNm : NameOk c) (hSf : SelfOk c sf) (h : Story c sf N s.nx all all (masks all) T K X) (h0 : (T 0).d.i = 0) (hx : (T 0).d.xs = []) (hN : N ≤ 256) (hS : Sep all) (hF : FM c F w0)
    (hq : ∀ S a w, (∀ j, j < all.length → S j) → At N all T K X s ρ0 F w0 S a w → Q .normal a w) :
    ∀ (fuel : Nat) (l : Array Bool) (a : Act) (w : World), l.size = all.length → l.toList.count false ≤ fuel → (∀ i o, all[i]? = some o → Li l i → ∀ e ∈ o.after.toList, Region.binds .any e = true → Li l e.on) →
      At N all T K X s ρ0 F w0 (Li l) a w → wpAnyIn (FW none) 0 c.P .any all.toArray Q fuel l a w
  | 0, l, a, w, hl, hc, hcl, hat => by
    have hall : ∀ j, j < all.length → Li l j := fun j hj => li_all hc (by rw [hl]; exact hj)
    refine ⟨List.eq_nil_iff_forall_not_mem.2 fun i hi => ?_, hq _ a w hall hat⟩
    obtain ⟨hu, o, ho, _⟩ := mem_ready.1 hi
    have hil := lt_of_some (all := all) (i := i) (o := o) (by simpa using ho)
    exact (li_no (by rw [hl]; exact hil)).1 hu (hall i hil)
  | fuel + 1, l, a, w, hl, hc, hcl, hat => by
    refine ⟨fun hr => hq _ a w (fun j => ?_) hat, fun i hi => ?_⟩
    · induction j using Nat.strongRecOn with
      | _ j ih =>
        intro hj
        refine Classical.byContradiction fun hn => ?_
        obtain ⟨o, ho⟩ := some_of_lt (l := all) hj
        have : j ∈ Region.ready .any all.toArray l := mem_ready.2 ⟨(li_no (by rw [hl]; exact hj)).2 hn, o, by simpa using ho, fun e he hb => by
          have hlt := hS.edge j o ho e (Array.mem_toList_iff.2 he) hb
          exact ih e.on hlt (by omega)⟩
        rw [hr] at this; cases this
    · obtain ⟨hu, o, ho, he⟩ := mem_ready.1 hi
      have ho : all[i]? = some o := by simpa using ho
      have hil := lt_of_some ho
      have hils : i < l.size := by rw [hl]; exact hil
      have hns := (li_no hils).1 hu
      have hcb := closed_bit hS hcl
      refine wpOpIn_mono (fun a' w' h3 => node_all hT hNm hSf h h0 hx hN hS hF hq fuel (l.setIfInBounds i true) a' w' (by simpa using hl) (li_count hils hns hc) ?_ (by rw [li_set hils]; exact h3))
        (node_op hT hNm hSf h h0 hx hN hS hF hcb ho hns (fun j hb => ?_) hat)
      · intro j x hj hs e hem hb
        rw [li_set hils] at hs ⊢
        rcases hs with hs | hs
        · exact .inl (hcl j x hj hs e hem hb)
        · subst hs
          rw [ho] at hj; cases hj
          exact .inl (he e (Array.mem_toList_iff.1 hem) hb)
      · rw [List.getD_eq_getElem?_getD, masks_at ho, Option.getD_some, maskK_iff] at hb
        obtain ⟨e, hem, hbd, hj⟩ := hb
        have hlt := hS.edge i o ho e hem hbd
        have hse : Li l e.on := he e (Array.mem_toList_iff.1 hem) hbd
        rcases hj with rfl | hj
        · exact hse
        · have : ((masks all).take i).getD e.on 0 = (masks all).getD e.on 0 := by
            rw [List.getD_eq_getElem?_getD, List.getD_eq_getElem?_getD, List.getElem?_take, if_pos hlt]
          rw [this] at hj
          exact hcb e.on j hse hj
end
/-- regions that draw their order -/
theorem draw_ok {c : Tab} (hT : TabOk c) (hNm : NameOk c) (hm : c.P.follows .mixedOrders = true) : DrawOk c := by
  intro sf N id ops f s e f' v s' hSf hN h ρ F w0 PQ hF hs hf hq
  have h1 : (bif sepK ops.toList (masks ops.toList) then regD (rdK c N ops.toList ops.toList (masks ops.toList)) ops.toList.length else (⟨fun _ _ _ => .er 168⟩ : Rg)).go sf f s = .ok e f' v s' := h
  cases hb : sepK ops.toList (masks ops.toList) with
  | false => rw [hb] at h1; cases h1
  | true =>
    rw [hb] at h1
    have hS := sepK_ok hb
    have h2 : (Bool.rec (motive := fun _ => Out) (.er 167) (disK sf s.nx (rdK c N ops.toList ops.toList (masks ops.toList)) ⟨0, [], [], []⟩ f (roomK ops.toList.length s)) (Nat.blt (Nat.add s.nx ops.toList.length) 1000000)) = .ok e f' v s' := h1
    rw [brec] at h2
    split at h2
    · rename_i hlt
      have hlt : s.nx + ops.toList.length < 1000000 := blt_t.1 hlt
      obtain ⟨b, t, hr, he, hf', hs'⟩ := dis_ok ops.toList (masks ops.toList) ⟨⟨0, [], [], []⟩, f, roomK ops.toList.length s⟩ (masks_len _) h2
      obtain ⟨T, K, X, hst, hT0, hTn⟩ := story_of hr
      subst he; subst hf'; subst hs'
      intro a w ha hw
      rw [marks_h hF.1] at ha
      refine wpIn_region_any hm ?_
      have e1 : ops = ops.toList.toArray := Array.toArray_toList.symm
      rw [e1]
      refine node_all (T := T) (K := K) (X := X) (s := s) (ρ0 := ρ) (w0 := w0) (F := F) hT hNm hSf hst (by rw [hT0]) (by rw [hT0]) hN hS hF ?_ _ _ a _ (by simp) (by simp) ?_ ?_
      · rintro S a' w' hall ⟨k, ρ', g, Xt, hn, ha', hw'⟩
        obtain ⟨r1, r2, r3, r4, r5, r6⟩ := hn.done hst (by rw [hT0]) (by rw [hT0]) hN hS hall hw'
        rw [hTn] at r1 r2 r4 r5 r6
        refine ⟨w0, _, fv ρ' b.f, by rw [marks_h hF.1, ← r4]; exact ha', r6, hq ρ' r3 r1 (fun t ht => (r5 t ht).any) r2⟩
      · intro i o ho hl
        unfold Li at hl
        rw [Array.getD_eq_getD_getElem?, Array.getElem?_replicate] at hl
        split at hl <;> cases hl
      · have hno : ∀ j, ¬Li (Array.replicate ops.toList.toArray.size false) j := fun j hl => by
          unfold Li at hl
          rw [Array.getD_eq_getD_getElem?, Array.getElem?_replicate] at hl
          split at hl <;> cases hl
        refine ⟨0, ρ, f, .e, ⟨Nat.zero_le _, fun j _ _ => ⟨fun h => absurd h (hno j), fun h => by omega⟩, ⟨fun j o d _ h => absurd h (hno j), fun t _ _ => by rw [hT0]⟩, fun t ht => (hf t ht).any, ?_, ?_, ?_, fun j b _ _ _ hok => ?_, fun id st b => ?_, fun id st b hk => ?_, Exn.refl⟩, ha, ?_⟩
        · rw [hT0]
          exact ⟨hlt, fun id st k hk => by obtain ⟨q1, q2, q3⟩ := hs.bk id st k hk; exact ⟨q1, q2, q3.any⟩, fun id hid => Nat.lt_of_lt_of_le (hs.up id hid) (Nat.le_add_right _ _)⟩
        · rw [hT0]; exact Nat.le_refl _
        · rw [hT0]; exact ⟨Nat.le_add_right _ _, Nat.le_refl _, fun id st k h _ => h⟩
        · have := hs.up _ hok; omega
        · constructor
          · intro hk; rw [hget_e] at hk; cases hk
          · rintro ⟨_, j, _, _, _, hl, _⟩; exact absurd hl (hno j)
        · rw [hget_e] at hk; cases hk
        · rw [hT0]; exact m_sw (m_nil hw.drew)
    · cases h2
end Go.Proofs.O

/-
  The evaluator's run is the model's.
-/
set_option linter.unusedVariables false
set_option linter.unusedSimpArgs false
namespace Go.Proofs.O
open Go Go.Proofs.E

/-- what is to be shown of functions that are told by what they do -/
def ExtOk (c : Tab) (x : Ext) : Prop := ∀ k g args s e f' v s', (x k).x = some g → g args s = .ok e f' v s' → CallOk c k args s v s'
theorem run_ok {c : Tab} {x : Ext} (hT : TabOk c) (hNm : NameOk c) (hm : c.P.follows .mixedOrders = true) (hX : ExtOk c x) : ∀ n, RunOk c n (run c x n)
  | 0 => ⟨⟨fun N k f s e f' v s' _ h => (by cases h), fun k args s e f' v s' h => (by cases h)⟩, fun N a f s e f' v s' _ h => (by cases h)⟩
  | n + 1 => by
    have ih := run_ok hT hNm hm hX n
    refine ⟨⟨fun N k f s e f' v s' hN h => code_ok hT hNm (draw_ok hT hNm hm) ih hN h, fun k args s e f' v s' h => ?_⟩, fun N a f s e f' v s' hN h => rnd_ok ih hN h⟩
    have h2 : calls c (run c x n) args s k (x k) = .ok e f' v s' := h
    unfold calls at h2
    cases hx : (x k).x with
    | none => rw [hx] at h2; exact call_ok ih.toSelfOk h2
    | some g => rw [hx] at h2; exact hX k g args s e f' v s' hx h2
/-- a call of a closed function -/
theorem closed_w {c : Tab} {x : Ext} (hT : TabOk c) (hNm : NameOk c) (hm : c.P.follows .mixedOrders = true) (hX : ExtOk c x) {n : Nat} {k : FuncId} {e : Ex} {f' : Fm} {b : Bool} {s' : St} (h : run c x n (.call k []) ⟨.e, 1, 1⟩ = .ok e f' (.b b) s') (w : World) (hwd : c.wd w) :
    Calls c.P k #[] w fun e w' => e = .returned (.bool b) ∧ Bel w w' := by
  have h1 := (run_ok hT hNm hm hX n).call k [] _ e f' _ s' h ⟨id, id, id, id, fun _ => False⟩ [] w w ⟨rfl, hwd⟩ ⟨by decide, fun id st q hq => (by rw [hget_e] at hq; cases hq), fun id h => h.elim⟩ trivial (m_nil ⟨Bel.refl w, fun _ h => by (cases h), fun _ h => by (cases h), List.Pairwise.nil⟩)
  refine h1.mono ?_
  rintro e2 w2 ⟨ρ', rfl, _, _, _, _, h2⟩
  exact ⟨by simp [cv], h2.1⟩
end Go.Proofs.O

/-
  The plans of the types whose values are compared cell by cell: one check, and what it says.
-/
set_option linter.unusedVariables false
set_option linter.unusedSimpArgs false
namespace Go.Proofs.O
open Go Go.Proofs.E

theorem run_part_oneO {P : Program} {t : TypeId} {cs : List Value} {k : Nat} {x : Value} (w : World) (ha : ∀ w, (isAgg t).run P w = .ok false w) (hx : cs[k]? = some x) : (part t cs.toArray k).run P w = .ok x w := by
  simp [part, ha, hx, Result.andThen]
theorem eqF_nilO {P : Program} {d : Nat} {xs ys : Array Value} (w : World) : (Op.eqFields (d + 1) xs ys []).run P w = .ok true w := by simp [Op.eqFields]
theorem eqF_consO {P : Program} {d : Nat} {xs ys : Array Value} {f : Field} {fs : List Field} {vx vy : Value} {b r : Bool} (w : World) (h1 : f.name ≠ "_") (hx : (part f.type xs f.offset).run P w = .ok vx w) (hy : (part f.type ys f.offset).run P w = .ok vy w) (he : (Op.equalIn (d + 1) f.type vx vy).run P w = .ok b w)
    (ih : (Op.eqFields (d + 1) xs ys fs).run P w = .ok r w) : (Op.eqFields (d + 1) xs ys (f :: fs)).run P w = .ok (b && r) w := by
  simp only [Op.eqFields, h1, ne_eq, not_false_eq_true, if_true, Sem.run_bind, hx, hy, Result.andThen_ok, he, Sem.run_ite]
  cases b with
  | false => rfl
  | true => rw [if_neg (by decide), ih]; rfl
theorem eqS_ofO {P : Program} {d : Nat} {t : TypeId} {fs : Array Field} {xs ys : Array Value} {r : Bool} (w : World) (ht : P.underlying t = some (.struct fs)) (hp : P.stoodInHeld t = false) (h : (Op.eqFields (d + 1) xs ys fs.toList).run P w = .ok r w) : (Op.equalIn (d + 2) t (.agg xs) (.agg ys)).run P w = .ok r w := by
  have e : P.fieldsOf t = fs := by unfold Program.fieldsOf; rw [ht]
  rw [run_equalIn_struct w (d + 1) t _ _ (by rw [e]; exact ht) hp, e]
  exact h

/-- a type of one cell of that kind -/
noncomputable def basB (c : Tab) (t : TypeId) (k : Nat) : Bool := match c.desc t with
  | some (.int _) => Nat.beq k 0
  | some .bool => Nat.beq k 1
  | some .string => Nat.beq k 2
  | _ => false
noncomputable def fldB (c : Tab) : List Field → Nat → List Nat → Bool
  | [], _, [] => true
  | f :: fs, j, k :: ks => f.name != "_" && (Nat.beq f.offset j && (basB c f.type k && fldB c fs (j + 1) ks))
  | _, _, _ => false
noncomputable def fldN (c : Tab) : List Field → Nat → List Nat → Bool
  | [], _, [] => true
  | [], _, _ :: _ => false
  | f :: fs, j, ks => f.name != "_" && (Nat.beq f.offset j && match c.desc f.type with
    | some (.struct gs) => !c.P.stoodInHeld f.type && (Nat.beq (c.size f.type) gs.size && (Nat.ble gs.size ks.length && (fldB c gs.toList 0 (ks.take gs.size) && fldN c fs (j + gs.size) (ks.drop gs.size))))
    | _ => match ks with
      | [] => false
      | k :: ks => basB c f.type k && fldN c fs (j + 1) ks)
noncomputable def planB (c : Tab) (t : TypeId) (ks : List Nat) : Bool := !c.P.eqGuardType c.P.depth t && match c.desc t with
  | some (.struct fs) => !c.P.stoodInHeld t && fldN c fs.toList 0 ks
  | some (.array n e) => Nat.beq n ks.length && (Nat.beq (c.size e) 1 && ks.all (basB c e))
  | _ => false
noncomputable def tabB (c : Tab) : Bool := c.eqs.all fun p => planB c p.1 p.2
section
variable {c : Tab} {t : TypeId} {k : Nat}
structure Bas (c : Tab) (t : TypeId) (k : Nat) : Prop where
  ag : ∀ w, (isAgg t).run c.P w = .ok false w
  eq : ∀ d x y b w, EqC k x y b → (Op.equalIn (d + 1) t x y).run c.P w = .ok b w
  ck : ∀ em n x w, CellIs k x → (Instr.checkKey em (n + 1) t x).run c.P w = .ok () w
  inf : ∃ i, c.info t = some i
theorem basB_ok (h : basB c t k = true) : Bas c t k := by
  unfold basB at h
  split at h
  · rename_i q hd
    have hk := beq_t.1 h
    subst hk
    obtain ⟨hu, hi⟩ := desc_ok hd
    refine ⟨run_isAgg (by unfold Tab.agg; rw [hd]), ?_, ?_, hi⟩
    · rintro d x y b w ⟨j, m, n, rfl, rfl, rfl⟩
      exact run_equalIn_int w d t j q m n hu
    · rintro em n x w ⟨j, m, rfl⟩
      rw [Instr.checkKey]
      simp [run_underlying hu]
  · rename_i hd
    have hk := beq_t.1 h
    subst hk
    obtain ⟨hu, hi⟩ := desc_ok hd
    refine ⟨run_isAgg (by unfold Tab.agg; rw [hd]), ?_, ?_, hi⟩
    · rintro d x y b w ⟨m, n, rfl, rfl, rfl⟩
      exact run_equalIn_bool w d t m n hu
    · rintro em n x w ⟨m, rfl⟩
      rw [Instr.checkKey]
      simp [run_underlying hu]
  · rename_i hd
    have hk := beq_t.1 h
    subst hk
    obtain ⟨hu, hi⟩ := desc_ok hd
    refine ⟨run_isAgg (by unfold Tab.agg; rw [hd]), ?_, ?_, hi⟩
    · rintro d x y b w ⟨m, n, rfl, rfl, rfl⟩
      exact run_equalIn_string w d t m n hu
    · rintro em n x w ⟨m, rfl⟩
      rw [Instr.checkKey]
      simp [run_underlying hu]
  · cases h
theorem fld_eq (d : Nat) (w : World) : ∀ (fs : List Field) (ks : List Nat) (pre pre' xs ys : List Value) (b : Bool), fldB c fs pre.length ks = true → pre'.length = pre.length → EqV ks xs ys b →
    (Op.eqFields (d + 1) (pre ++ xs).toArray (pre' ++ ys).toArray fs).run c.P w = .ok b w
  | [], [], pre, pre', xs, ys, b, _, _, h => by
    cases xs <;> cases ys <;> simp only [EqV] at h
    subst h
    exact eqF_nilO w
  | f :: fs, k :: ks, pre, pre', xs, ys, b, hf, hl, h => by
    unfold fldB at hf
    rw [Bool.and_eq_true, Bool.and_eq_true, Bool.and_eq_true] at hf
    obtain ⟨h1, h2, h3, h4⟩ := hf
    have hB := basB_ok h3
    have ho := beq_t.1 h2
    cases xs with
    | nil => cases ys <;> exact h.elim
    | cons x xs =>
      cases ys with
      | nil => exact h.elim
      | cons y ys =>
        obtain ⟨p, q, e1, e2, rfl⟩ := h
        have ih := fld_eq d w fs ks (pre ++ [x]) (pre' ++ [y]) xs ys q (by simpa using h4) (by simp [hl]) e2
        rw [List.append_assoc, List.append_assoc] at ih
        refine eqF_consO w (by simpa using h1) (run_part_oneO w hB.ag ?_) (run_part_oneO w hB.ag ?_) (hB.eq d x y p w e1) ih
        · rw [ho]; simp
        · rw [ho, ← hl]; simp
  | [], _ :: _, pre, pre', xs, ys, b, hf, _, _ => by cases hf
  | _ :: _, [], pre, pre', xs, ys, b, hf, _, _ => by cases hf
theorem fld_ck (em : Bool) (n : Nat) (w : World) : ∀ (fs : List Field) (ks : List Nat) (pre xs : List Value), fldB c fs pre.length ks = true → xs.length = ks.length → (∀ (j k : Nat) (x : Value), ks[j]? = some k → xs[j]? = some x → CellIs k x) →
    (forIn fs PUnit.unit fun f _ => (if f.name ≠ "_" then do
      let v ← part f.type (pre ++ xs).toArray f.offset
      Instr.checkKey em (n + 1) f.type v
      pure (ForInStep.yield PUnit.unit) else pure (ForInStep.yield PUnit.unit) : Sem (ForInStep PUnit))).run c.P w = .ok PUnit.unit w
  | [], ks, pre, xs, _, _, _ => by simp
  | f :: fs, [], pre, xs, hf, _, _ => by cases hf
  | f :: fs, k :: ks, pre, [], hf, hl, _ => by cases hl
  | f :: fs, k :: ks, pre, x :: xs, hf, hl, hc => by
    unfold fldB at hf
    rw [Bool.and_eq_true, Bool.and_eq_true, Bool.and_eq_true] at hf
    obtain ⟨h1, h2, h3, h4⟩ := hf
    have hB := basB_ok h3
    have ho := beq_t.1 h2
    have ih := fld_ck em n w fs ks (pre ++ [x]) xs (by simpa using h4) (by simpa using hl) fun j k y hk hy => hc (j + 1) k y (by simpa using hk) (by simpa using hy)
    rw [List.append_assoc] at ih
    have h1' : f.name ≠ "_" := by simpa using h1
    have hp : (part f.type (pre ++ (x :: xs)).toArray f.offset).run c.P w = .ok x w := run_part_oneO w hB.ag (by rw [ho]; simp)
    simp only [List.forIn_cons, Sem.run_bind, h1', ne_eq, not_false_eq_true, if_true, Result.andThen_ok, hp, hB.ck em n x w (hc 0 k x rfl rfl), Sem.run_pure]
    exact ih
theorem eqV_len : ∀ {ks : List Nat} {xs ys : List Value} {b : Bool}, EqV ks xs ys b → xs.length = ks.length ∧ ys.length = ks.length
  | [], [], [], _, _ => ⟨rfl, rfl⟩
  | k :: ks, x :: xs, y :: ys, b, h => by
    obtain ⟨_, _, _, h, _⟩ := h
    have := eqV_len h
    simp [this.1, this.2]
  | [], [], _ :: _, _, h => h.elim
  | [], _ :: _, [], _, h => h.elim
  | [], _ :: _, _ :: _, _, h => h.elim
  | _ :: _, [], _, _, h => h.elim
  | _ :: _, _ :: _, [], _, h => h.elim
theorem eqV_cut : ∀ (n : Nat) {ks : List Nat} {xs ys : List Value} {b : Bool}, n ≤ ks.length → EqV ks xs ys b → ∃ p q, EqV (ks.take n) (xs.take n) (ys.take n) p ∧ EqV (ks.drop n) (xs.drop n) (ys.drop n) q ∧ b = (p && q)
  | 0, ks, xs, ys, b, _, h => ⟨true, b, rfl, h, by simp⟩
  | n + 1, [], _, _, _, hn, _ => by simp at hn
  | n + 1, k :: ks, [], _, _, _, h => h.elim
  | n + 1, k :: ks, _ :: _, [], _, _, h => h.elim
  | n + 1, k :: ks, x :: xs, y :: ys, b, hn, h => by
    obtain ⟨p, q, h1, h2, rfl⟩ := h
    obtain ⟨p', q', h3, h4, rfl⟩ := eqV_cut n (by simpa using hn) h2
    exact ⟨p && p', q', ⟨p, p', h1, h3, rfl⟩, h4, by rw [Bool.and_assoc]⟩
theorem run_part_aggO {P : Program} {t : TypeId} {pre mid post : List Value} {off n : Nat} (w : World) (ha : ∀ w, (isAgg t).run P w = .ok true w) (hs : ∀ w, (sizeOf t).run P w = .ok n w) (ho : off = pre.length) (hn : mid.length = n) : (part t (pre ++ mid ++ post).toArray off).run P w = .ok (.agg mid.toArray) w := by
  subst ho; subst hn
  simp only [part, Sem.run_bind, ha, Result.andThen_ok, if_true, hs, Sem.run_pure]
  congr 2
  rw [List.extract_toArray, List.extract_eq_take_drop]
  simp
theorem desc_agg {gs : Array Field} (hd : c.desc t = some (.struct gs)) : ∀ w, (isAgg t).run c.P w = .ok true w := run_isAgg (by unfold Tab.agg; rw [hd])
theorem fldN_eq (d : Nat) (w : World) : ∀ (fs : List Field) (ks : List Nat) (pre pre' xs ys : List Value) (b : Bool), fldN c fs pre.length ks = true → pre'.length = pre.length → EqV ks xs ys b →
    (Op.eqFields (d + 1 + 1) (pre ++ xs).toArray (pre' ++ ys).toArray fs).run c.P w = .ok b w
  | [], [], pre, pre', xs, ys, b, _, _, h => by
    cases xs <;> cases ys <;> simp only [EqV] at h
    subst h
    exact eqF_nilO w
  | [], _ :: _, pre, pre', xs, ys, b, hf, _, _ => by simp [fldN] at hf
  | f :: fs, ks, pre, pre', xs, ys, b, hf, hl, h => by
    unfold fldN at hf
    rw [Bool.and_eq_true, Bool.and_eq_true] at hf
    obtain ⟨h1, h2, h3⟩ := hf
    have ho := beq_t.1 h2
    split at h3
    · rename_i gs hd
      rw [Bool.and_eq_true, Bool.and_eq_true, Bool.and_eq_true, Bool.and_eq_true] at h3
      obtain ⟨h4, h5, h6, h7, h8⟩ := h3
      have h5 := beq_t.1 h5
      have h6 := ble_t.1 h6
      obtain ⟨hu, hi⟩ := desc_ok hd
      obtain ⟨p, q, e1, e2, rfl⟩ := eqV_cut gs.size h6 h
      obtain ⟨l1, l2⟩ := eqV_len h
      have m1 : (xs.take gs.size).length = gs.size := by rw [List.length_take]; omega
      have m2 : (ys.take gs.size).length = gs.size := by rw [List.length_take]; omega
      have hsz : ∀ w, (sizeOf f.type).run c.P w = .ok gs.size w := fun w => by have := run_size (w := w) hi; rwa [h5] at this
      have ih := fldN_eq d w fs (ks.drop gs.size) (pre ++ xs.take gs.size) (pre' ++ ys.take gs.size) (xs.drop gs.size) (ys.drop gs.size) q (by rw [List.length_append, m1]; exact h8) (by simp [hl, m1, m2]) e2
      have px := run_part_aggO (P := c.P) (pre := pre) (mid := xs.take gs.size) (post := xs.drop gs.size) (off := f.offset) w (desc_agg hd) hsz ho m1
      have py := run_part_aggO (P := c.P) (pre := pre') (mid := ys.take gs.size) (post := ys.drop gs.size) (off := f.offset) w (desc_agg hd) hsz (by rw [ho, hl]) m2
      rw [List.append_assoc, List.take_append_drop] at ih px py
      rw [List.append_assoc, List.take_append_drop] at ih
      exact eqF_consO w (by simpa using h1) px py (eqS_ofO w hu (by simpa using h4) (fld_eq d w gs.toList (ks.take gs.size) [] [] (xs.take gs.size) (ys.take gs.size) p h7 rfl e1)) ih
    · cases ks with
      | nil => cases h3
      | cons k ks =>
        rw [Bool.and_eq_true] at h3
        obtain ⟨h3, h4⟩ := h3
        have hB := basB_ok h3
        cases xs with
        | nil => cases ys <;> exact h.elim
        | cons x xs =>
          cases ys with
          | nil => exact h.elim
          | cons y ys =>
            obtain ⟨p, q, e1, e2, rfl⟩ := h
            have ih := fldN_eq d w fs ks (pre ++ [x]) (pre' ++ [y]) xs ys q (by simpa using h4) (by simp [hl]) e2
            rw [List.append_assoc, List.append_assoc] at ih
            refine eqF_consO w (by simpa using h1) (run_part_oneO w hB.ag ?_) (run_part_oneO w hB.ag ?_) (hB.eq (d + 1) x y p w e1) ih
            · rw [ho]; simp
            · rw [ho, ← hl]; simp
theorem fldN_ck (em : Bool) (n : Nat) (w : World) : ∀ (fs : List Field) (ks : List Nat) (pre xs : List Value), fldN c fs pre.length ks = true → xs.length = ks.length → (∀ (j k : Nat) (x : Value), ks[j]? = some k → xs[j]? = some x → CellIs k x) →
    (forIn fs PUnit.unit fun f _ => (if f.name ≠ "_" then do
      let v ← part f.type (pre ++ xs).toArray f.offset
      Instr.checkKey em (n + 1 + 1) f.type v
      pure (ForInStep.yield PUnit.unit) else pure (ForInStep.yield PUnit.unit) : Sem (ForInStep PUnit))).run c.P w = .ok PUnit.unit w
  | [], ks, pre, xs, _, _, _ => by simp
  | f :: fs, ks, pre, xs, hf, hl, hc => by
    unfold fldN at hf
    rw [Bool.and_eq_true, Bool.and_eq_true] at hf
    obtain ⟨h1, h2, h3⟩ := hf
    have ho := beq_t.1 h2
    have h1' : f.name ≠ "_" := by simpa using h1
    split at h3
    · rename_i gs hd
      rw [Bool.and_eq_true, Bool.and_eq_true, Bool.and_eq_true, Bool.and_eq_true] at h3
      obtain ⟨h4, h5, h6, h7, h8⟩ := h3
      have h5 := beq_t.1 h5
      have h6 := ble_t.1 h6
      obtain ⟨hu, hi⟩ := desc_ok hd
      have m1 : (xs.take gs.size).length = gs.size := by rw [List.length_take]; omega
      have hsz : ∀ w, (sizeOf f.type).run c.P w = .ok gs.size w := fun w => by have := run_size (w := w) hi; rwa [h5] at this
      have ih := fldN_ck em n w fs (ks.drop gs.size) (pre ++ xs.take gs.size) (xs.drop gs.size) (by rw [List.length_append, m1]; exact h8) (by simp [hl]) fun j k y hk hy => hc (gs.size + j) k y (by rwa [List.getElem?_drop] at hk) (by rwa [List.getElem?_drop] at hy)
      have px := run_part_aggO (P := c.P) (pre := pre) (mid := xs.take gs.size) (post := xs.drop gs.size) (off := f.offset) w (desc_agg hd) hsz ho m1
      rw [List.append_assoc, List.take_append_drop] at ih px
      have hck : (Instr.checkKey em (n + 1 + 1) f.type (.agg (xs.take gs.size).toArray)).run c.P w = .ok () w := by
        rw [Instr.checkKey]
        simp only [Sem.run_bind, run_underlying hu, Result.andThen_ok]
        rw [← Array.forIn_toList]
        exact congrArg (fun r => Result.andThen r fun _ w' => (pure () : Sem Unit).run c.P w') (fld_ck em n w gs.toList (ks.take gs.size) [] (xs.take gs.size) h7 (by rw [m1, List.length_take]; omega) fun j k y hk hy => by
          rw [List.getElem?_take] at hk hy
          split at hk
          · rename_i hj
            rw [if_pos hj] at hy
            exact hc j k y hk hy
          · cases hk)
      simp only [List.forIn_cons, Sem.run_bind, h1', ne_eq, not_false_eq_true, if_true, Result.andThen_ok, px, hck, Sem.run_pure]
      exact ih
    · cases ks with
      | nil => cases h3
      | cons k ks =>
        cases xs with
        | nil => cases hl
        | cons x xs =>
          rw [Bool.and_eq_true] at h3
          obtain ⟨h3, h4⟩ := h3
          have hB := basB_ok h3
          have ih := fldN_ck em n w fs ks (pre ++ [x]) xs (by simpa using h4) (by simpa using hl) fun j k y hk hy => hc (j + 1) k y (by simpa using hk) (by simpa using hy)
          rw [List.append_assoc] at ih
          have hp : (part f.type (pre ++ (x :: xs)).toArray f.offset).run c.P w = .ok x w := run_part_oneO w hB.ag (by rw [ho]; simp)
          simp only [List.forIn_cons, Sem.run_bind, h1', ne_eq, not_false_eq_true, if_true, Result.andThen_ok, hp, hB.ck em (n + 1) x w (hc 0 k x rfl rfl), Sem.run_pure]
          exact ih
theorem arr_eq {e : TypeId} (d : Nat) (w : World) : ∀ (ks : List Nat) (pre pre' xs ys : List Value) (b : Bool), (∀ k ∈ ks, Bas c e k) → pre'.length = pre.length → EqV ks xs ys b →
    (Op.eqItems (d + 1) e 1 (pre ++ xs).toArray (pre' ++ ys).toArray (List.range' pre.length ks.length)).run c.P w = .ok b w
  | [], pre, pre', xs, ys, b, _, _, h => by
    cases xs <;> cases ys <;> simp only [EqV] at h
    subst h
    simp [Op.eqItems]
  | k :: ks, pre, pre', xs, ys, b, hf, hl, h => by
    have hB := hf k (List.mem_cons_self ..)
    cases xs with
    | nil => cases ys <;> exact h.elim
    | cons x xs =>
      cases ys with
      | nil => exact h.elim
      | cons y ys =>
        obtain ⟨p, q, e1, e2, rfl⟩ := h
        have ih := arr_eq (e := e) d w ks (pre ++ [x]) (pre' ++ [y]) xs ys q (fun k hk => hf k (List.mem_cons_of_mem _ hk)) (by simp [hl]) e2
        rw [List.append_assoc, List.append_assoc, List.length_append] at ih
        have p1 : (part e (pre ++ (x :: xs)).toArray pre.length).run c.P w = .ok x w := run_part_oneO w hB.ag (by simp)
        have p2 : (part e (pre' ++ (y :: ys)).toArray pre.length).run c.P w = .ok y w := run_part_oneO w hB.ag (by rw [← hl]; simp)
        rw [List.length_cons, List.range'_succ]
        simp only [Op.eqItems, Nat.mul_one, Sem.run_bind, p1, p2, Result.andThen_ok, hB.eq d x y p w e1, Sem.run_ite]
        cases p with
        | false => rfl
        | true => rw [if_neg (by decide)]; exact ih
theorem arr_ck {e : TypeId} {i : TypeInfo} (hi : c.P.info? e = some i) (h1 : c.P.cellsOf e = 1) (em : Bool) (n : Nat) (w : World) : ∀ (ks : List Nat) (pre xs : List Value), (∀ k ∈ ks, Bas c e k) → xs.length = ks.length → (∀ (j k : Nat) (x : Value), ks[j]? = some k → xs[j]? = some x → CellIs k x) →
    (forIn (List.range' pre.length ks.length) PUnit.unit fun i _ => (do
      Instr.checkKey em (n + 1) e (← part e (pre ++ xs).toArray (i * (← sizeOf e)))
      pure (ForInStep.yield PUnit.unit) : Sem (ForInStep PUnit))).run c.P w = .ok PUnit.unit w
  | [], pre, xs, _, _, _ => by simp
  | k :: ks, pre, [], _, hl, _ => by cases hl
  | k :: ks, pre, x :: xs, hf, hl, hc => by
    have hB := hf k (List.mem_cons_self ..)
    have ih := arr_ck hi h1 em n w ks (pre ++ [x]) xs (fun k hk => hf k (List.mem_cons_of_mem _ hk)) (by simpa using hl) fun j k y hk hy => hc (j + 1) k y (by simpa using hk) (by simpa using hy)
    rw [List.append_assoc, List.length_append] at ih
    have p1 : (part e (pre ++ (x :: xs)).toArray pre.length).run c.P w = .ok x w := run_part_oneO w hB.ag (by simp)
    rw [List.length_cons, List.range'_succ]
    simp only [List.forIn_cons, Sem.run_bind, run_sizeOf w hi, h1, Nat.mul_one, p1, Result.andThen_ok, hB.ck em n x w (hc 0 k x rfl rfl), Sem.run_pure]
    exact ih
theorem planB_ok {ks : List Nat} (h : planB c t ks = true) : c.P.eqGuardType c.P.depth t = false ∧
    (∀ xs ys b, EqV ks xs ys b → ∀ w, (Op.equal t (.agg xs.toArray) (.agg ys.toArray)).run c.P w = .ok b w) ∧
    (∀ xs : List Value, xs.length = ks.length → (∀ (j k : Nat) (x : Value), ks[j]? = some k → xs[j]? = some x → CellIs k x) → ∀ em w, (Instr.checkKey em 10000 t (.agg xs.toArray)).run c.P w = .ok () w) := by
  unfold planB at h
  rw [Bool.and_eq_true] at h
  obtain ⟨hg, h⟩ := h
  refine ⟨by simpa using hg, ?_⟩
  split at h
  · rename_i fs hd
    rw [Bool.and_eq_true] at h
    obtain ⟨hs, hf⟩ := h
    obtain ⟨hu, hi⟩ := desc_ok hd
    refine ⟨fun xs ys b he w => ?_, fun xs hl hc em w => ?_⟩
    · show (Op.equalIn (9998 + 2) t _ _).run c.P w = _
      exact eqS_ofO w hu (by simpa using hs) (fldN_eq 9997 w fs.toList ks [] [] xs ys b hf rfl he)
    · rw [show (10000 : Nat) = 9998 + 1 + 1 from rfl, Instr.checkKey]
      simp only [Sem.run_bind, run_underlying hu, Result.andThen_ok]
      rw [← Array.forIn_toList]
      exact congrArg (fun r => Result.andThen r fun _ w' => (pure () : Sem Unit).run c.P w') (fldN_ck em 9997 w fs.toList ks [] xs hf hl hc)
  · rename_i n e hd
    rw [Bool.and_eq_true, Bool.and_eq_true, List.all_eq_true] at h
    obtain ⟨hn, hz, hf⟩ := h
    have hn := beq_t.1 hn
    have hz := beq_t.1 hz
    subst hn
    obtain ⟨hu, hi⟩ := desc_ok hd
    obtain ⟨i, hi⟩ := size_info (c := c) (t := e) (by omega)
    have hi2 := info_ok hi
    have hce : c.P.cellsOf e = 1 := by
      unfold Program.cellsOf; rw [hi2]
      unfold Tab.size at hz; rw [hi] at hz; exact hz
    have hB : ∀ k ∈ ks, Bas c e k := fun k hk => basB_ok (hf k hk)
    refine ⟨fun xs ys b he w => ?_, fun xs hl hc em w => ?_⟩
    · show (Op.equalIn (9998 + 1 + 1) t _ _).run c.P w = _
      rw [run_equalIn_array w (9998 + 1) _ _ hu hi2, hce, List.range_eq_range']
      exact arr_eq 9998 w ks [] [] xs ys b hB rfl he
    · rw [show (10000 : Nat) = 9998 + 1 + 1 from rfl, Instr.checkKey]
      simp only [Sem.run_bind, run_underlying hu, Result.andThen_ok]
      simp only [Std.Legacy.Range.forIn_eq_forIn_range', Std.Legacy.Range.size, Nat.sub_zero, Nat.add_one_sub_one, Nat.div_one]
      exact congrArg (fun r => Result.andThen r fun _ w' => (pure () : Sem Unit).run c.P w') (arr_ck hi2 hce em 9998 w ks [] xs hB hl hc)
  · cases h
theorem tabB_ok (h : tabB c = true) : TabOk c := fun t ks hp => by
  unfold Tab.plan at hp
  unfold tabB at h
  rw [List.all_eq_true] at h
  split at hp
  · rename_i p hf
    cases hp
    have := List.find?_some hf
    have e := beq_t.1 this
    rw [← e]
    exact planB_ok (h p (List.mem_of_find?_eq_some hf))
  · cases hp
end
end Go.Proofs.O
