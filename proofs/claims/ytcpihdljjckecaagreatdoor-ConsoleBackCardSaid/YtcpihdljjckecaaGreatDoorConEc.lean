import Derived.Test.YtcpihdljjckecaaGreatDoorConEb
import Derived.RecoverIn
set_option linter.unusedVariables false
set_option linter.unusedSimpArgs false
/-
  Deferred calls and panics.
-/
namespace Go.Proofs.E
open Go Go.RowKit

/-- a call that is left for the end, as an item without memory -/
def dcall (d : Deferred) : Item where
  fp := fun _ => False
  A := fun _ => True
  st := fun _ _ _ _ => trivial
  due := [d]
theorem mem_dcall {w0 w : World} {L : List Item} (d : Deferred) (h : Mem w0 L w) : Mem w0 (dcall d :: L) w := by
  refine ⟨h.1, fun it hi => ?_, fun it hi b hb => ?_, List.pairwise_cons.2 ⟨fun _ _ _ hb => hb.elim, h.2.2.2⟩⟩
  · rcases List.mem_cons.1 hi with rfl | hi
    · trivial
    · exact h.2.1 it hi
  · rcases List.mem_cons.1 hi with rfl | hi
    · exact hb.elim
    · exact h.2.2.1 it hi b hb
section
variable {c : Cx} {PQ : PJ} {w0 : World} {L : List Item} {f : Fr} {ops rest : List Oper}
theorem X_defer {call : Call} {ty : TypeId} {pos : String} {af : Array Edge} {d : Deferred} (hro : c.ro = none) (hd : ∀ w, (execOp (ev f) ⟨none, .defer call, ty, pos, af, none⟩).run c.P w = .ok (.defer d) w) (next : XL false c ops rest PQ w0 (dcall d :: L) f) :
    XL false c ops (⟨none, .defer call, ty, pos, af, none⟩ :: rest) PQ w0 L f := by
  intro a w ha hw
  show if _ then _ else _
  rw [if_pos (by rfl)]
  refine ⟨fun _ _ => trivial, ?_⟩
  have hs : (FW c.ro).round = none := hro
  rw [hs, Oper.semAt_none, ha.eval, hd w]
  refine next _ _ ?_ (mem_dcall d hw)
  exact ⟨ha.size, ha.get, by rw [marks_cons, ← ha.defers]; rfl⟩
theorem X_panic {x : Operand} {ty : TypeId} {pos : String} {af : Array Edge} {dst : Option Nat} {t : TypeId} {v : Value} (hx : ev f x = .iface t v) (h : PQ (.panic [{ v := .iface t v, recovered := false }]) w0 L f) :
    XL false c ops (⟨dst, .panic x, ty, pos, af, none⟩ :: rest) PQ w0 L f := by
  intro a w ha hw
  show if _ then _ else _
  rw [if_pos (by rfl)]
  refine ⟨fun _ _ => trivial, ?_⟩
  rw [Oper.semAt_eq _ _ _ (by intro x h; cases h), ha.eval]
  have hr : (execOp (ev f) ⟨dst, .panic x, ty, pos, af, none⟩).run c.P w = .halt (.panic (.iface t v)) w := by
    simp only [execOp, hx, Instr.panic]
    rfl
  rw [hr]
  exact ⟨w0, L, f, ha, hw, h⟩
/-- a call that panics -/
theorem X_callP {op : Op} {k : FuncId} {args : Array Value} {ty : TypeId} {pos : String} {af : Array Edge} {dst : Option Nat} {ch : List PanicEntry} (hen : EnterG true c w0 L f op ty k args)
    (hc : ∀ w, Mem w0 L w → Calls c.P k args w fun e w' => e = .panicked ch ∧ Bel w w') (h : PQ (.panic ch) w0 L f) (hnd : isDefer op = false := by rfl) :
    XL false c ops (⟨dst, op, ty, pos, af, none⟩ :: rest) PQ w0 L f := by
  intro a w ha hw
  show if _ then _ else _
  rw [if_pos (by rfl)]
  refine ⟨fun _ _ => trivial, ?_⟩
  rw [Oper.semAt_eq _ _ _ (not_defer hnd), ha.eval, hen rfl _ _ _ _ w hw]
  refine ⟨fun h => by simp [FW] at h, (callsIn_FW ((hc w hw).mono ?_))⟩
  rintro e w' ⟨rfl, hb⟩
  exact ⟨w0, L, f, ha, hw.call hb, h⟩
theorem thenJ_panic {K : J} {ch : List PanicEntry} (h : PQ (.panic ch) w0 L f) : thenJ K PQ (.panic ch) w0 L f := h
theorem blockJ_panic {i : Nat} {ch : List PanicEntry} (h : PQ (.panic ch) w0 L f) : blockJ i PQ (.panic ch) w0 L f := h
theorem loopJ_panic {σ : Type} {S : List Nat} {f0 : Fr} {vals : σ → List (Nat × Value)} {Wb : σ → World} {Li : σ → List Item} {I : σ → Prop} {m : σ → Nat} {s : σ} {ch : List PanicEntry} (h : PQ (.panic ch) w0 L f) : loopJ S f0 vals Wb Li I m s PQ (.panic ch) w0 L f := h
end

/-! a function that may panic, and may leave calls for the end -/
def retP (c : Cx) (fn : Func) (R : Ending → World → Prop) : PJ
  | .normal => fun w0 L f => ∀ w a, Mem w0 L w → IsFr c.N (marks L) a f → LeavesInM (FW none) 0 c.P fn a.tmps R (marks L) .returning w
  | .ret => fun w0 L f => ∀ w a, Mem w0 L w → IsFr c.N (marks L) a f → LeavesInM (FW none) 0 c.P fn a.tmps R (marks L) .returning w
  | .panic ch => fun w0 L f => ∀ w a, Mem w0 L w → IsFr c.N (marks L) a f → LeavesInM (FW none) 0 c.P fn a.tmps R (marks L) (.panicking ch) w
  | _ => fun _ _ _ => False
theorem H_enterP {P : Program} {k : FuncId} {fn : Func} {code : Code} {l : List Value} {w : World} {R : Ending → World → Prop} {N : Nat} (hf : P.funcs[k]? = some fn) (hb : fn.body = some code) (hN : fn.ntmps = N) (hl : Nat.ble l.length N = true)
    (h : H ⟨P, none, N⟩ code (retP ⟨P, none, N⟩ fn R) w [] (frOf l)) : Calls P k l.toArray w R := by
  have hl' : l.length ≤ N := Nat.le_of_ble_eq_true hl
  refine calls_FW (n := 0) (callsIn_of_wp_marks hf hb trivial (wpIn_mono (h _ w ⟨?_, ?_, rfl⟩ (Mem.start w)) ?_) rfl)
  · simp [hN]; omega
  · intro i
    simp only [Array.getD_eq_getD_getElem?, frOf, List.getD_eq_getElem?_getD]
    rw [Array.getElem?_append]
    split
    · simp
    · rename_i hi
      have : l[i]? = none := List.getElem?_eq_none (by simpa using hi)
      rw [this]
      simp only [Array.getElem?_replicate]
      split <;> rfl
  · rintro e a w' ⟨u', L', f', k1, k2, k3⟩
    cases e with
    | normal => have := k3 w' a k2 k1; rw [← k1.defers] at this; exact this
    | ret => have := k3 w' a k2 k1; rw [← k1.defers] at this; exact this
    | panic ch => have := k3 w' a k2 k1; rw [← k1.defers] at this; exact this
    | exit i => exact k3.elim
    | goto l => exact k3.elim
    | outgrown => exact k3.elim
section
variable {c : Cx} {fn : Func} {R : Ending → World → Prop} {w0 : World} {L : List Item} {f : Fr} {v : Value}
theorem retP_of (hk : marks L = []) (hr : ResIs c.P c.N fn w0 L f v) (h : ∀ w, Mem w0 L w → R (.returned v) w) : retP c fn R .ret w0 L f := fun w a hw ha => by
  rw [hk]; exact ⟨v, hr w _ a hw ha, h w hw⟩
theorem pan_of {ch : List PanicEntry} (hk : marks L = []) (h : ∀ w, Mem w0 L w → R (.panicked ch) w) : retP c fn R (.panic ch) w0 L f := fun w a hw ha => by
  rw [hk]; exact h w hw
/-- what a deferred call must achieve in a frame on its way out -/
theorem leave_d {k : FuncId} {cap args : Array Value} {u : FrameMode} {w : World} {tmps : Array Value} {all : Array Value} (hu : u ≠ .run) (hi : (invoke (.fn (.func k) cap) args).run c.P w = .ok (.enter k all) w)
    (h : CallsDIn (FW none) 0 c.P k all u w fun e u' w' => ∃ v, e = .returned v ∧ LeavesInM (FW none) 0 c.P fn tmps R [] (settle u') w') : LeavesInM (FW none) 0 c.P fn tmps R [{ target := .fn (.func k) cap, args := args }] u w := by
  refine ⟨hu, .inr ⟨fun h => by simp [FW] at h, .func k, cap, k, all, rfl, hi, fun _ _ => trivial, h.mono ?_⟩⟩
  rintro e u' w' ⟨v, rfl, h⟩
  exact h
end

/-! a deferred call that may recover -/
/-- the end of a deferred call, in which the frame below has turned to the mode u -/
def retD (c : Cx) (fn : Func) (u : FrameMode) (R : Ending → FrameMode → World → Prop) : PJ
  | .normal => fun w0 L f => ∀ w a, Mem w0 L w → IsFr c.N (marks L) a f → marks L = [] ∧ ∃ v, (results fn a.tmps).run c.P w = .ok v w ∧ R (.returned v) u w
  | .ret => fun w0 L f => ∀ w a, Mem w0 L w → IsFr c.N (marks L) a f → marks L = [] ∧ ∃ v, (results fn a.tmps).run c.P w = .ok v w ∧ R (.returned v) u w
  | _ => fun _ _ _ => False
theorem endD {c : Cx} {fn : Func} {u : FrameMode} {R : Ending → FrameMode → World → Prop} {w0 : World} {L : List Item} {f : Fr} {v : Value} (hk : marks L = []) (hr : ResIs c.P c.N fn w0 L f v) (h : ∀ w, Mem w0 L w → R (.returned v) u w) : retD c fn u R .normal w0 L f :=
  fun w a hw ha => ⟨hk, v, hr w _ a hw ha, h w hw⟩
/-- what recover hands back, and the mode behind it -/
def Rcv (u : FrameMode) (x : Value) (u' : FrameMode) : Prop := (u = .returning ∧ x = .nilIface ∧ u' = .returning) ∨ (u = .panicking [{ v := x, recovered := false }] ∧ u' = .panicking [{ v := x, recovered := true }])
theorem rcv_ok {c₀ : Frame} {x : Value} {u' : FrameMode} (h : Rcv c₀.mode x u') (cs : List Frame) : recoverD (c₀ :: cs) = some (x, { c₀ with mode := u' } :: cs) ∨ (recoverD (c₀ :: cs) = none ∧ x = .nilIface ∧ { c₀ with mode := u' } = c₀) := by
  rcases h with ⟨h1, rfl, rfl⟩ | ⟨h1, rfl⟩
  · refine .inr ⟨by simp [recoverD, h1], rfl, ?_⟩
    rw [← h1]
  · exact .inl (by simp [recoverD, h1])
theorem wpS_value {P : Program} {ops : Array Oper} {Q : Exit → Act → List Frame → World → Prop} {i : Nat} {rest : List Nat} {a : Act} {cs : List Frame} {w : World} {o : Oper} {v : Value} (ho : ops[i]? = some o) (hw : o.guard = none) (hr : (execOp a.eval o).run P w = .ok (.value v) w) (next : wpOpsSIn (FW none) 0 P ops Q rest (a.put o.dst v) cs w) : wpOpsSIn (FW none) 0 P ops Q (i :: rest) a cs w := by
  simp only [wpOpsSIn, ho]
  refine ⟨fun _ _ => trivial, ?_⟩
  rw [if_pos (by simp [Region.wanted, hw]), hr]
  exact next
theorem wpS_recover {P : Program} {ops : Array Oper} {Q : Exit → Act → List Frame → World → Prop} {i : Nat} {rest : List Nat} {a : Act} {c₀ : Frame} {cs : List Frame} {w : World} {o : Oper} {x : Value} {u' : FrameMode} (hu : Rcv c₀.mode x u') (ho : ops[i]? = some o) (hw : o.guard = none) (hr : (execOp a.eval o).run P w = .ok .recover w) (next : wpOpsSIn (FW none) 0 P ops Q rest (a.put o.dst x) ({ c₀ with mode := u' } :: cs) w) : wpOpsSIn (FW none) 0 P ops Q (i :: rest) a (c₀ :: cs) w := by
  simp only [wpOpsSIn, ho]
  refine ⟨fun _ _ => trivial, ?_⟩
  rw [if_pos (by simp [Region.wanted, hw]), hr]
  rcases rcv_ok hu cs with h | ⟨h, rfl, hc⟩
  · simp only [h]; exact next
  · simp only [h]; rw [hc] at next; exact next
theorem H_enterD {P : Program} {k : FuncId} {fn : Func} {code : Code} {l : List Value} {u u' : FrameMode} {x : Value} {w0 w : World} {L : List Item} {R : Ending → FrameMode → World → Prop} {N : Nat} {id d ty e ty2 : Nat} {p1 p2 : String} {tys : Array TypeId} {af1 af2 : Array Edge}
    (hf : P.funcs[k]? = some fn) (hb : fn.body = some (.seq (.region id #[⟨some d, .call ⟨.builtin .recover, #[], tys⟩, ty, p1, af1, none⟩, ⟨some e, .assign (.tmp d), ty2, p2, af2, none⟩] false) code)) (hN : fn.ntmps = N) (hl : Nat.ble l.length N = true) (hd : Nat.blt d N = true) (he : Nat.blt e N = true) (hk : marks L = [])
    (hu : Rcv u x u') (hw : Mem w0 L w)
    (h : H ⟨P, none, N⟩ code (retD ⟨P, none, N⟩ fn u' R) w0 L (upd (upd (frOf l) d x) e x)) : CallsDIn (FW none) 0 P k l.toArray u w R := by
  have hl' : l.length ≤ N := Nat.le_of_ble_eq_true hl
  have ha0 : IsFr N (marks L) { tmps := l.toArray ++ Array.replicate (fn.ntmps - l.toArray.size) undef, defers := [] } (frOf l) := by
    refine ⟨?_, ?_, by rw [hk]⟩
    · simp [hN]; omega
    · intro i
      simp only [Array.getD_eq_getD_getElem?, frOf, List.getD_eq_getElem?_getD]
      rw [Array.getElem?_append]
      split
      · simp
      · rename_i hi
        have : l[i]? = none := List.getElem?_eq_none (by simpa using hi)
        rw [this]
        simp only [Array.getElem?_replicate]
        split <;> rfl
  refine callsDIn_of_wpSIn hf hb trivial fun c₀ cs hc => ?_
  subst hc
  generalize ({ tmps := l.toArray ++ Array.replicate (fn.ntmps - l.toArray.size) undef, defers := [] } : Act) = a0 at ha0 ⊢
  have hev : (a0.put (some d) x).eval (.tmp d) = x := by
    rw [(ha0.put hd x).eval]
    simp [ev, upd]
  have tail : ∀ (cs' : List Frame), cs' = { c₀ with mode := u' } :: cs → code.wpSIn (FW none) 0 P (bodyPostS P fn c₀ cs R) ((a0.put (some d) x).put (some e) x) cs' w := by
    intro cs' hcs
    refine wpSIn_of_wpIn rfl (wpIn_mono (h _ w ((ha0.put hd _).put he _) hw) ?_)
    rintro y a w' ⟨v', L', f', k1, k2, k3⟩
    cases y with
    | normal =>
      obtain ⟨h1, v, h2, h3⟩ := k3 w' a k2 k1
      exact ⟨by rw [k1.defers, h1], _, hcs, v, h2, h3⟩
    | ret =>
      obtain ⟨h1, v, h2, h3⟩ := k3 w' a k2 k1
      exact ⟨by rw [k1.defers, h1], _, hcs, v, h2, h3⟩
    | exit i => exact k3.elim
    | goto l => exact k3.elim
    | panic ch => exact k3.elim
    | outgrown => exact k3.elim
  refine wpSIn_seq (wpSIn_region ?_)
  show wpOpsSIn (FW none) 0 P _ _ [0, 1] _ _ _
  have hrun : ∀ (pp : Program) (ρ : Operand → Value), (execOp ρ ⟨some d, .call ⟨.builtin .recover, #[], tys⟩, ty, p1, af1, none⟩).run pp w = .ok .recover w := fun _ _ => rfl
  have hrun2 : ∀ (pp : Program) (ρ : Operand → Value), (execOp ρ ⟨some e, .assign (.tmp d), ty2, p2, af2, none⟩).run pp w = .ok (.value (ρ (.tmp d))) w := fun _ _ => rfl
  refine wpS_recover hu rfl rfl (hrun _ _) (wpS_value rfl rfl (hrun2 _ _) ?_)
  show code.wpSIn (FW none) 0 P (bodyPostS P fn c₀ cs R) ((a0.put (some d) x).put (some e) ((a0.put (some d) x).eval (.tmp d))) _ w
  rw [hev]
  exact tail _ rfl
end Go.Proofs.E

/-
  Strings and interfaces: operations.
-/
namespace Go.Proofs.E
open Go Go.RowKit
section
variable {c : Cx} {w0 : World} {L : List Item} {f : Fr} {g : Bool} {ty : TypeId} {x y : Operand} {v : Value}
theorem eqg_str {P : Program} {op : BinOp} {t : TypeId} {a b : ByteArray} {w : World} : (eqGuard op t x y (.string a) (.string b)).run P w = .ok () w := by
  unfold eqGuard; cases op <;> simp [Result.andThen]
theorem e_eqStr {a b : ByteArray} {t t2 : TypeId} (hx : OpV g f x (.string a)) (hy : OpV g f y (.string b)) : EvG g c w0 L f (.binOp .eql t x y t2) ty (.bool (a.toList == b.toList)) := fun e _ _ _ _ w _ => by
  simp [execOp, hx e, hy e, eqg_str, binOp, Op.stringOp, Result.andThen]
theorem e_neStr {a b : ByteArray} {t t2 : TypeId} (hx : OpV g f x (.string a)) (hy : OpV g f y (.string b)) : EvG g c w0 L f (.binOp .neq t x y t2) ty (.bool (!(a.toList == b.toList))) := fun e _ _ _ _ w _ => by
  simp [execOp, hx e, hy e, eqg_str, binOp, Op.stringOp, Result.andThen]
theorem e_cat {a b : ByteArray} {t t2 : TypeId} (hx : OpV g f x (.string a)) (hy : OpV g f y (.string b)) (hs : g = true → a.size + b.size ≤ 9223372036854775807) : EvG g c w0 L f (.binOp .add t x y t2) ty (.string (a ++ b)) := fun e _ _ _ _ w _ => by
  have h := hs e
  have h2 : ¬ ((a.size + b.size : Nat) : Int) > IntKind.i64.max := by
    have : IntKind.i64.max = 9223372036854775807 := by decide
    rw [this]; omega
  have hr : (binOp .add t (.string a) (.string b)).run c.P w = .ok (.string (a ++ b)) w := by
    simp only [binOp, Op.stringOp, h2, if_false]; rfl
  simp [execOp, hx e, hy e, eqg_str, hr, Result.andThen]
theorem e_mkI {t : TypeId} {d : TypeDesc} (hd : c.P.underlying t = some d) (hn : ∀ ms, d ≠ .interface ms) (hx : OpV g f x v) : EvG g c w0 L f (.makeInterface t x) ty (.iface t v) := fun e _ _ _ _ w _ => by
  have : (Instr.makeInterface t v).run c.P w = .ok (.iface t v) w := by
    unfold Instr.makeInterface
    simp only [Sem.run_bind, run_underlying hd, Result.andThen_ok]
    cases d <;> first | rfl | exact absurd rfl (hn _)
  simp [execOp, hx e, this, Result.andThen]
theorem e_asI {t u : TypeId} {d : TypeDesc} (hd : c.P.underlying t = some d) (hn : ∀ ms, d ≠ .interface ms) (hx : OpV g f x (.iface t v)) : EvG g c w0 L f (.typeAssert x u t true) ty (.tuple #[v, .bool true]) := fun e _ _ _ _ w _ => by
  have : (Instr.typeAssert (.iface t v) u t true).run c.P w = .ok (.tuple #[v, .bool true]) w := by
    unfold Instr.typeAssert
    simp only [Sem.run_bind, run_underlying hd, Result.andThen_ok]
    cases d <;> first | (simp; done) | exact absurd rfl (hn _)
  simp [execOp, hx e, this, Result.andThen]
theorem e_neNilI0 {t t2 : TypeId} {ms : Array (String × TypeId)} (hd : c.P.underlying t = some (.interface ms)) (hx : OpV g f x .nilIface) : EvG g c w0 L f (.binOp .neq t x (.const .nilIface) t2) ty (.bool false) := fun e _ _ _ _ w _ => by
  have hq : ∀ d, (Op.equalIn (d + 1) t .nilIface .nilIface).run c.P w = .ok true w := fun d => by simp [Op.equalIn, run_underlying hd]
  have hq : (Op.equal t .nilIface .nilIface).run c.P w = .ok true w := hq 9999
  simp [execOp, hx e, ev_const, eqGuard, binOp, hq, Result.andThen]
theorem e_neNilI1 {t t2 q : TypeId} {ms : Array (String × TypeId)} (hd : c.P.underlying t = some (.interface ms)) (hx : OpV g f x (.iface q v)) : EvG g c w0 L f (.binOp .neq t x (.const .nilIface) t2) ty (.bool true) := fun e _ _ _ _ w _ => by
  have hq : ∀ d, (Op.equalIn (d + 1) t (.iface q v) .nilIface).run c.P w = .ok false w := fun d => by simp [Op.equalIn, run_underlying hd]
  have hq : (Op.equal t (.iface q v) .nilIface).run c.P w = .ok false w := hq 9999
  simp [execOp, hx e, ev_const, eqGuard, binOp, hq, Result.andThen]
theorem e_lenStr {t : TypeId} {s : ByteArray} (ht : c.P.underlying t = some .string) (hx : OpV g f x (.string s)) : EvG g c w0 L f (.call ⟨.builtin .len, #[x], #[t]⟩) ty (.int .i64 s.size) := fun e _ _ _ _ w _ => by
  simp [execOp, resolve, invoke, builtin, hx e, Builtin.len_, run_underlying ht, Result.andThen, goInt]
end
end Go.Proofs.E

/-
  Calls of which it is not known how much they drew: the base is taken as one that has drawn nothing.
-/
namespace Go.Proofs.E
open Go Go.RowKit

abbrev Blw (w w' : World) : Prop := Below w.heap.size w w'
/-- the world, its draws forgotten -/
def und0 (w : World) : World := { w with drawn := 0 }
theorem Mem.und {w0 w : World} {L : List Item} (h : Mem w0 L w) (h0 : w0.drawn = 0) : Mem w0 L (und0 w) :=
  ⟨⟨⟨h.1.os, h.1.tape, h.1.output, h.1.size, h.1.block⟩, by rw [h0]; exact Nat.zero_le _⟩, fun it hi => it.st w _ (fun _ _ => rfl) (h.2.1 it hi), h.2.2.1, h.2.2.2⟩
theorem Mem.call0 {w0 w w' : World} {L : List Item} (h : Mem w0 L w) (h0 : w0.drawn = 0) (hb : Blw w w') : Mem w0 L w' :=
  (h.und h0).call (w := und0 w) ⟨⟨hb.os, hb.tape, hb.output, hb.size, hb.block⟩, Nat.zero_le _⟩
theorem Mem.callNew0 {w0 w w' : World} {L L' : List Item} (h : Mem w0 L w) (h0 : w0.drawn = 0) (hc : Mem (und0 w) L' w') : Mem w0 (L' ++ L) w' := (h.und h0).callNew (w := und0 w) hc
theorem Mem.start0 (w : World) : Mem (und0 w) [] w := ⟨⟨⟨rfl, rfl, rfl, Nat.le_refl _, fun _ _ => rfl⟩, Nat.zero_le _⟩, by simp, by simp, .nil⟩
theorem blw_of {w w' : World} {L : List Item} (h : Mem (und0 w) L w') : Blw w w' := ⟨h.1.os, h.1.tape, h.1.output, h.1.size, h.1.block⟩
theorem Bel.blw {w w' : World} (h : Bel w w') : Blw w w' := h.toBelow
section
variable {c : Cx} {PQ : PJ} {w0 : World} {L : List Item} {f : Fr} {ops rest : List Oper} {op : Op} {k : FuncId} {args : Array Value} {ty : TypeId} {pos : String} {af : Array Edge}
theorem xC0 {d : Nat} {v : Value} (h0 : w0.drawn = 0) (hen : EnterG true c w0 L f op ty k args) (hc : ∀ w, Mem w0 L w → Calls c.P k args w fun e w' => e = .returned v ∧ Blw w w') (hnd : isDefer op = false) (hd : Nat.blt d c.N = true) (next : XL false c ops rest PQ w0 L (upd f d v)) :
    XL false c ops (⟨some d, op, ty, pos, af, none⟩ :: rest) PQ w0 L f := by
  intro a w ha hw
  show if _ then _ else _
  rw [if_pos (by rfl)]
  refine ⟨fun _ _ => trivial, ?_⟩
  rw [Oper.semAt_eq _ _ _ (not_defer hnd), ha.eval, hen rfl _ _ _ _ w hw]
  refine ⟨fun h => by simp [FW] at h, (callsIn_FW ((hc w hw).mono ?_))⟩
  rintro e w' ⟨rfl, hb⟩
  exact next _ _ (ha.put hd v) (hw.call0 h0 hb)
theorem xCg0 {d : Nat} {v : Value} {gu : Option (Nat × Bool)} {g : Bool} (h0 : w0.drawn = 0) (hg : Gd f gu (ops.map (·.dst)) g) (hen : EnterG g c w0 L f op ty k args) (hc : g = true → ∀ w, Mem w0 L w → Calls c.P k args w fun e w' => e = .returned v ∧ Blw w w') (hnd : isDefer op = false) (hd : Nat.blt d c.N = true) (next : XL false c ops rest PQ w0 L (upd f d (gv g v))) :
    XL false c ops (⟨some d, op, ty, pos, af, gu⟩ :: rest) PQ w0 L f := by
  intro a w ha hw
  show if _ then _ else _
  rw [wanted_fr ha]
  show if gd f gu _ = true then _ else _
  rw [show gd f gu (ops.map (·.dst)) = g from hg]
  cases g with
  | false =>
    rw [gv_false] at next
    exact ⟨fun _ _ => trivial, next _ _ (ha.put hd undef) hw⟩
  | true =>
    rw [gv_true] at next
    rw [if_pos rfl]
    refine ⟨fun _ _ => trivial, ?_⟩
    rw [Oper.semAt_eq _ _ _ (not_defer hnd), ha.eval, hen rfl _ _ _ _ w hw]
    refine ⟨fun h => by simp [FW] at h, (callsIn_FW ((hc rfl w hw).mono ?_))⟩
    rintro e w' ⟨rfl, hb⟩
    exact next _ _ (ha.put hd v) (hw.call0 h0 hb)
theorem xCF0 {d j e : Nat} {b : Bool} {v : Value} (h0 : w0.drawn = 0) (hen : EnterG (!b) c w0 L f op ty k args) (hc : (!b) = true → ∀ w, Mem w0 L w → Calls c.P k args w fun e w' => e = .returned v ∧ Blw w w') (hj : (ops.map (·.dst))[j]? = some (some e)) (hx : f e = .bool b) (hnd : isDefer op = false) (hd : Nat.blt d c.N = true) (next : XL false c ops rest PQ w0 L (upd f d (gv (!b) v))) :
    XL false c ops (⟨some d, op, ty, pos, af, some (j, false)⟩ :: rest) PQ w0 L f := xCg0 h0 (Gd_false hj hx) hen hc hnd hd next
theorem xCX0 {α : Type} {val : α → Value} {Lx : α → List Item} {d : Nat} (h0 : w0.drawn = 0) (hen : EnterG true c w0 L f op ty k args) (hc : ∀ w, Mem w0 L w → Calls c.P k args w fun e w' => ∃ x : α, e = .returned (val x) ∧ Mem (und0 w) (Lx x) w') (hd : Nat.blt d c.N = true) (hmk : ∀ x, marks (Lx x) = []) (next : ∀ x, XL false c ops rest PQ w0 (Lx x ++ L) (upd f d (val x))) (hnd : isDefer op = false := by rfl) :
    XL false c ops (⟨some d, op, ty, pos, af, none⟩ :: rest) PQ w0 L f := by
  intro a w ha hw
  show if _ then _ else _
  rw [if_pos (by rfl)]
  refine ⟨fun _ _ => trivial, ?_⟩
  rw [Oper.semAt_eq _ _ _ (not_defer hnd), ha.eval, hen rfl _ _ _ _ w hw]
  refine ⟨fun h => by simp [FW] at h, (callsIn_FW ((hc w hw).mono ?_))⟩
  rintro e w' ⟨x, rfl, hm⟩
  exact next x _ _ (by rw [marks_append, hmk x, List.nil_append]; exact ha.put hd _) (hw.callNew0 h0 hm)
theorem X_callP0 {dst : Option Nat} {ch : List PanicEntry} (h0 : w0.drawn = 0) (hen : EnterG true c w0 L f op ty k args)
    (hc : ∀ w, Mem w0 L w → Calls c.P k args w fun e w' => e = .panicked ch ∧ Blw w w') (h : PQ (.panic ch) w0 L f) (hnd : isDefer op = false := by rfl) :
    XL false c ops (⟨dst, op, ty, pos, af, none⟩ :: rest) PQ w0 L f := by
  intro a w ha hw
  show if _ then _ else _
  rw [if_pos (by rfl)]
  refine ⟨fun _ _ => trivial, ?_⟩
  rw [Oper.semAt_eq _ _ _ (not_defer hnd), ha.eval, hen rfl _ _ _ _ w hw]
  refine ⟨fun h => by simp [FW] at h, (callsIn_FW ((hc w hw).mono ?_))⟩
  rintro e w' ⟨rfl, hb⟩
  exact ⟨w0, L, f, ha, hw.call0 h0 hb, h⟩
end
theorem H_enterP0 {P : Program} {k : FuncId} {fn : Func} {code : Code} {l : List Value} {w : World} {R : Ending → World → Prop} {N : Nat} (hf : P.funcs[k]? = some fn) (hb : fn.body = some code) (hN : fn.ntmps = N) (hl : Nat.ble l.length N = true)
    (h : H ⟨P, none, N⟩ code (retP ⟨P, none, N⟩ fn R) (und0 w) [] (frOf l)) : Calls P k l.toArray w R := by
  have hl' : l.length ≤ N := Nat.le_of_ble_eq_true hl
  refine calls_FW (n := 0) (callsIn_of_wp_marks hf hb trivial (wpIn_mono (h _ w ⟨?_, ?_, rfl⟩ (Mem.start0 w)) ?_) rfl)
  · simp [hN]; omega
  · intro i
    simp only [Array.getD_eq_getD_getElem?, frOf, List.getD_eq_getElem?_getD]
    rw [Array.getElem?_append]
    split
    · simp
    · rename_i hi
      have : l[i]? = none := List.getElem?_eq_none (by simpa using hi)
      rw [this]
      simp only [Array.getElem?_replicate]
      split <;> rfl
  · rintro e a w' ⟨u', L', f', k1, k2, k3⟩
    cases e with
    | normal => have := k3 w' a k2 k1; rw [← k1.defers] at this; exact this
    | ret => have := k3 w' a k2 k1; rw [← k1.defers] at this; exact this
    | panic ch => have := k3 w' a k2 k1; rw [← k1.defers] at this; exact this
    | exit i => exact k3.elim
    | goto l => exact k3.elim
    | outgrown => exact k3.elim
end Go.Proofs.E

/-
  Leaving with one deferred call; two results in boxes.
-/
namespace Go.Proofs.E
open Go Go.RowKit
section
variable {c : Cx} {fn : Func} {R : Ending → World → Prop} {w0 : World} {L1 L2 : List Item} {f : Fr} {v : Value} {k : FuncId} {cap args all : Array Value}
theorem leave_of {u : FrameMode} (hk : marks L1 = []) (hu : u ≠ .run) (hi : ∀ w, (invoke (.fn (.func k) cap) args).run c.P w = .ok (.enter k all) w)
    (hc : ∀ w, Mem w0 L1 w → CallsDIn (FW none) 0 c.P k all u w fun e u' w' => (∃ v, e = .returned v) ∧ settle u' = .returning ∧ Mem w0 L2 w')
    (hr : ResIs c.P c.N fn w0 L2 f v) (h : ∀ w, Mem w0 L2 w → R (.returned v) w) (w : World) (a : Act) (hw : Mem w0 (dcall { target := .fn (.func k) cap, args := args } :: L1) w) (ha : IsFr c.N (marks (dcall { target := .fn (.func k) cap, args := args } :: L1)) a f) :
    LeavesInM (FW none) 0 c.P fn a.tmps R (marks (dcall { target := .fn (.func k) cap, args := args } :: L1)) u w := by
  have hm : marks (dcall { target := .fn (.func k) cap, args := args } :: L1) = [{ target := .fn (.func k) cap, args := args }] := by rw [marks_cons, hk]; rfl
  rw [hm]
  refine leave_d hu (hi w) ((hc w hw.tail).mono ?_)
  rintro e u' w' ⟨⟨x, rfl⟩, hs, hw'⟩
  refine ⟨x, rfl, ?_⟩
  rw [hs]
  exact ⟨v, hr w' _ a hw' ha, h w' hw'⟩
theorem retP_d (hk : marks L1 = []) (hi : ∀ w, (invoke (.fn (.func k) cap) args).run c.P w = .ok (.enter k all) w)
    (hc : ∀ w, Mem w0 L1 w → CallsDIn (FW none) 0 c.P k all .returning w fun e u' w' => (∃ v, e = .returned v) ∧ settle u' = .returning ∧ Mem w0 L2 w')
    (hr : ResIs c.P c.N fn w0 L2 f v) (h : ∀ w, Mem w0 L2 w → R (.returned v) w) : retP c fn R .ret w0 (dcall { target := .fn (.func k) cap, args := args } :: L1) f :=
  leave_of hk (by intro h; cases h) hi hc hr h
theorem panP_d {ch : List PanicEntry} (hk : marks L1 = []) (hi : ∀ w, (invoke (.fn (.func k) cap) args).run c.P w = .ok (.enter k all) w)
    (hc : ∀ w, Mem w0 L1 w → CallsDIn (FW none) 0 c.P k all (.panicking ch) w fun e u' w' => (∃ v, e = .returned v) ∧ settle u' = .returning ∧ Mem w0 L2 w')
    (hr : ResIs c.P c.N fn w0 L2 f v) (h : ∀ w, Mem w0 L2 w → R (.returned v) w) : retP c fn R (.panic ch) w0 (dcall { target := .fn (.func k) cap, args := args } :: L1) f :=
  leave_of hk (by intro h; cases h) hi hc hr h
end
theorem f_defer {c : Cx} {f : Fr} {k : FuncId} {ao : Array Operand} {ts : Array TypeId} {al : List Value} {ty : TypeId} {pos : String} {af : Array Edge} (ha : ao.toList.map (ev f) = al) (w : World) : (execOp (ev f) ⟨none, .defer { callee := .value (.func k), args := ao, argTypes := ts }, ty, pos, af, none⟩).run c.P w = .ok (.defer { target := .fn (.func k) #[], args := al.toArray }) w := by
  have ha : ao.map (ev f) = al.toArray := by rw [map_ev, ha]
  simp [execOp, resolve, ev_func, Deferred.ofValue, ha, Result.andThen]
theorem resC1 {c : Cx} {fn : Func} {w0 : World} {L : List Item} {f : Fr} (i j : Nat) {a a2 b b2 : Nat} {t t2 tb tb2 : TypeId} {x y : Value} (hr : fn.results = #[.cell a t, .cell a2 t2]) (hv : f a = .pointer (some ⟨b, 0, none⟩)) (hv2 : f a2 = .pointer (some ⟨b2, 0, none⟩)) (ht : ∀ w, (isAgg t).run c.P w = .ok false w) (ht2 : ∀ w, (isAgg t2).run c.P w = .ok false w)
    (hk : L[i]? = some (box b tb [y])) (hk2 : L[j]? = some (box b2 tb2 [x])) : ResIs c.P c.N fn w0 L f (.tuple #[y, x]) := fun w ds ac hw ha => by
  have h1 := ha.get a
  rw [hv, Array.getD_eq_getD_getElem?] at h1
  have h2 := ha.get a2
  rw [hv2, Array.getD_eq_getD_getElem?] at h2
  have h3 : w.cell? ⟨b2, 0, none⟩ = some x := box_cell hw hk2 (i := 0) rfl
  have h4 : w.cell? ⟨b, 0, none⟩ = some y := box_cell hw hk (i := 0) rfl
  simp [results, hr, h1, h2, asAddr, loadVar, ht, ht2, h3, h4, Result.andThen]
theorem resCC {c : Cx} {fn : Func} {w0 : World} {L : List Item} {f : Fr} (i j : Nat) {a a2 n b b2 : Nat} {t t2 tb tb2 : TypeId} {cs : List Value} {x : Value} (hr : fn.results = #[.cell a t, .cell a2 t2]) (hv : f a = .pointer (some ⟨b, 0, none⟩)) (hv2 : f a2 = .pointer (some ⟨b2, 0, none⟩)) (ht : ∀ w, (isAgg t).run c.P w = .ok true w) (hs : ∀ w, (sizeOf t).run c.P w = .ok n w) (ht2 : ∀ w, (isAgg t2).run c.P w = .ok false w)
    (hk : L[i]? = some (box b tb cs)) (hl : cs.length = n) (hk2 : L[j]? = some (box b2 tb2 [x])) : ResIs c.P c.N fn w0 L f (.tuple #[.agg cs.toArray, x]) := fun w ds ac hw ha => by
  have h1 := ha.get a
  rw [hv, Array.getD_eq_getD_getElem?] at h1
  have h2 := ha.get a2
  rw [hv2, Array.getD_eq_getD_getElem?] at h2
  have := run_loadCellsFrom (P := c.P) (w := w) (b := b) (o := 0) n 0 #[] cs hl (fun j u hu => by simpa using box_cell hw hk hu)
  have h3 : w.cell? ⟨b2, 0, none⟩ = some x := box_cell hw hk2 (i := 0) rfl
  simp [results, hr, h1, h2, asAddr, loadVar, ht, ht2, hs, loadCells, this, h3, Result.andThen]
end Go.Proofs.E

/-
  Regions that draw their order, in which a call may panic; calls of unknown draws among them.
-/
namespace Go.Proofs.E
open Go Go.RowKit
section
variable {c : Cx} {PQ : PJ} {w0 : World} {L : List Item} {f : Fr} {ops : List Oper}
/-- an operation that enters a call that panics -/
structure EffP (c : Cx) (PQ : PJ) (w0 : World) (L : List Item) (f : Fr) (o : Oper) : Prop where
  guard : o.guard = none
  nd : isDefer o.op = false
  run : ∀ w, Mem w0 L w → ∃ k args ch, (execOp (ev f) o).run c.P w = .ok (.enter k args) w ∧ PQ (.panic ch) w0 L f ∧ Calls c.P k args w fun e w'' => e = .panicked ch ∧ Mem w0 L w''
theorem EffP.wp {o : Oper} {i : Nat} {K : Act → World → Prop} (hi : ops.toArray[i]? = some o) (h : EffP c PQ w0 L f o) {a : Act} {w : World} (ha : IsFr c.N (marks L) a f) (hw : Mem w0 L w) : wpOpIn (FW c.ro) 0 c.P ops.toArray (lift c PQ) i K a w := by
  unfold Go.wpOpIn
  rw [hi]
  show if _ then _ else _
  rw [if_pos (by simp [Region.wanted, h.guard])]
  obtain ⟨k, args, ch, h1, h2, h3⟩ := h.run w hw
  refine ⟨fun _ _ => trivial, ?_⟩
  rw [Oper.semAt_eq _ _ _ (not_defer h.nd), ha.eval, h1]
  refine ⟨fun h => by simp [FW] at h, (callsIn_FW (h3.mono ?_))⟩
  rintro e w' ⟨rfl, hm⟩
  exact ⟨w0, L, f, ha, hm, h2⟩
theorem inv_allX (J : (Nat → Prop) → List Item → Fr → Prop) (hE : edgesDown ops = true) (hnd : ∀ (j : Nat) (o : Oper), ops.toArray[j]? = some o → ∀ x, o.op ≠ .defer x)
    (hs : ∀ S L f i o, J S L f → ops[i]? = some o → ¬S i → (∀ e ∈ o.after, Region.binds .any e = true → S e.on) → (Eff c w0 L f o fun L' f' => J (fun j => S j ∨ j = i) L' f') ∨ EffP c PQ w0 L f o)
    (hq : ∀ S L f a w, (∀ j, j < ops.length → S j) → J S L f → IsFr c.N (marks L) a f → Mem w0 L w → lift c PQ .normal a w) :
    ∀ (fuel : Nat) (l : Array Bool) (L : List Item) (f : Fr) (a : Act) (w : World), l.size = ops.length → l.toList.count false ≤ fuel → J (Lis l) L f → IsFr c.N (marks L) a f → Mem w0 L w → wpAnyIn (FW c.ro) 0 c.P .any ops.toArray (lift c PQ) fuel l a w
  | 0, l, L, f, a, w, hl, hc, hJ, ha, hw => by
    have hall : ∀ j, j < ops.length → Lis l j := fun j hj => lis_all hc (by rw [hl]; exact hj)
    refine ⟨List.eq_nil_iff_forall_not_mem.2 fun i hi => ?_, hq _ L f a w hall hJ ha hw⟩
    obtain ⟨hu, o, ho, _⟩ := mem_ready.1 hi
    have hil : i < ops.length := by
      have ho : ops[i]? = some o := by simpa using ho
      exact (List.getElem?_eq_some_iff.1 ho).1
    exact (lis_no (by rw [hl]; exact hil)).1 hu (hall i hil)
  | fuel + 1, l, L, f, a, w, hl, hc, hJ, ha, hw => by
    refine ⟨fun hr => hq _ L f a w (fun j => ?_) hJ ha hw, fun i hi => ?_⟩
    · induction j using Nat.strongRecOn with
      | _ j ih =>
        intro hj
        refine Classical.byContradiction fun hn => ?_
        have ho : ops[j]? = some ops[j] := List.getElem?_eq_getElem hj
        have : j ∈ Region.ready .any ops.toArray l := mem_ready.2 ⟨(lis_no (by rw [hl]; exact hj)).2 hn, ops[j], by simp [hj], fun e he hb => by
          have hlt := edgesDown_spec hE ho he hb
          exact ih e.on hlt (by omega)⟩
        rw [hr] at this; cases this
    · obtain ⟨hu, o, ho, he⟩ := mem_ready.1 hi
      have ho : ops[i]? = some o := by simpa using ho
      have hil : i < ops.length := (List.getElem?_eq_some_iff.1 ho).1
      have hils : i < l.size := by rw [hl]; exact hil
      have hns := (lis_no hils).1 hu
      rcases hs _ L f i o hJ ho hns he with hef | hef
      case inr => exact hef.wp (by simpa using ho) ha hw
      refine OpA.wpOpIn hnd hw (fun L' a' w' hw' h3 => ?_) (hef.opA ho ha)
      obtain ⟨f', ha', hJ'⟩ := h3
      exact inv_allX J hE hnd hs hq fuel (l.setIfInBounds i true) L' f' a' w' (by simpa using hl) (lis_count hils hns hc) (by rw [lis_set hils]; exact hJ') ha' hw'
theorem H_invX (J : (Nat → Prop) → List Item → Fr → Prop) {id : Nat} (hm : c.P.follows .mixedOrders = true) (hB : (edgesDown ops && ops.all (fun o => !isDefer o.op)) = true) (h0 : ∀ S : Nat → Prop, (∀ j, ¬S j) → J S L f)
    (hs : ∀ S L f i o, J S L f → ops[i]? = some o → ¬S i → (∀ e ∈ o.after, Region.binds .any e = true → S e.on) → (Eff c w0 L f o fun L' f' => J (fun j => S j ∨ j = i) L' f') ∨ EffP c PQ w0 L f o)
    (hq : ∀ S L f, (∀ j, j < ops.length → S j) → J S L f → PQ .normal w0 L f) : H c (.region id ops.toArray true) PQ w0 L f := by
  intro a w ha hw
  rw [Bool.and_eq_true] at hB
  have hnd : ∀ (j : Nat) (o : Oper), ops.toArray[j]? = some o → ∀ x, o.op ≠ .defer x := fun j o hj => not_defer (by
    have hmem : o ∈ ops := List.mem_of_getElem? (by simpa using hj)
    simpa using List.all_eq_true.1 hB.2 o hmem)
  refine wpIn_region_any hm ?_
  exact inv_allX J hB.1 hnd hs (fun S L f a w hS hJ ha hw => ⟨w0, L, f, ha, hw, hq S L f hS hJ⟩) _ _ L f a _ (by simp) (by simp) (h0 _ fun j => lis_none) ha hw.drew
/-- what is known: M of the memory, P d of the value in the slot d -/
theorem H_invPX {f0 : Fr} (W : List Nat) (P : Nat → Value → Prop) (M : (Nat → Prop) → List Item → Prop) {id : Nat} (hm : c.P.follows .mixedOrders = true) (hB : (dstsOk ops W && (edgesDown ops && ops.all (fun o => !isDefer o.op))) = true)
    (h0 : ∀ S : Nat → Prop, (∀ j, ¬S j) → M S L)
    (hs : ∀ (S : Nat → Prop) L f i o, Agree W f f0 → (∀ j o' d, ops[j]? = some o' → S j → o'.dst = some d → P d (f d)) → M S L → ops[i]? = some o → ¬S i → (∀ k, awaits ops i k = true → S k) → (∀ j k, awaits ops j k = true → S j → S k) →
      (Eff c w0 L f o fun L' f' => M (fun j => S j ∨ j = i) L' ∧ ∃ v, f' = putF f o.dst v ∧ ∀ d, o.dst = some d → P d v) ∨ EffP c PQ w0 L f o)
    (hq : ∀ (S : Nat → Prop) L f, (∀ j, j < ops.length → S j) → Agree W f f0 → (∀ j o' d, ops[j]? = some o' → S j → o'.dst = some d → P d (f d)) → M S L → PQ .normal w0 L f) : H c (.region id ops.toArray true) PQ w0 L f0 := by
  rw [Bool.and_eq_true] at hB
  refine H_invX (fun S L f => Agree W f f0 ∧ (∀ j o' d, ops[j]? = some o' → S j → o'.dst = some d → P d (f d)) ∧ M S L ∧ (∀ j k, awaits ops j k = true → S j → S k)) hm hB.2 (fun S h => ⟨agree_self, fun j _ _ _ hj => absurd hj (h j), h0 S h, fun j _ _ hj => absurd hj (h j)⟩) ?_ (fun S L f hS h => hq S L f hS h.1 h.2.1 h.2.2.1)
  intro S L f i o h ho hns hdep
  obtain ⟨hA, hF, hM, hC⟩ := h
  have hw : ∀ k, awaits ops i k = true → S k := fun k hk => by
    obtain ⟨e, he, hb, rfl⟩ := awaits_spec hk ho
    exact hdep e he hb
  rcases hs S L f i o hA hF hM ho hns hw hC with ⟨h1, h2, h3, h4⟩ | hp
  case inr => exact .inr hp
  refine .inl ⟨h1, h2, h3, fun w hw2 => ?_⟩
  have h5 := h4 w hw2
  have key : ∀ L' f', (M (fun j => S j ∨ j = i) L' ∧ ∃ v, f' = putF f o.dst v ∧ ∀ d, o.dst = some d → P d v) → (Agree W f' f0 ∧ (∀ j o' d, ops[j]? = some o' → (S j ∨ j = i) → o'.dst = some d → P d (f' d)) ∧ M (fun j => S j ∨ j = i) L' ∧ (∀ j k, awaits ops j k = true → (S j ∨ j = i) → (S k ∨ k = i))) := by
    rintro L' f' ⟨hM', v, rfl, hP⟩
    refine ⟨?_, ?_, hM', ?_⟩
    · cases hd : o.dst with
      | none => exact hA
      | some d => exact agree_upd (dstsOk_in hB.1 ho hd) hA
    · intro j o' d' hj hS hd'
      by_cases hji : j = i
      · subst hji
        rw [ho] at hj; cases hj
        rw [hd']
        show P d' (upd f d' v d')
        rw [show upd f d' v d' = v by simp [upd]]
        exact hP d' hd'
      · have h6 := hF j o' d' hj (hS.resolve_right hji) hd'
        cases hd : o.dst with
        | none => exact h6
        | some d =>
          have hne := dstsOk_ne hB.1 hj ho hd' hd hji
          show P d' (upd f d v d')
          rw [show upd f d v d' = f d' by
            have : Nat.beq d' d = false := by cases hb : Nat.beq d' d with
              | false => rfl
              | true => exact absurd (Nat.eq_of_beq_eq_true hb) hne
            simp [upd, this]]
          exact h6
    · intro j k hjk hS
      rcases hS with hS | rfl
      · exact .inl (hC j k hjk hS)
      · exact .inl (hw k hjk)
  unfold EffR at h5 ⊢
  split at h5
  · obtain ⟨L', a1, a2, a3⟩ := h5; exact ⟨L', a1, a2, key _ _ a3⟩
  · obtain ⟨L', a1, a2, a3⟩ := h5; exact ⟨L', a1, a2, key _ _ a3⟩
  · exact ⟨h5.1, h5.2.mono fun e w'' ⟨v, L', b1, b2, b3, b4⟩ => ⟨v, L', b1, b2, b3, key _ _ b4⟩⟩
  · exact h5.elim
end
section
variable {c : Cx} {PQ : PJ} {w0 : World} {L : List Item} {f : Fr} {K : List Item → Fr → Prop} {d : Nat} {ty : TypeId} {pos : String} {af : Array Edge} {op : Op} {k : FuncId} {args : Array Value}
theorem f_call0 {v : Value} (h0 : w0.drawn = 0) (hen : EnterG true c w0 L f op ty k args) (hc : ∀ w, Mem w0 L w → Calls c.P k args w fun e w' => e = .returned v ∧ Blw w w') (hd : Nat.blt d c.N = true) (next : K L (upd f d v)) (hnd : isDefer op = false := by rfl) : Eff c w0 L f ⟨some d, op, ty, pos, af, none⟩ K :=
  ⟨rfl, hnd, hd, fun w hw => by
    rw [hen rfl _ _ _ _ w hw]
    refine ⟨rfl, (hc w hw).mono ?_⟩
    rintro e w' ⟨rfl, hb⟩
    exact ⟨_, _, rfl, hw.call0 h0 hb, rfl, next⟩⟩
theorem f_callP0 {dst : Option Nat} {ch : List PanicEntry} (h0 : w0.drawn = 0) (hen : EnterG true c w0 L f op ty k args) (hc : ∀ w, Mem w0 L w → Calls c.P k args w fun e w' => e = .panicked ch ∧ Blw w w') (h : PQ (.panic ch) w0 L f) (hnd : isDefer op = false := by rfl) : EffP c PQ w0 L f ⟨dst, op, ty, pos, af, none⟩ :=
  ⟨rfl, hnd, fun w hw => ⟨k, args, ch, hen rfl _ _ _ _ w hw, h, (hc w hw).mono fun e w' ⟨e1, hb⟩ => ⟨e1, hw.call0 h0 hb⟩⟩⟩
end
end Go.Proofs.E
