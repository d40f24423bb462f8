import Derived.Test.YtcpihdljjckecaaGreatDoorRows
import Derived.ProofKit
import Derived.Carry
import Derived.Below
import Derived.ChangeSame
import Derived.Deep.Slices
import Derived.Test.YtcpihdljjckecaaGreatDoorConEa
import Derived.Test.YtcpihdljjckecaaGreatDoorTLa
import Derived.Test.YtcpihdljjckecaaGreatDoorTLb
import Derived.Test.YtcpihdljjckecaaGreatDoorConA
import Derived.Stop.LaidErr
import Derived.Lib.LaidTab
import Derived.MakeChecks
import Derived.Handed
import Derived.LaidLaws
import Derived.LaidMore
import Derived.Lay
import Derived.SevenTiedAt
import Derived.OpenShut
set_option linter.unusedVariables false
set_option linter.unusedSimpArgs false
/-
  From a walk to the row: the arguments' readings; what the call hands back.
-/
namespace Go.Proofs.E
open Go Go.RowKit Go.ChangeShapes Go.WideShapes Go.ChangeAt

section
variable {H : Type} {enc : TypeId × Value → H} {P : Program}

theorem trodAll_lt {W : World} {sp : Nat → Bool} : ∀ {ts : List TypeId} {vs : List Value} {ds : List (DataW H)} {ps : List MemPlace} {W' : World}, laidOutB P = true → (ts.all fun t => P.readableRec t && decide (t < P.types.size)) = true →
    DataW.TrodAll enc P W 0 (fun _ => true) true ts vs ds ps → (∀ p ∈ ps, W.sameAt W' p) → (∀ p ∈ ps, sp p.block = true) → DataW.TrodAll enc P W' 0 sp true ts vs ds ps
  | [], [], [], _, _, _, _, h, _, _ => h
  | t :: ts, v :: vs, d :: ds, ps, W', hl, hr, ⟨p, q, h1, h2, e⟩, hs, hp => by
    subst e
    simp only [List.all_cons, Bool.and_eq_true, decide_eq_true_eq] at hr
    exact ⟨p, q, WideElems.Trod_stays hl hr.1.1 hr.1.2 h1 (fun x hx => hs x (List.mem_append_left _ hx)) (fun x hx => hp x (List.mem_append_left _ hx)), trodAll_lt hl (by simpa using hr.2) h2 (fun x hx => hs x (List.mem_append_right _ hx)) (fun x hx => hp x (List.mem_append_right _ hx)), rfl⟩
  | [], _ :: _, _, _, _, _, _, h, _, _ => by simp [DataW.TrodAll] at h
  | [], [], _ :: _, _, _, _, _, h, _, _ => by simp [DataW.TrodAll] at h
  | _ :: _, [], _, _, _, _, _, h, _, _ => by simp [DataW.TrodAll] at h
  | _ :: _, _ :: _, [], _, _, _, _, h, _, _ => by simp [DataW.TrodAll] at h

theorem trodAll_len {W : World} {b : Nat} {sp : Nat → Bool} {hd : Bool} : ∀ {ts : List TypeId} {vs : List Value} {ds : List (DataW H)} {ps : List MemPlace}, DataW.TrodAll enc P W b sp hd ts vs ds ps → ds.length = ts.length ∧ vs.length = ts.length
  | [], [], [], _, _ => ⟨rfl, rfl⟩
  | _ :: _, _ :: _, _ :: _, _, ⟨_, _, _, h2, _⟩ => by have := trodAll_len h2; simp; omega
  | [], _ :: _, _, _, h => by simp [DataW.TrodAll] at h
  | [], [], _ :: _, _, h => by simp [DataW.TrodAll] at h
  | _ :: _, [], _, _, h => by simp [DataW.TrodAll] at h
  | _ :: _, _ :: _, [], _, h => by simp [DataW.TrodAll] at h

/-- the law's row: it returns true, and what came in reads as it did -/
theorem row_post0 {f : Func} {s : ChangeSpec} {tb : TypeId} {apart fresh handsOn again : Bool} {W W' : World} {args : Array Value} {ds gs : List (DataW H)} {before : List MemPlace} (hl : laidOutB P = true) (hr : (f.params.toList.all fun t => P.readableRec t && decide (t < P.types.size)) = true)
    (hrt : f.resultTypes = #[tb]) (htb : P.underlying tb = some .bool) (hv : s.vars = []) (hs : ∀ ds : List (DataW H), ds.length = f.params.toList.length → s.fn H ds = { results := [.lit (.bool true)], args := ds })
    (hW : DataW.Whole enc P f.params.toList s.vars apart W args.toList ds gs before) (hb : Below W.heap.size W W') : s.post enc P f apart fresh handsOn again W args (.bool true) W' := by
  have hlt : ∀ p ∈ before, p.block < W.heap.size := fun p hp => hW.lt p hp
  have hold : ∀ p ∈ before, (fun b => decide (b < W.heap.size)) p.block = true := fun p hp => by simpa using hlt p hp
  have hW2 := hW
  obtain ⟨p, q, hA, hV, rfl, hz, hn⟩ := hW
  rw [hv] at hV
  obtain ⟨rfl, rfl⟩ := trodVars_none hV
  have hsd := hs ds (trodAll_len hA).1
  have hres : ∀ (b : Nat) (sp : Nat → Bool) (hd : Bool), DataW.TrodAll enc P W' b sp hd f.resultTypes.toList ((Value.bool true).resultList f.resultTypes.size) (s.fn H (ds ++ [])).results [] := fun b sp hd => by
    rw [List.append_nil, hsd, hrt]
    exact trodAll_mk1 (shut_bool htb _)
  have hargs : ∀ sp : Nat → Bool, (∀ x ∈ p, sp x.block = true) → DataW.TrodAll enc P W' 0 sp true f.params.toList args.toList (s.fn H (ds ++ [])).args p := fun sp hsp => by
    rw [List.append_nil, hsd]
    exact trodAll_lt hl hr hA (fun x hx => hb.same (hlt x (by simpa using hx))) hsp
  have hvars : ∀ sp : Nat → Bool, DataW.TrodVars enc P W' sp s.vars (s.fn H (ds ++ [])).vars [] := fun sp => by
    rw [List.append_nil, hsd, hv]
    rfl
  refine ⟨ds, [], p ++ [], [], p, [], hW2, hres _ _ _, hargs _ (fun x hx => hold x (by simpa using hx)), hvars _, World.keptBut_mono (fun x hx => ⟨hx, Or.inr (by simpa using hx)⟩) (hb.frame (· ∈ p ++ [])), fun _ => ?_⟩
  refine ⟨?_, _, _, ([] ++ p) ++ [], ⟨[] ++ p, [], trodAll_append (hargs _ (fun _ _ => rfl)) (hres _ _ _), hvars _, rfl, ?_, ?_⟩, ?_⟩
  · intro j t r h1 h2
    rw [hrt] at h1 h2
    match j with
    | 0 =>
      simp at h1
      subst h1
      simp [Value.resultList] at h2
      subst h2
      exact okWide_bool_mk htb _
    | j + 1 => simp at h1
  · intro b off hp
    have hin : MemPlace.cell b off ∈ p ++ [] := by simpa using hp
    rw [hb.frozen (hlt _ hin)]
    exact hz b off hin
  · intro ha
    have := hn ha
    simpa using this
  · intro x hx _
    simpa using hx

theorem row_post {f : Func} {s : ChangeSpec} {tb : TypeId} {apart fresh handsOn again : Bool} {W W' : World} {args : Array Value} {ds gs : List (DataW H)} {before : List MemPlace} (hl : laidOutB P = true) (hr : (f.params.toList.all fun t => P.readableRec t && decide (t < P.types.size)) = true)
    (hrt : f.resultTypes = #[tb]) (htb : P.underlying tb = some .bool) (hv : s.vars = []) (hs : ∀ ds : List (DataW H), ds.length = f.params.toList.length → s.fn H ds = { results := [.lit (.bool true)], args := ds })
    (hW : DataW.Whole enc P f.params.toList s.vars apart W args.toList ds gs before) (hb : Bel W W') : s.post enc P f apart fresh handsOn again W args (.bool true) W' := row_post0 hl hr hrt htb hv hs hW hb.toBelow
/-! readings -/
theorem cell_spot {w : World} {a : Addr} {v : Value} (h : w.cell? a = some v) : a.spot = none ∧ a.block < w.heap.size := by
  unfold World.cell? at h
  constructor
  · split at h
    · split at h
      · cases h
      · rename_i h2; cases ha : a.spot with
        | none => rfl
        | some x => simp [ha] at h2
    · cases h
  · split at h
    · rename_i h2
      exact (Array.getElem?_eq_some_iff.1 h2).1
    · cases h

theorem rd_rows {W : World} {t e : TypeId} {k fuel : Nat} {sp : Nat → Bool} {held : Bool} {cs : List Value} {x : DataW H × List MemPlace} (ht : P.underlying t = some (.slice e)) (hC : P.cellsOf e = k) (hk : 0 < k)
    (h : DataW.trod enc P W 0 sp held fuel t cs = some x) :
    ∃ (A : Option Addr) (n c : Nat) (xs : List (List Value)), cs = [.slice A n c] ∧ SlAt W k id A n xs ∧ n ≤ c ∧ c ≤ maxLen ∧ ∀ x ∈ xs, x.length = k ∧ ∃ (fuel : Nat) (y : DataW H × List MemPlace), DataW.trod enc P W 0 sp held fuel e x = some y := by
  rcases Deep.open_slice ht h with ⟨rfl, _⟩ | ⟨a, len, cap, m, n, D, Pl, rfl, hb, hl, hm, hmm, hx, hi⟩
  · exact ⟨none, 0, 0, [], rfl, ⟨rfl, by decide, fun h => absurd h (by omega)⟩, by omega, by unfold maxLen; omega, fun x hx => by simp at hx⟩
  · rw [hC] at hi
    have hlm : len ≤ m := by rw [hmm]; split <;> omega
    refine ⟨some a, len, cap, (List.range len).map fun i => ((W.cells? 0 (a.add (i * k)) k).getD []), rfl, ⟨by simp, by unfold maxLen at hm; omega, fun hn => ?_⟩, hl, hm, fun x hx => ?_⟩
    · obtain ⟨cs0, hc0, _⟩ := hi 0 (by omega)
      obtain ⟨_, hl0, hat0⟩ := World.cells?_some hc0
      have h0 := hat0 0 hk
      rw [List.getElem?_eq_getElem (by omega)] at h0
      obtain ⟨hs, hblk⟩ := cell_spot h0
      refine ⟨a.block, a.off, by cases a; simp [Addr.add] at hs; simp [hs], by simpa [Addr.add] using hblk, fun i x hx => ?_⟩
      simp only [List.getElem?_map] at hx
      cases hr : (List.range len)[i]? with
      | none => rw [hr] at hx; cases hx
      | some y =>
        rw [hr] at hx
        obtain ⟨hlt, hyi⟩ := List.getElem?_eq_some_iff.1 hr
        simp at hyi hlt
        subst hyi
        obtain ⟨cs', hc, _⟩ := hi i (by omega)
        simp only [Option.map_some, Option.some.injEq] at hx
        rw [hc] at hx
        simp only [Option.getD_some] at hx
        subst hx
        obtain ⟨_, hcl, hat⟩ := World.cells?_some hc
        intro j u hu
        have hj : j < k := by have := (List.getElem?_eq_some_iff.1 hu).1; simp at this; omega
        have h2 := hat j hj
        simp only [id] at hu
        rw [hu] at h2
        have e1 : (a.add (i * k)).add j = ⟨a.block, a.off + i * k + j, none⟩ := by
          have hs : a.spot = none := by cases a; simpa [Addr.add] using hs
          rw [add_none hs, add_none rfl]
        rw [e1] at h2
        exact h2
    · simp only [List.mem_map, List.mem_range] at hx
      obtain ⟨i, hil, rfl⟩ := hx
      obtain ⟨cs', hc, ht'⟩ := hi i (by omega)
      rw [hc]
      exact ⟨(World.cells?_some hc).2.1, n, _, ht'⟩

/-- an element of a struct of one-cell fields -/
theorem rd_field {W : World} {t : TypeId} {fs : Array Field} {fuel : Nat} {sp : Nat → Bool} {held : Bool} {cs : List Value} {x : DataW H × List MemPlace} (ht : P.underlying t = some (.struct fs)) (h : DataW.trod enc P W 0 sp held fuel t cs = some x) (j : Nat) {u : TypeId} {o k : Nat} (hf : fs[j]?.map (fun f => (f.type, f.offset)) = some (u, o)) (hk : P.cellsOf u = k) :
    ∃ (n : Nat) (y : DataW H × List MemPlace), DataW.trod enc P W 0 sp held n u ((cs.drop o).take k) = some y := by
  obtain ⟨ys, n', hn', hy, hlen, hyl, hg⟩ := DataW.trod_struct ht h
  cases hf' : fs[j]? with
  | none => rw [hf'] at hf; cases hf
  | some f =>
    rw [hf'] at hf
    simp only [Option.map_some, Option.some.injEq, Prod.mk.injEq] at hf
    obtain ⟨rfl, rfl⟩ := hf
    have hj : j < fs.size := (Array.getElem?_eq_some_iff.1 hf').1
    have h2 := hg j f hf'
    rw [List.getElem?_eq_getElem (by omega), hk] at h2
    exact ⟨n', _, h2⟩
theorem rd_int {W : World} {t : TypeId} {k : IntKind} {fuel : Nat} {sp : Nat → Bool} {held : Bool} {cs : List Value} {x : DataW H × List MemPlace} (ht : P.underlying t = some (.int k)) (h : DataW.trod enc P W 0 sp held fuel t cs = some x) : ∃ n, cs = [.int k n] ∧ (Lit.int k n).wf = true := by
  obtain ⟨n, h, _, hw⟩ := DataW.trod_int ht h
  exact ⟨n, h, hw⟩
theorem wf64 {n : Int} (h : (Lit.int .i64 n).wf = true) : -9223372036854775808 ≤ n ∧ n ≤ 9223372036854775807 := by
  simp [Lit.wf, IntKind.min, IntKind.max, IntKind.signed, IntKind.bits] at h
  omega
end

theorem SlAt.recode {α : Type} {W : World} {k : Nat} {enc : α → List Value} {A : Option Addr} {n : Nat} {Q : α → Prop} {xs : List (List Value)} (h : SlAt W k id A n xs) (hx : ∀ x ∈ xs, ∃ a, enc a = x ∧ Q a) : ∃ ys : List α, SlAt W k enc A n ys ∧ ∀ a ∈ ys, Q a := by
  have : ∀ xs : List (List Value), (∀ x ∈ xs, ∃ a, enc a = x ∧ Q a) → ∃ ys : List α, ys.map enc = xs ∧ ∀ a ∈ ys, Q a := by
    intro xs
    induction xs with
    | nil => exact fun _ => ⟨[], rfl, by simp⟩
    | cons x xs ih =>
      intro h
      obtain ⟨a, ha, hq⟩ := h x (by simp)
      obtain ⟨ys, has, hqs⟩ := ih fun x hx => h x (by simp [hx])
      exact ⟨a :: ys, by simp [ha, has], by simpa using ⟨hq, hqs⟩⟩
  obtain ⟨ys, has, hq⟩ := this xs hx
  subst has
  refine ⟨ys, ⟨by simpa using h.1, h.2.1, fun hn => ?_⟩, hq⟩
  obtain ⟨b, off, hA, hlt, hc⟩ := h.2.2 hn
  exact ⟨b, off, hA, hlt, fun i x hx => hc i (enc x) (by simp [hx])⟩

end Go.Proofs.E

/-
  What the rows' conditions give a walk: the listed variables, and the world's shape.
-/
set_option maxRecDepth 100000
namespace Go.Proofs.Con
open Go Go.RowKit Go.Proofs.E
theorem gS : Tryz.prog.globalNamed "strconv.ErrSyntax" = some 3 := by kernel_rfl
theorem gR : Tryz.prog.globalNamed "strconv.ErrRange" = some 4 := by kernel_rfl
theorem gP : Tryz.prog.globalNamed "internal/strconv.uint64pow10" = some 5 := by kernel_rfl
theorem gST : (Tryz.prog.globals[3]?).map (·.type) = some 129 := by kernel_rfl
theorem gRT : (Tryz.prog.globals[4]?).map (·.type) = some 129 := by kernel_rfl
theorem gPT : (Tryz.prog.globals[5]?).map (·.type) = some 445 := by kernel_rfl
theorem cs1 : Tryz.prog.cellsOf 394 = 1 := by kernel_rfl
theorem cs2 : Tryz.prog.cellsOf 9 = 1 := by kernel_rfl
theorem cs3 : Tryz.prog.cellsOf 58 = 1 := by kernel_rfl
theorem cs4 : Tryz.prog.cellsOf 445 = 20 := by kernel_rfl
theorem star : "*" ++ "errors.errorString" = "*errors.errorString" := by decide
theorem rowE (u : TypeId) (h : Tryz.prog.typeName? 3 u = some "*errors.errorString") : u = 392 :=
  typeName_ptr_named (nm := "errors.errorString") (by rw [star]; kernel_rfl) (by kernel_rfl) (by decide) u (by rw [star]; exact h)
section
variable {W : World} {r : List (String × DataW Unit)}
theorem syn_of (h : laidMet Tryz.prog (("strconv.ErrSyntax", Go.Proofs.YtcpihdljjckecaaGreatDoor.Rows.laid_strconv_ErrSyntax) :: r) W) : ∃ t p, W.cell? ⟨layAtoi_ren.g 15, 0, none⟩ = some (.iface t p) := by
  obtain ⟨a, s, hv, _⟩ := laid_sentinel h gS gST Tryz.underlying129 rowE Tryz.underlying392 Tryz.underlying394 rfl rfl Tryz.underlying9 cs1 cs2
  exact ⟨_, _, by show W.cell? ⟨3, 0, none⟩ = _; simpa using World.var?_cell gS hv 0⟩
theorem ran_of (h : laidMet Tryz.prog (("strconv.ErrRange", Go.Proofs.YtcpihdljjckecaaGreatDoor.Rows.laid_strconv_ErrRange) :: r) W) : ∃ t p, W.cell? ⟨layAtoi_ren.g 16, 0, none⟩ = some (.iface t p) := by
  obtain ⟨a, s, hv, _⟩ := laid_sentinel h gR gRT Tryz.underlying129 rowE Tryz.underlying392 Tryz.underlying394 rfl rfl Tryz.underlying9 cs1 cs2
  exact ⟨_, _, by show W.cell? ⟨4, 0, none⟩ = _; simpa using World.var?_cell gR hv 0⟩
theorem pow_of (h : laidMet Tryz.prog (("internal/strconv.uint64pow10", Go.Proofs.YtcpihdljjckecaaGreatDoor.Rows.laid_internal_strconv_uint64pow10) :: r) W) : Go.Lib.TabIs Tryz.prog W "internal/strconv.uint64pow10" .u64 Go.Lib.pow10Tab := by
  have e : (Go.Proofs.YtcpihdljjckecaaGreatDoor.Rows.laid_internal_strconv_uint64pow10 : DataW Unit) = Go.Lib.tabData .u64 Go.Lib.pow10Tab := by
    have : Go.Lib.pow10Tab = [1, 10, 100, 1000, 10000, 100000, 1000000, 10000000, 100000000, 1000000000, 10000000000, 100000000000, 1000000000000, 10000000000000, 100000000000000, 1000000000000000, 10000000000000000, 100000000000000000, 1000000000000000000, 10000000000000000000] := by decide
    rw [this]; rfl
  rw [e] at h
  exact Go.Lib.tabIs_of_head gP gPT Tryz.underlying445 Tryz.underlying58 cs3 cs4 h
end
def full_a : List (String × DataW Unit) := ("unicode/utf8.first", Go.Proofs.YtcpihdljjckecaaGreatDoor.Rows.laid_unicode_utf8_first) :: Go.Proofs.YtcpihdljjckecaaGreatDoor.laid_a
def full_b : List (String × DataW Unit) := Go.Proofs.YtcpihdljjckecaaGreatDoor.laid_b.take 3 ++ ("unicode/utf8.first", Go.Proofs.YtcpihdljjckecaaGreatDoor.Rows.laid_unicode_utf8_first) :: Go.Proofs.YtcpihdljjckecaaGreatDoor.laid_b.drop 3
theorem lw_a {W : World} (h : laidMetH Tryz.prog full_a W) (hs : W.ShapedOpen Tryz.prog) : Lw W := by
  rw [MakeChecks.laidMetH_plain _ _ _ (by kernel_rfl)] at h
  exact ⟨pow_of h.tail.tail.tail.tail, syn_of h.tail.tail, ran_of h.tail.tail.tail, laySplit.s1_3 W hs⟩
theorem lw_b {W : World} (h : laidMetH Tryz.prog full_b W) (hs : W.ShapedOpen Tryz.prog) : Lw W := by
  rw [MakeChecks.laidMetH_plain _ _ _ (by kernel_rfl)] at h
  exact ⟨pow_of h, syn_of h.tail.tail.tail.tail.tail, ran_of h.tail.tail.tail.tail.tail.tail, laySplit.s1_3 W hs⟩
end Go.Proofs.Con

/-
  A row that lists variables: what a walk is given.
-/
namespace Go.Proofs.E
open Go Go.RowKit Go.ChangeShapes Go.WideShapes Go.ChangeAt
theorem handed_and {H : Type} {enc : TypeId × Value → H} {a : Assume} {C : Checked} {os : Os} {f : FuncId} {fn : Func} {s : ChangeSpec} {conds : List PathCond} {apart fresh handsOn again : Bool} {X : World → Array Value → Prop}
    (hX : ∀ (w w' : World) (args : Array Value), w.heap = w'.heap → X w args → X w' args)
    (own : ownKnob C.prog.godebug = none) (started : os.Started) (noInit : C.prog.inits.idxOf? f = none) (hfn : C.prog.funcs[f]? = some fn)
    (witness : ∃ (w : World) (tape : Tape) (i : Input), w.os = os ∧ (w.forCall tape i).Shaped C.prog ∧ i.vars = [] ∧ Input.okWide C.prog (w.forCall tape i) .any w.heap.size f i ∧
      ((s.pre enc C.prog fn conds apart (w.forCall tape i).memory i.args ∧ X (w.forCall tape i).memory i.args) ∧ sizedMet enc C.prog fn (OpenSpec.ofChange s) apart (w.forCall tape i).memory i.args) ∧ a.holds C.prog (lone (Frame.enter C.prog f i.args .normal) [] (w.forCall tape i)))
    (contract : ∀ (W : World) (base : Nat) (args : Array Value) (ds gs : List (DataW H)) (before : List MemPlace),
      (∀ (j : Nat) t v, fn.params[j]? = some t → args[j]? = some v → Value.okWide C.prog W .any base t v) →
      DataW.Whole enc C.prog fn.params.toList s.vars apart W args.toList ds gs before → X W args → W.ShapedOpen C.prog →
      Calls C.prog f args W fun e W' => ∃ v, e = .returned v ∧ s.post enc C.prog fn apart fresh handsOn again W args v W') :
    ReturnsInHanded a C os f .any (fun w args => (s.pre enc C.prog fn conds apart w args ∧ X w args) ∧ sizedMet enc C.prog fn (OpenSpec.ofChange s) apart w args) (s.post enc C.prog fn apart fresh handsOn again) := by
  refine returnsInHanded_of_calls own started noInit witness ?_
  intro w tape i _ hsh _ hok hpre _
  obtain ⟨_, _, _, fn', hfn', _, _, _, _, hval⟩ := hok
  have e : fn' = fn := Option.some.inj (hfn'.symm.trans hfn)
  subst e
  obtain ⟨⟨⟨ds, gs, before, hw, _⟩, hx⟩, _⟩ := hpre
  have hw' := DataW.Whole.of_heap (w' := w.forCall tape i) (by rfl) hw
  refine (contract (w.forCall tape i) w.heap.size i.args ds gs before hval hw' (hX _ _ _ (by rfl) hx) hsh).mono fun e W' ⟨v, he, hp⟩ => ?_
  subst he
  exact ChangeSpec.post_blind hp
end Go.Proofs.E

/-
  The readings of the laws' arguments: an act, a line.
-/
set_option maxRecDepth 100000
namespace Go.Proofs.Con
open Go Go.RowKit Go.Proofs.E Go.ChangeShapes Go.WideShapes Go.ChangeAt
theorem zInt : Tryz.prog.cellsOf 3 = 1 := by kernel_rfl
theorem zEv : Tryz.prog.cellsOf 24 = 9 := by kernel_rfl
theorem zVd : Tryz.prog.cellsOf 26 = 4 := by kernel_rfl
theorem zRf : Tryz.prog.cellsOf 28 = 4 := by kernel_rfl
theorem zAc : Tryz.prog.cellsOf 30 = 20 := by kernel_rfl
def zArg : Value := .agg #[.int .i64 0, .int .i64 0, .int .i64 0, .int .i64 0, .int .i64 0, .int .i64 0, .int .i64 0, .int .i64 0, .int .i64 0, .int .i64 0, .int .i64 0, .int .i64 0, .int .i64 0, .int .i64 0, .int .i64 0, .int .i64 0, .int .i64 0, .int .i64 0, .int .i64 0, .int .i64 0]
section
variable {H : Type} {enc : TypeId × Value → H} {W : World} {sp : Nat → Bool} {held : Bool} {v : Value} {d : DataW H} {ps : List MemPlace} {base : Nat}
theorem rd_evt {fuel : Nat} {cs : List Value} {x : DataW H × List MemPlace} (hl : cs.length = 9) (h : DataW.trod enc Tryz.prog W 0 sp held fuel 24 cs = some x) : ∃ l : List Int, l.length = 9 ∧ l.map I64 = cs := by
  match cs, hl with
  | [c0, c1, c2, c3, c4, c5, c6, c7, c8], _ =>
    obtain ⟨_, _, h0⟩ := rd_field Tryz.underlying24 h 0 rfl zInt
    obtain ⟨_, _, h1⟩ := rd_field Tryz.underlying24 h 1 rfl zInt
    obtain ⟨_, _, h2⟩ := rd_field Tryz.underlying24 h 2 rfl zInt
    obtain ⟨_, _, h3⟩ := rd_field Tryz.underlying24 h 3 rfl zInt
    obtain ⟨_, _, h4⟩ := rd_field Tryz.underlying24 h 4 rfl zInt
    obtain ⟨_, _, h5⟩ := rd_field Tryz.underlying24 h 5 rfl zInt
    obtain ⟨_, _, h6⟩ := rd_field Tryz.underlying24 h 6 rfl zInt
    obtain ⟨_, _, h7⟩ := rd_field Tryz.underlying24 h 7 rfl zInt
    obtain ⟨_, _, h8⟩ := rd_field Tryz.underlying24 h 8 rfl zInt
    obtain ⟨n0, e0, _⟩ := rd_int Tryz.underlying3 h0
    obtain ⟨n1, e1, _⟩ := rd_int Tryz.underlying3 h1
    obtain ⟨n2, e2, _⟩ := rd_int Tryz.underlying3 h2
    obtain ⟨n3, e3, _⟩ := rd_int Tryz.underlying3 h3
    obtain ⟨n4, e4, _⟩ := rd_int Tryz.underlying3 h4
    obtain ⟨n5, e5, _⟩ := rd_int Tryz.underlying3 h5
    obtain ⟨n6, e6, _⟩ := rd_int Tryz.underlying3 h6
    obtain ⟨n7, e7, _⟩ := rd_int Tryz.underlying3 h7
    obtain ⟨n8, e8, _⟩ := rd_int Tryz.underlying3 h8
    refine ⟨[n0, n1, n2, n3, n4, n5, n6, n7, n8], rfl, ?_⟩
    have e : [c0, c1, c2, c3, c4, c5, c6, c7, c8] = [c0] ++ [c1] ++ [c2] ++ [c3] ++ [c4] ++ [c5] ++ [c6] ++ [c7] ++ [c8] := rfl
    rw [e, show [c0] = [.int .i64 n0] from e0, show [c1] = [.int .i64 n1] from e1, show [c2] = [.int .i64 n2] from e2, show [c3] = [.int .i64 n3] from e3, show [c4] = [.int .i64 n4] from e4, show [c5] = [.int .i64 n5] from e5, show [c6] = [.int .i64 n6] from e6, show [c7] = [.int .i64 n7] from e7, show [c8] = [.int .i64 n8] from e8]; rfl
theorem rd_ver {fuel : Nat} {cs : List Value} {x : DataW H × List MemPlace} (hl : cs.length = 4) (h : DataW.trod enc Tryz.prog W 0 sp held fuel 26 cs = some x) : ∃ l : List Int, l.length = 4 ∧ l.map I64 = cs := by
  match cs, hl with
  | [c0, c1, c2, c3], _ =>
    obtain ⟨_, _, h0⟩ := rd_field Tryz.underlying26 h 0 rfl zInt
    obtain ⟨_, _, h1⟩ := rd_field Tryz.underlying26 h 1 rfl zInt
    obtain ⟨_, _, h2⟩ := rd_field Tryz.underlying26 h 2 rfl zInt
    obtain ⟨_, _, h3⟩ := rd_field Tryz.underlying26 h 3 rfl zInt
    obtain ⟨n0, e0, _⟩ := rd_int Tryz.underlying3 h0
    obtain ⟨n1, e1, _⟩ := rd_int Tryz.underlying3 h1
    obtain ⟨n2, e2, _⟩ := rd_int Tryz.underlying3 h2
    obtain ⟨n3, e3, _⟩ := rd_int Tryz.underlying3 h3
    refine ⟨[n0, n1, n2, n3], rfl, ?_⟩
    have e : [c0, c1, c2, c3] = [c0] ++ [c1] ++ [c2] ++ [c3] := rfl
    rw [e, show [c0] = [.int .i64 n0] from e0, show [c1] = [.int .i64 n1] from e1, show [c2] = [.int .i64 n2] from e2, show [c3] = [.int .i64 n3] from e3]; rfl
theorem rd_ref {fuel : Nat} {cs : List Value} {x : DataW H × List MemPlace} (hl : cs.length = 4) (h : DataW.trod enc Tryz.prog W 0 sp held fuel 28 cs = some x) : ∃ l : List Int, l.length = 4 ∧ l.map I64 = cs := by
  match cs, hl with
  | [c0, c1, c2, c3], _ =>
    obtain ⟨_, _, h0⟩ := rd_field Tryz.underlying28 h 0 rfl zInt
    obtain ⟨_, _, h1⟩ := rd_field Tryz.underlying28 h 1 rfl zInt
    obtain ⟨_, _, h2⟩ := rd_field Tryz.underlying28 h 2 rfl zInt
    obtain ⟨_, _, h3⟩ := rd_field Tryz.underlying28 h 3 rfl zInt
    obtain ⟨n0, e0, _⟩ := rd_int Tryz.underlying3 h0
    obtain ⟨n1, e1, _⟩ := rd_int Tryz.underlying3 h1
    obtain ⟨n2, e2, _⟩ := rd_int Tryz.underlying3 h2
    obtain ⟨n3, e3, _⟩ := rd_int Tryz.underlying3 h3
    refine ⟨[n0, n1, n2, n3], rfl, ?_⟩
    have e : [c0, c1, c2, c3] = [c0] ++ [c1] ++ [c2] ++ [c3] := rfl
    rw [e, show [c0] = [.int .i64 n0] from e0, show [c1] = [.int .i64 n1] from e1, show [c2] = [.int .i64 n2] from e2, show [c3] = [.int .i64 n3] from e3]; rfl
theorem open_act (hv : Value.okWide Tryz.prog W .any base 30 v) (h : DataW.Trod enc Tryz.prog W 0 sp held 30 v d ps) : ∃ a : List Int, a.length = 20 ∧ v = .agg (a.map I64).toArray := by
  obtain ⟨cs, rfl, hsz⟩ := okWide_struct Tryz.underlying30 hv
  rw [zAc] at hsz
  obtain ⟨l⟩ := cs
  match l, hsz with
  | [c0, c1, c2, c3, c4, c5, c6, c7, c8, c9, c10, c11, c12, c13, c14, c15, c16, c17, c18, c19], _ =>
    obtain ⟨_, hf⟩ := h
    obtain ⟨_, _, h0⟩ := rd_field Tryz.underlying30 hf 0 rfl zInt
    obtain ⟨_, _, h1⟩ := rd_field Tryz.underlying30 hf 1 rfl zInt
    obtain ⟨_, _, h2⟩ := rd_field Tryz.underlying30 hf 2 rfl zInt
    obtain ⟨_, _, h3⟩ := rd_field Tryz.underlying30 hf 3 rfl zEv
    obtain ⟨_, _, h4⟩ := rd_field Tryz.underlying30 hf 4 rfl zVd
    obtain ⟨_, _, h5⟩ := rd_field Tryz.underlying30 hf 5 rfl zRf
    obtain ⟨n0, e0, _⟩ := rd_int Tryz.underlying3 h0
    obtain ⟨n1, e1, _⟩ := rd_int Tryz.underlying3 h1
    obtain ⟨n2, e2, _⟩ := rd_int Tryz.underlying3 h2
    obtain ⟨l3, k3, e3⟩ := rd_evt (cs := [c3, c4, c5, c6, c7, c8, c9, c10, c11]) rfl h3
    obtain ⟨l4, k4, e4⟩ := rd_ver (cs := [c12, c13, c14, c15]) rfl h4
    obtain ⟨l5, k5, e5⟩ := rd_ref (cs := [c16, c17, c18, c19]) rfl h5
    refine ⟨n0 :: n1 :: n2 :: (l3 ++ (l4 ++ l5)), by simp [k3, k4, k5], ?_⟩
    have e : [c0, c1, c2, c3, c4, c5, c6, c7, c8, c9, c10, c11, c12, c13, c14, c15, c16, c17, c18, c19] = [c0] ++ ([c1] ++ ([c2] ++ ([c3, c4, c5, c6, c7, c8, c9, c10, c11] ++ ([c12, c13, c14, c15] ++ [c16, c17, c18, c19])))) := rfl
    rw [e, show [c0] = [.int .i64 n0] from e0, show [c1] = [.int .i64 n1] from e1, show [c2] = [.int .i64 n2] from e2, ← e3, ← e4, ← e5]
    simp only [List.map_cons, List.map_append]; rfl
theorem open_line (hv : Value.okWide Tryz.prog W .any base 9 v) : ∃ s : ByteArray, v = .string s := by
  exact okWide_string Tryz.underlying9 hv
end
end Go.Proofs.Con
