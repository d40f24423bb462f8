/-
  From a walk to the row: the arguments' readings; what the call hands back.
-/
import Derived.Test.YtnikolfakmgbbaaRows
import Derived.ProofKit
import Derived.Carry
import Derived.Below
import Derived.ChangeSame
import Derived.Deep.Slices
import Derived.Test.YtnikolfakmgbbaaEd
namespace Go.Proofs.E
open Go Go.RowKit Go.ChangeShapes Go.WideShapes Go.ChangeAt

section
variable {H : Type} {enc : TypeId × Value → H} {P : Program}

theorem trodAll_lt {W : World} {sp : Nat → Bool} : ∀ {ts : List TypeId} {vs : List Value} {ds : List (DataW H)} {ps : List MemPlace} {W' : World}, laidOutB P = true → (ts.all fun t => P.readableRec t && decide (t < P.types.size)) = true →
    DataW.TrodAll enc P W 0 (fun _ => true) true ts vs ds ps → (∀ p ∈ ps, W.sameAt W' p) → (∀ p ∈ ps, sp p.block = true) → DataW.TrodAll enc P W' 0 sp true ts vs ds ps
  | [], [], [], _, _, _, _, h, _, _ => h
  | t :: ts, v :: vs, d :: ds, ps, W', hl, hr, ⟨p, q, h1, h2, e⟩, hs, hp => by
    subst e
    simp only [List.all_cons, Bool.and_eq_true, decide_eq_true_eq] at hr
    exact ⟨p, q, WideElems.Trod_stays hl hr.1.1 hr.1.2 h1 (fun x hx => hs x (List.mem_append_left _ hx)) (fun x hx => hp x (List.mem_append_left _ hx)), trodAll_lt hl (by simpa using hr.2) h2 (fun x hx => hs x (List.mem_append_right _ hx)) (fun x hx => hp x (List.mem_append_right _ hx)), rfl⟩
  | [], _ :: _, _, _, _, _, _, h, _, _ => by simp [DataW.TrodAll] at h
  | [], [], _ :: _, _, _, _, _, h, _, _ => by simp [DataW.TrodAll] at h
  | _ :: _, [], _, _, _, _, _, h, _, _ => by simp [DataW.TrodAll] at h
  | _ :: _, _ :: _, [], _, _, _, _, h, _, _ => by simp [DataW.TrodAll] at h

theorem trodAll_len {W : World} {b : Nat} {sp : Nat → Bool} {hd : Bool} : ∀ {ts : List TypeId} {vs : List Value} {ds : List (DataW H)} {ps : List MemPlace}, DataW.TrodAll enc P W b sp hd ts vs ds ps → ds.length = ts.length ∧ vs.length = ts.length
  | [], [], [], _, _ => ⟨rfl, rfl⟩
  | _ :: _, _ :: _, _ :: _, _, ⟨_, _, _, h2, _⟩ => by have := trodAll_len h2; simp; omega
  | [], _ :: _, _, _, h => by simp [DataW.TrodAll] at h
  | [], [], _ :: _, _, h => by simp [DataW.TrodAll] at h
  | _ :: _, [], _, _, h => by simp [DataW.TrodAll] at h
  | _ :: _, _ :: _, [], _, h => by simp [DataW.TrodAll] at h

/-- the law's row: it returns true, and what came in reads as it did -/
theorem row_post {f : Func} {s : ChangeSpec} {tb : TypeId} {apart fresh handsOn again : Bool} {W W' : World} {args : Array Value} {ds gs : List (DataW H)} {before : List MemPlace} (hl : laidOutB P = true) (hr : (f.params.toList.all fun t => P.readableRec t && decide (t < P.types.size)) = true)
    (hrt : f.resultTypes = #[tb]) (htb : P.underlying tb = some .bool) (hv : s.vars = []) (hs : ∀ ds : List (DataW H), ds.length = f.params.toList.length → s.fn H ds = { results := [.lit (.bool true)], args := ds })
    (hW : DataW.Whole enc P f.params.toList s.vars apart W args.toList ds gs before) (hb : Bel W W') : s.post enc P f apart fresh handsOn again W args (.bool true) W' := by
  have hlt : ∀ p ∈ before, p.block < W.heap.size := fun p hp => hW.lt p hp
  have hold : ∀ p ∈ before, (fun b => decide (b < W.heap.size)) p.block = true := fun p hp => by simpa using hlt p hp
  have hW2 := hW
  obtain ⟨p, q, hA, hV, rfl, hz, hn⟩ := hW
  rw [hv] at hV
  obtain ⟨rfl, rfl⟩ := trodVars_none hV
  have hsd := hs ds (trodAll_len hA).1
  have hres : ∀ (b : Nat) (sp : Nat → Bool) (hd : Bool), DataW.TrodAll enc P W' b sp hd f.resultTypes.toList ((Value.bool true).resultList f.resultTypes.size) (s.fn H (ds ++ [])).results [] := fun b sp hd => by
    rw [List.append_nil, hsd, hrt]
    exact trodAll_mk1 (shut_bool htb _)
  have hargs : ∀ sp : Nat → Bool, (∀ x ∈ p, sp x.block = true) → DataW.TrodAll enc P W' 0 sp true f.params.toList args.toList (s.fn H (ds ++ [])).args p := fun sp hsp => by
    rw [List.append_nil, hsd]
    exact trodAll_lt hl hr hA (fun x hx => hb.same (hlt x (by simpa using hx))) hsp
  have hvars : ∀ sp : Nat → Bool, DataW.TrodVars enc P W' sp s.vars (s.fn H (ds ++ [])).vars [] := fun sp => by
    rw [List.append_nil, hsd, hv]
    rfl
  refine ⟨ds, [], p ++ [], [], p, [], hW2, hres _ _ _, hargs _ (fun x hx => hold x (by simpa using hx)), hvars _, World.keptBut_mono (fun x hx => ⟨hx, Or.inr (by simpa using hx)⟩) (hb.frame (· ∈ p ++ [])), fun _ => ?_⟩
  refine ⟨?_, _, _, ([] ++ p) ++ [], ⟨[] ++ p, [], trodAll_append (hargs _ (fun _ _ => rfl)) (hres _ _ _), hvars _, rfl, ?_, ?_⟩, ?_⟩
  · intro j t r h1 h2
    rw [hrt] at h1 h2
    match j with
    | 0 =>
      simp at h1
      subst h1
      simp [Value.resultList] at h2
      subst h2
      exact okWide_bool_mk htb _
    | j + 1 => simp at h1
  · intro b off hp
    have hin : MemPlace.cell b off ∈ p ++ [] := by simpa using hp
    rw [hb.frozen (hlt _ hin)]
    exact hz b off hin
  · intro ha
    have := hn ha
    simpa using this
  · intro x hx _
    simpa using hx

/-! readings -/
theorem cell_spot {w : World} {a : Addr} {v : Value} (h : w.cell? a = some v) : a.spot = none ∧ a.block < w.heap.size := by
  unfold World.cell? at h
  constructor
  · split at h
    · split at h
      · cases h
      · rename_i h2; cases ha : a.spot with
        | none => rfl
        | some x => simp [ha] at h2
    · cases h
  · split at h
    · rename_i h2
      exact (Array.getElem?_eq_some_iff.1 h2).1
    · cases h

theorem rd_rows {W : World} {t e : TypeId} {k fuel : Nat} {sp : Nat → Bool} {held : Bool} {cs : List Value} {x : DataW H × List MemPlace} (ht : P.underlying t = some (.slice e)) (hC : P.cellsOf e = k) (hk : 0 < k)
    (h : DataW.trod enc P W 0 sp held fuel t cs = some x) :
    ∃ (A : Option Addr) (n c : Nat) (xs : List (List Value)), cs = [.slice A n c] ∧ SlAt W k id A n xs ∧ n ≤ c ∧ c ≤ maxLen ∧ ∀ x ∈ xs, x.length = k ∧ ∃ (fuel : Nat) (y : DataW H × List MemPlace), DataW.trod enc P W 0 sp held fuel e x = some y := by
  rcases Deep.open_slice ht h with ⟨rfl, _⟩ | ⟨a, len, cap, m, n, D, Pl, rfl, hb, hl, hm, hmm, hx, hi⟩
  · exact ⟨none, 0, 0, [], rfl, ⟨rfl, by decide, fun h => absurd h (by omega)⟩, by omega, by unfold maxLen; omega, fun x hx => by simp at hx⟩
  · rw [hC] at hi
    have hlm : len ≤ m := by rw [hmm]; split <;> omega
    refine ⟨some a, len, cap, (List.range len).map fun i => ((W.cells? 0 (a.add (i * k)) k).getD []), rfl, ⟨by simp, by unfold maxLen at hm; omega, fun hn => ?_⟩, hl, hm, fun x hx => ?_⟩
    · obtain ⟨cs0, hc0, _⟩ := hi 0 (by omega)
      obtain ⟨_, hl0, hat0⟩ := World.cells?_some hc0
      have h0 := hat0 0 hk
      rw [List.getElem?_eq_getElem (by omega)] at h0
      obtain ⟨hs, hblk⟩ := cell_spot h0
      refine ⟨a.block, a.off, by cases a; simp [Addr.add] at hs; simp [hs], by simpa [Addr.add] using hblk, fun i x hx => ?_⟩
      simp only [List.getElem?_map] at hx
      cases hr : (List.range len)[i]? with
      | none => rw [hr] at hx; cases hx
      | some y =>
        rw [hr] at hx
        obtain ⟨hlt, hyi⟩ := List.getElem?_eq_some_iff.1 hr
        simp at hyi hlt
        subst hyi
        obtain ⟨cs', hc, _⟩ := hi i (by omega)
        simp only [Option.map_some, Option.some.injEq] at hx
        rw [hc] at hx
        simp only [Option.getD_some] at hx
        subst hx
        obtain ⟨_, hcl, hat⟩ := World.cells?_some hc
        intro j u hu
        have hj : j < k := by have := (List.getElem?_eq_some_iff.1 hu).1; simp at this; omega
        have h2 := hat j hj
        simp only [id] at hu
        rw [hu] at h2
        have e1 : (a.add (i * k)).add j = ⟨a.block, a.off + i * k + j, none⟩ := by
          have hs : a.spot = none := by cases a; simpa [Addr.add] using hs
          rw [add_none hs, add_none rfl]
        rw [e1] at h2
        exact h2
    · simp only [List.mem_map, List.mem_range] at hx
      obtain ⟨i, hil, rfl⟩ := hx
      obtain ⟨cs', hc, ht'⟩ := hi i (by omega)
      rw [hc]
      exact ⟨(World.cells?_some hc).2.1, n, _, ht'⟩

/-- an element of a struct of one-cell fields -/
theorem rd_field {W : World} {t : TypeId} {fs : Array Field} {fuel : Nat} {sp : Nat → Bool} {held : Bool} {cs : List Value} {x : DataW H × List MemPlace} (ht : P.underlying t = some (.struct fs)) (h : DataW.trod enc P W 0 sp held fuel t cs = some x) (j : Nat) {u : TypeId} {o k : Nat} (hf : fs[j]?.map (fun f => (f.type, f.offset)) = some (u, o)) (hk : P.cellsOf u = k) :
    ∃ (n : Nat) (y : DataW H × List MemPlace), DataW.trod enc P W 0 sp held n u ((cs.drop o).take k) = some y := by
  obtain ⟨ys, n', hn', hy, hlen, hyl, hg⟩ := DataW.trod_struct ht h
  cases hf' : fs[j]? with
  | none => rw [hf'] at hf; cases hf
  | some f =>
    rw [hf'] at hf
    simp only [Option.map_some, Option.some.injEq, Prod.mk.injEq] at hf
    obtain ⟨rfl, rfl⟩ := hf
    have hj : j < fs.size := (Array.getElem?_eq_some_iff.1 hf').1
    have h2 := hg j f hf'
    rw [List.getElem?_eq_getElem (by omega), hk] at h2
    exact ⟨n', _, h2⟩
theorem rd_int {W : World} {t : TypeId} {k : IntKind} {fuel : Nat} {sp : Nat → Bool} {held : Bool} {cs : List Value} {x : DataW H × List MemPlace} (ht : P.underlying t = some (.int k)) (h : DataW.trod enc P W 0 sp held fuel t cs = some x) : ∃ n, cs = [.int k n] ∧ (Lit.int k n).wf = true := by
  obtain ⟨n, h, _, hw⟩ := DataW.trod_int ht h
  exact ⟨n, h, hw⟩
theorem wf64 {n : Int} (h : (Lit.int .i64 n).wf = true) : -9223372036854775808 ≤ n ∧ n ≤ 9223372036854775807 := by
  simp [Lit.wf, IntKind.min, IntKind.max, IntKind.signed, IntKind.bits] at h
  omega
end

theorem SlAt.recode {α : Type} {W : World} {k : Nat} {enc : α → List Value} {A : Option Addr} {n : Nat} {Q : α → Prop} {xs : List (List Value)} (h : SlAt W k id A n xs) (hx : ∀ x ∈ xs, ∃ a, enc a = x ∧ Q a) : ∃ ys : List α, SlAt W k enc A n ys ∧ ∀ a ∈ ys, Q a := by
  have : ∀ xs : List (List Value), (∀ x ∈ xs, ∃ a, enc a = x ∧ Q a) → ∃ ys : List α, ys.map enc = xs ∧ ∀ a ∈ ys, Q a := by
    intro xs
    induction xs with
    | nil => exact fun _ => ⟨[], rfl, by simp⟩
    | cons x xs ih =>
      intro h
      obtain ⟨a, ha, hq⟩ := h x (by simp)
      obtain ⟨ys, has, hqs⟩ := ih fun x hx => h x (by simp [hx])
      exact ⟨a :: ys, by simp [ha, has], by simpa using ⟨hq, hqs⟩⟩
  obtain ⟨ys, has, hq⟩ := this xs hx
  subst has
  refine ⟨ys, ⟨by simpa using h.1, h.2.1, fun hn => ?_⟩, hq⟩
  obtain ⟨b, off, hA, hlt, hc⟩ := h.2.2 hn
  exact ⟨b, off, hA, hlt, fun i x hx => hc i (enc x) (by simp [hx])⟩

end Go.Proofs.E
