/-
  Maps made, as items; the order of items ahead of a list that is not known.
-/
import Derived.Test.YtnikolfakmgbbaaEq
namespace Go.Proofs.E
open Go Go.RowKit

section
variable {β : Type} {c : Cx} {w0 : World} {L : List Item} {f : Fr} {K : List Item → Fr → Prop} {d : Nat} {ty t kt et : TypeId} {pos : String} {af : Array Edge} {x y z : Operand}
theorem f_makeMap (hd : Nat.blt d c.N = true) (next : ∀ b, K (imap b [] :: L) (upd f d (.map (some b)))) : Eff c w0 L f ⟨some d, .makeMap t none, ty, pos, af, none⟩ K :=
  ⟨rfl, rfl, hd, fun w hw => by
    have : (execOp (ev f) ⟨some d, .makeMap t none, ty, pos, af, none⟩).run c.P w = .ok (.value (.map (some w.heap.size))) (w.alloc (.map #[] 0)) := by simp [execOp, run_makeMap, Result.andThen]
    rw [this]
    exact ⟨_, hw.new _ (imap w.heap.size []) (fun _ h => h) (IMap.made w), rfl, next _⟩⟩
theorem f_makePmap (tb : TypeId) (enc : β → List Value) (hd : Nat.blt d c.N = true) (next : ∀ b, K (pmap b tb enc ([] : List (Int × Nat × β)) :: L) (upd f d (.map (some b)))) : Eff c w0 L f ⟨some d, .makeMap t none, ty, pos, af, none⟩ K :=
  ⟨rfl, rfl, hd, fun w hw => by
    have : (execOp (ev f) ⟨some d, .makeMap t none, ty, pos, af, none⟩).run c.P w = .ok (.value (.map (some w.heap.size))) (w.alloc (.map #[] 0)) := by simp [execOp, run_makeMap, Result.andThen]
    rw [this]
    exact ⟨_, hw.new _ (pmap w.heap.size tb enc []) (fun _ h => h.elim id (fun h => by simp [blks] at h)) ⟨IMap.made w, fun p hp => by simp at hp, by simp [blks]⟩, rfl, next _⟩⟩
theorem f_mapset (k : Nat) {b : Nat} {ps : List (Int × Value)} {key : Int} {v : Value} (ht : c.P.underlying t = some (.map kt et)) (hkt : c.P.underlying kt = some (.int .i64)) (hx : ev f x = .map (some b)) (hy : ev f y = .int .i64 key) (hz : ev f z = v)
    (hk : L[k]? = some (imap b ps)) (next : K (L.set k (imap b (mput ps key v))) f) : Eff c w0 L f ⟨none, .mapUpdate t x y z, ty, pos, af, none⟩ K :=
  ⟨rfl, rfl, rfl, fun w hw => by
    have hA : IMap w b ps := hw.item hk
    obtain ⟨w', hrun, h1, h2, h3, h4⟩ := run_update_imap (P := c.P) ht hkt hA key v
    have : (execOp (ev f) ⟨none, .mapUpdate t x y z, ty, pos, af, none⟩).run c.P w = .ok .skip w' := by simp [execOp, hx, hy, hz, hrun, Result.andThen]
    rw [this]
    refine ⟨_, hw.set (it' := imap b (mput ps key v)) hk (fun _ h => h) h1 ⟨h2.os, h2.tape, h2.output, h3, h4⟩ (fun b' hb' => ?_), marks_set hk rfl, next⟩
    by_cases hlt : b' < w.heap.size
    · exact h2.block b' hlt (fun e => hb' (by injection e))
    · rw [Array.getElem?_eq_none (by omega), Array.getElem?_eq_none (by omega)]⟩
end

theorem Mem.rot {w0 w : World} {X S L : List Item} (h : Mem w0 (X ++ (S ++ L)) w) : Mem w0 (S ++ (X ++ L)) w := h.perm (List.perm_append_comm_assoc ..)
theorem Mem.cutM {w0 w : World} {X S L : List Item} (h : Mem w0 (S ++ (X ++ L)) w) : Mem w0 (S ++ L) w := h.sublist (List.Sublist.append_left (List.sublist_append_right ..) _)
theorem Mem.cutX {w0 w : World} {X L : List Item} (h : Mem w0 (X ++ L) w) : Mem w0 L w := h.sublist (List.sublist_append_right ..)
theorem Mem.cutR {w0 w : World} {X L : List Item} (h : Mem w0 (X ++ L) w) : Mem w0 X w := h.sublist (List.sublist_append_left ..)
theorem Mem.mv1 {w0 w : World} {a b : Item} {L : List Item} (hm : Mem w0 (a :: b :: L) w) : Mem w0 (b :: a :: L) w := hm.perm (List.perm_middle (l₁ := [b]))
theorem Mem.fr1 {w0 w : World} {a b : Item} {L : List Item} (hm : Mem w0 (b :: a :: L) w) : Mem w0 (a :: b :: L) w := hm.perm (List.perm_middle (l₁ := [b])).symm
theorem Mem.mv2 {w0 w : World} {a b c : Item} {L : List Item} (hm : Mem w0 (a :: b :: c :: L) w) : Mem w0 (b :: c :: a :: L) w := hm.perm (List.perm_middle (l₁ := [b, c]))
theorem Mem.fr2 {w0 w : World} {a b c : Item} {L : List Item} (hm : Mem w0 (b :: c :: a :: L) w) : Mem w0 (a :: b :: c :: L) w := hm.perm (List.perm_middle (l₁ := [b, c])).symm
theorem Mem.mv3 {w0 w : World} {a b c d : Item} {L : List Item} (hm : Mem w0 (a :: b :: c :: d :: L) w) : Mem w0 (b :: c :: d :: a :: L) w := hm.perm (List.perm_middle (l₁ := [b, c, d]))
theorem Mem.fr3 {w0 w : World} {a b c d : Item} {L : List Item} (hm : Mem w0 (b :: c :: d :: a :: L) w) : Mem w0 (a :: b :: c :: d :: L) w := hm.perm (List.perm_middle (l₁ := [b, c, d])).symm
theorem Mem.mv4 {w0 w : World} {a b c d e : Item} {L : List Item} (hm : Mem w0 (a :: b :: c :: d :: e :: L) w) : Mem w0 (b :: c :: d :: e :: a :: L) w := hm.perm (List.perm_middle (l₁ := [b, c, d, e]))
theorem Mem.fr4 {w0 w : World} {a b c d e : Item} {L : List Item} (hm : Mem w0 (b :: c :: d :: e :: a :: L) w) : Mem w0 (a :: b :: c :: d :: e :: L) w := hm.perm (List.perm_middle (l₁ := [b, c, d, e])).symm
theorem Mem.mv5 {w0 w : World} {a b c d e f : Item} {L : List Item} (hm : Mem w0 (a :: b :: c :: d :: e :: f :: L) w) : Mem w0 (b :: c :: d :: e :: f :: a :: L) w := hm.perm (List.perm_middle (l₁ := [b, c, d, e, f]))
theorem Mem.fr5 {w0 w : World} {a b c d e f : Item} {L : List Item} (hm : Mem w0 (b :: c :: d :: e :: f :: a :: L) w) : Mem w0 (a :: b :: c :: d :: e :: f :: L) w := hm.perm (List.perm_middle (l₁ := [b, c, d, e, f])).symm
theorem Mem.mv6 {w0 w : World} {a b c d e f g : Item} {L : List Item} (hm : Mem w0 (a :: b :: c :: d :: e :: f :: g :: L) w) : Mem w0 (b :: c :: d :: e :: f :: g :: a :: L) w := hm.perm (List.perm_middle (l₁ := [b, c, d, e, f, g]))
theorem Mem.fr6 {w0 w : World} {a b c d e f g : Item} {L : List Item} (hm : Mem w0 (b :: c :: d :: e :: f :: g :: a :: L) w) : Mem w0 (a :: b :: c :: d :: e :: f :: g :: L) w := hm.perm (List.perm_middle (l₁ := [b, c, d, e, f, g])).symm
theorem Mem.mv7 {w0 w : World} {a b c d e f g h : Item} {L : List Item} (hm : Mem w0 (a :: b :: c :: d :: e :: f :: g :: h :: L) w) : Mem w0 (b :: c :: d :: e :: f :: g :: h :: a :: L) w := hm.perm (List.perm_middle (l₁ := [b, c, d, e, f, g, h]))
theorem Mem.fr7 {w0 w : World} {a b c d e f g h : Item} {L : List Item} (hm : Mem w0 (b :: c :: d :: e :: f :: g :: h :: a :: L) w) : Mem w0 (a :: b :: c :: d :: e :: f :: g :: h :: L) w := hm.perm (List.perm_middle (l₁ := [b, c, d, e, f, g, h])).symm

end Go.Proofs.E
