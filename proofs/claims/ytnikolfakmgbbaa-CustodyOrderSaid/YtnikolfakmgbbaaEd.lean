/-
  Slices in memory that read as lists; these readings outlive whatever leaves old memory alone.
-/
import Derived.Test.YtnikolfakmgbbaaEc
namespace Go.Proofs.E
open Go Go.RowKit

theorem RowAt.below {w w' : World} {b o : Nat} {cs : List Value} (h : RowAt w b o cs) (hb : b < w.heap.size) (hbel : Bel w w') : RowAt w' b o cs := fun j u hu => (hbel.cell (p := ⟨b, o + j, none⟩) hb).trans (h j u hu)

theorem add_none {a : Addr} (h : a.spot = none) {i : Nat} : a.add i = ⟨a.block, a.off + i, none⟩ := by
  cases a
  simp at h
  subst h
  simp only [Addr.add]
  split
  · rename_i h; subst h; rfl
  · rfl

/-- the slice value '.slice A n c' reads as xs, k cells an element -/
def SlAt {α : Type} (w : World) (k : Nat) (enc : α → List Value) (A : Option Addr) (n : Nat) (xs : List α) : Prop :=
  xs.length = n ∧ n ≤ 9223372036854775807 ∧ (0 < n → ∃ b off, A = some ⟨b, off, none⟩ ∧ b < w.heap.size ∧ ∀ i x, xs[i]? = some x → RowAt w b (off + i * k) (enc x))

theorem SlAt.below {α : Type} {w w' : World} {k : Nat} {enc : α → List Value} {A : Option Addr} {n : Nat} {xs : List α} (h : SlAt w k enc A n xs) (hb : Bel w w') : SlAt w' k enc A n xs := by
  refine ⟨h.1, h.2.1, fun hn => ?_⟩
  obtain ⟨b, off, hA, hlt, hc⟩ := h.2.2 hn
  exact ⟨b, off, hA, Nat.lt_of_lt_of_le hlt hb.size, fun i x hx => (hc i x hx).below hlt hb⟩
theorem SlAt.mem {α : Type} {w0 w : World} {L : List Item} {k : Nat} {enc : α → List Value} {A : Option Addr} {n : Nat} {xs : List α} (h : SlAt w0 k enc A n xs) (hm : Mem w0 L w) : SlAt w k enc A n xs := h.below hm.1
theorem SlAt.at_ {α : Type} {w : World} {k : Nat} {enc : α → List Value} {A : Option Addr} {n : Nat} {xs : List α} {i : Nat} (h : SlAt w k enc A n xs) (hi : i < n) :
    ∃ b off x, A = some ⟨b, off, none⟩ ∧ b < w.heap.size ∧ xs[i]? = some x ∧ RowAt w b (off + i * k) (enc x) := by
  obtain ⟨b, off, hA, hlt, hc⟩ := h.2.2 (by omega)
  have hl : i < xs.length := by have := h.1; omega
  exact ⟨b, off, xs[i], hA, hlt, List.getElem?_eq_getElem hl, hc i _ (List.getElem?_eq_getElem hl)⟩
/-- .. at the address that is known already -/
theorem SlAt.row {α : Type} {w : World} {k : Nat} {enc : α → List Value} {b off n : Nat} {xs : List α} {i : Nat} (h : SlAt w k enc (some ⟨b, off, none⟩) n xs) (hi : i < n) :
    ∃ x, xs[i]? = some x ∧ RowAt w b (off + i * k) (enc x) := by
  obtain ⟨b', off', x, hA, _, hx, hr⟩ := h.at_ hi
  simp only [Option.some.injEq, Addr.mk.injEq, and_true] at hA
  obtain ⟨rfl, rfl⟩ := hA
  exact ⟨x, hx, hr⟩

def encInt (x : Int) : List Value := [.int .i64 x]
theorem ret_int {a b : Int} (h : a = b) : Ending.returned (.int .i64 a) = .returned (.int .i64 b) := by rw [h]
theorem ret_bool {a b : Bool} (h : a = b) : Ending.returned (.bool a) = .returned (.bool b) := by rw [h]

end Go.Proofs.E
