/-
  Plain functions: what the penalties compute (no program in sight).
-/
namespace Go.Proofs.Pen

structure V where
  ride : Int
  rider : Int
  moment : Int
  kind : Int

def V.zero : V := ⟨0, 0, 0, 0⟩

def fineBad (x : Int) : Bool := decide (x < 0) || decide (1000000 < x)
def pErr (fines : List Int) (days : Int) : Int :=
  if 512 < fines.length then 8 else if fines.any fineBad then 1 else if days < 0 ∨ 49709 < days then 1 else 0

def vBad (v : V) : Int :=
  if v.ride < 1 ∨ 1000000 < v.ride ∨ v.rider < 0 ∨ 128 ≤ v.rider ∨ v.moment < 0 ∨ 4294943999 < v.moment then 1 else if v.kind < 1 ∨ 3 < v.kind then 14 else 0
def hasRide (l : List V) (r : Int) : Bool := l.any (fun x => x.ride == r)
def vOne (seen : List V) (v : V) : Int := if vBad v ≠ 0 then vBad v else if hasRide seen v.ride then 6 else 0
def vErrL : List V → List V → Int
  | _, [] => 0
  | seen, v :: rest => if vOne seen v ≠ 0 then vOne seen v else vErrL (seen ++ [v]) rest
def vErr (l : List V) : Int := if 256 < l.length then 8 else vErrL [] l

def before (a b : V) : Bool := decide (a.moment < b.moment) || (decide (a.moment = b.moment) && decide (a.ride < b.ride))
def inDays (days : Int) (x v : V) : Bool := decide (v.moment / 86400 - days ≤ x.moment / 86400)
def hit (days : Int) (v x : V) : Bool := (x.rider == v.rider && x.kind == 2) && (before x v && inDays days x v)
def cnt (days : Int) (l : List V) (v : V) : Nat := (l.filter (hit days v)).length
def num (days : Int) (l : List V) (v : V) : Int := if v.kind = 2 then 1 + (cnt days l v : Int) else 0
def fine (fines : List Int) (days : Int) (l : List V) (v : V) : Int :=
  if num days l v = 0 ∨ fines.length = 0 then 0 else fines.getD (min (num days l v).toNat fines.length - 1) 0
def viol (rider : Int) (l : List V) : List V := l.filter (fun x => x.rider == rider && x.kind == 2)
def sumF (f : V → Int) (l : List V) : Int := (l.map f).sum
def total (fines : List Int) (days : Int) (l : List V) (rider : Int) : Int := sumF (fine fines days l) (viol rider l)

def cErr (fines : List Int) (days : Int) (l : List V) : Int := if pErr fines days ≠ 0 then pErr fines days else vErr l

/-- what Number answers -/
def numR (fines : List Int) (days : Int) (l : List V) (i : Int) : Int × Int :=
  if cErr fines days l ≠ 0 then (0, cErr fines days l) else if i < 0 ∨ (l.length : Int) ≤ i then (0, 7) else (num days l (l.getD i.toNat V.zero), 0)
def fineR (fines : List Int) (days : Int) (l : List V) (i : Int) : Int × Int :=
  if cErr fines days l ≠ 0 then (0, cErr fines days l) else if i < 0 ∨ (l.length : Int) ≤ i then (0, 7) else (fine fines days l (l.getD i.toNat V.zero), 0)
def totalR (fines : List Int) (days : Int) (l : List V) (rider : Int) : Int × Int :=
  if cErr fines days l ≠ 0 then (0, cErr fines days l) else if 1000000000000 < total fines days l rider then (0, 2) else (total fines days l rider, 0)

theorem take_snoc {α : Type} (l : List α) (k : Nat) (v : α) (h : l[k]? = some v) : l.take (k + 1) = l.take k ++ [v] := by
  rw [List.take_add_one, h]; rfl

theorem drop_cons {α : Type} (l : List α) (k : Nat) (v : α) (h : l[k]? = some v) : l.drop k = v :: l.drop (k + 1) := by
  obtain ⟨hk, rfl⟩ := List.getElem?_eq_some_iff.1 h
  exact List.drop_eq_getElem_cons hk

theorem vErrL_split (seen l : List V) (k : Nat) (v : V) (h : l[k]? = some v) : vErrL seen (l.drop k) = if vOne seen v ≠ 0 then vOne seen v else vErrL (seen ++ [v]) (l.drop (k + 1)) := by
  rw [drop_cons l k v h]; rfl

end Go.Proofs.Pen
