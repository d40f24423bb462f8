/-
  Plain functions: stays and loads, the program's way.
-/
import Derived.Test.YtnikolfakmgbbaaSr
namespace Go.Proofs.Cus

structure Sty where
  bike : Int
  where_ : Int
  place : Int
  ride : Int
  from_ : Int
  to_ : Int
deriving DecidableEq, Inhabited
structure Lv where
  at_ : Int
  count : Int
deriving DecidableEq, Inhabited

def samePl (x y : Sty) : Bool := (decide (x.where_ = y.where_) && decide (x.place = y.place)) && decide (x.ride = y.ride)
/-- the stay ends -/
def endS (at_ : Int) (z : Sty × List Sty) : Sty × List Sty :=
  let now := { z.1 with to_ := at_ }
  if z.1.from_ = at_ then (now, z.2)
  else
    match z.2.getLast? with
    | some y => if samePl y z.1 = true then (now, z.2.dropLast ++ [{ y with to_ := at_ }]) else (now, z.2 ++ [now])
    | none => (now, z.2 ++ [now])
def movedS (x : Sp) (y : Sty) : Bool := (!decide (x.where_ = y.where_) || !decide (x.place = y.place)) || !decide (x.ride = y.ride)
def stayCb (bike : Nat) (z : Sty × List Sty) (s : PS) (e : Ev) (er : Int) : Sty × List Sty :=
  let x := s.spots.getD bike default
  if er = 0 ∧ movedS x z.1 = true then (⟨bike, x.where_, x.place, x.ride, e.at_, 0⟩, (endS e.at_ z).2) else z
def stay0 (bike : Nat) : Sty := ⟨bike, 5, 0, 0, 0, 0⟩
def loadCb (truck : Nat) (z : List Lv) (s : PS) (e : Ev) (er : Int) : List Lv :=
  if er ≠ 0 then z
  else
    match z.getLast? with
    | some y => if y.at_ = e.at_ then z.dropLast ++ [{ y with count := (countP s.spots 4 truck : Int) }] else z ++ [⟨e.at_, (countP s.spots 4 truck : Int)⟩]
    | none => z

theorem last_set {α : Type} {l : List α} {y z : α} (h : l.getLast? = some y) : l[l.length - 1]? = some y ∧ l.set (l.length - 1) z = l.dropLast ++ [z] ∧ 0 < l.length := by
  have hne : l ≠ [] := fun e => by subst e; cases h
  have hl : 0 < l.length := List.length_pos_iff.2 hne
  refine ⟨by rw [List.getLast?_eq_getElem?] at h; exact h, ?_, hl⟩
  conv => lhs; rw [← List.dropLast_concat_getLast hne]
  rw [List.set_append_right _ _ (by simp)]
  simp

end Go.Proofs.Cus
