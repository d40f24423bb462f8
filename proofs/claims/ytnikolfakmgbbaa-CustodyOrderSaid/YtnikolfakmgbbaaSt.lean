/-
  Plain functions: where the bicycles are (the program's way; no program in sight).
-/
import Derived.Test.YtnikolfakmgbbaaSo
namespace Go.Proofs.Cus

structure Sp where
  where_ : Int
  place : Int
  ride : Int
  paused : Bool
deriving DecidableEq, Inhabited
structure PT where
  rider : Int
  bike : Int
  paused : Bool
deriving DecidableEq, Inhabited
structure PS where
  spots : List Sp
  open_ : List (Int × PT)
  used : List Int
deriving DecidableEq, Inhabited

def parkedS (x : Sp) : Bool := decide (x.where_ = 1) || decide (x.where_ = 2)
def atP (wh pl : Int) (x : Sp) : Bool := decide (x.where_ = wh) && decide (x.place = pl)
def countP (l : List Sp) (wh pl : Int) : Nat := l.countP (atP wh pl)
def ridingP (l : List (Int × PT)) (rider : Int) : Bool := l.any fun p => decide (p.2.rider = rider)
def lookP (l : List (Int × PT)) (id : Int) : Option PT := (l.find? fun p => p.1 == id).map (·.2)
def usedP (l : List Int) (id : Int) : Bool := l.any fun i => i == id
def refuse (no : Bool) (e : Int) : Int := if no = true then e else 0
def checkP (trucks : List Int) (s : PS) (e : Ev) : Int :=
  let x := s.spots.getD e.bike.toNat default
  if e.kind = 1 then (if (!parkedS x && decide (0 < (countP s.spots 1 e.place : Int))) = true then 22 else refuse (parkedS x) 23)
  else if e.kind = 2 then refuse (parkedS x) 23
  else if e.kind = 3 then (if parkedS x = false then 23 else if usedP s.used e.ride = true then 6 else refuse (ridingP s.open_ e.rider) 22)
  else if e.kind = 4 then (match lookP s.open_ e.ride with | none => 7 | some t => if parkedS x = false then 23 else refuse t.paused 12)
  else if e.kind = 5 ∨ e.kind = 6 then (if x.where_ ≠ 3 then 23 else refuse (x.paused == decide (e.kind = 5)) 12)
  else if e.kind = 7 then (if (decide (x.where_ = 3) || decide (x.where_ = 4)) = true then 23 else refuse (decide (trucks.getD e.place.toNat 0 ≤ (countP s.spots 4 e.place : Int))) 24)
  else if e.kind = 8 then refuse (decide (x.where_ = 3) || decide (x.where_ = 5)) 23
  else if e.kind = 9 then refuse (decide (x.where_ = 5) || decide (x.where_ = 6)) 23
  else 0

def leaveP (s : PS) (bike : Nat) (to : Sp) : PS :=
  { s with open_ := if (s.spots.getD bike default).where_ = 3 then s.open_.eraseP (fun p => p.1 == (s.spots.getD bike default).ride) else s.open_, spots := s.spots.set bike to }
def setTrip (l : List (Int × PT)) (id : Int) (t : PT) : List (Int × PT) := l.map fun p => if p.1 == id then (p.1, t) else p
def usePut (l : List Int) (id : Int) : List Int := if usedP l id = true then l else l ++ [id]
def doP (s : PS) (e : Ev) : PS :=
  let k := e.bike.toNat
  if e.kind = 1 then leaveP s k ⟨1, e.place, 0, false⟩
  else if e.kind = 2 then leaveP s k ⟨2, e.place, 0, false⟩
  else if e.kind = 3 then { spots := s.spots.set k ⟨3, 0, e.ride, false⟩, open_ := s.open_ ++ [(e.ride, ⟨e.rider, e.bike, false⟩)], used := usePut s.used e.ride }
  else if e.kind = 4 then (match lookP s.open_ e.ride with
    | none => s
    | some t => { s with spots := (s.spots.set t.bike.toNat (s.spots.getD k default)).set k ⟨3, 0, e.ride, false⟩, open_ := setTrip s.open_ e.ride { t with bike := e.bike } })
  else if e.kind = 5 ∨ e.kind = 6 then
    let p := decide (e.kind = 5)
    let x := s.spots.getD k default
    { s with spots := s.spots.set k { x with paused := p }, open_ := match lookP s.open_ x.ride with | none => s.open_ | some t => setTrip s.open_ x.ride { t with paused := p } }
  else if e.kind = 7 then leaveP s k ⟨4, e.place, 0, false⟩
  else if e.kind = 8 then leaveP s k ⟨5, 0, 0, false⟩
  else if e.kind = 9 then leaveP s k ⟨6, 0, 0, false⟩
  else s
def beginP (n : Nat) : PS := ⟨List.replicate n ⟨5, 0, 0, false⟩, [], []⟩

/-- what holds of the states that are reached -/
structure PInv (n : Nat) (s : PS) : Prop where
  len : s.spots.length = n
  keys : (s.open_.map (·.1)).Nodup
  used : ∀ p ∈ s.open_, usedP s.used p.1 = true
  bike : ∀ p ∈ s.open_, 0 ≤ p.2.bike ∧ ∃ x, s.spots[p.2.bike.toNat]? = some x ∧ x.where_ = 3 ∧ x.ride = p.1 ∧ x.paused = p.2.paused
  spot : ∀ (k : Nat) x, s.spots[k]? = some x → x.where_ = 3 → ∃ t, (x.ride, t) ∈ s.open_ ∧ t.bike = (k : Int)

end Go.Proofs.Cus
