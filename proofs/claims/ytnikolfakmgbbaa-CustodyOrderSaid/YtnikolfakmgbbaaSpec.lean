/-
  Plain functions: fleets, events, their errors and their order (no program in sight).
-/
namespace Go.Proofs.Cus

structure Ev where
  device : Int
  seq : Int
  at_ : Int
  late : Int
  kind : Int
  bike : Int
  place : Int
  rider : Int
  ride : Int
structure Fl where
  bikes : Int
  riders : Int
  devices : Int
  docks : List Int
  trucks : List Int

def within (n low high : Int) : Bool := decide (low ≤ n) && decide (n ≤ high)
def allIn (l : List Int) (most : Int) : Bool := l.all fun n => within n 1 most
def flErr (f : Fl) : Int :=
  if ((!within f.bikes 1 128 || !within f.riders 1 128) || !within f.devices 1 256) = true then 1
  else if 32 < f.docks.length ∨ 8 < f.trucks.length then 8
  else if (!allIn f.docks 32 || !allIn f.trucks 32) = true then 1 else 0
def placed (f : Fl) (e : Ev) : Bool :=
  if e.kind = 1 then (decide (0 ≤ e.place) && decide (e.place.tdiv 32 < f.docks.length)) && decide (e.place.tmod 32 < f.docks.getD (e.place.tdiv 32).toNat 0)
  else if e.kind = 2 then within e.place 0 63
  else if e.kind = 7 then within e.place 0 ((f.trucks.length : Int) - 1)
  else decide (e.place = 0)
def named (f : Fl) (e : Ev) : Bool :=
  (if e.kind = 3 then within e.rider 0 (f.riders - 1) else decide (e.rider = 0)) && (if e.kind = 3 ∨ e.kind = 4 then within e.ride 1 1000000 else decide (e.ride = 0))
def evErr (f : Fl) (e : Ev) : Int :=
  if flErr f ≠ 0 then flErr f
  else if ((((!within e.device 0 (f.devices - 1) || !within e.seq 1 1048576) || decide (e.at_ < 0)) || decide (e.late < e.at_)) || decide (4294943999 < e.late)) = true then 1
  else if within e.kind 1 10 = false then 14
  else if (!within e.bike 0 (f.bikes - 1) || (decide (e.kind = 10) && !decide (e.bike = 0))) = true then 1
  else if placed f e = false then 7
  else if named f e = false then 1 else 0

end Go.Proofs.Cus
