/-
  No cell of these rows narrows 'for every input' (looked for: loops, veiled, ifaces, maps, wideKeys, modest, calm, conditions, laid).
  DERIVED. THE GIVEN ROWS OF THIS SEAT. 7 by the template 'for every input the law returns true; each argument reads behind the call as it read before'; 0 by the template 'total and deterministic' (their statements: YtlihpbblpmpcfaaTotals.lean).
  GIVEN WITH THE SEED: the statements are not yours to turn. If you find one false, say at which input.
  Laid BY PROGRAM, IN A SANDBOX (cutbox-rows.mjs): the forced cells as the released guide's own fill.sh prints them over the translation e349ca968719d3e0… (all of the seat's roots in one cut). By AI agents, Wed Nov 11 2026. No macro, syntax, notation, axiom, sorry.
-/
import Derived.Test.YtlihpbblpmpcfaaChecked
import GoSem.Claim
import GoSem.ClaimJoined
import GoSem.ClaimMapViews
import Derived.JoinedTies
import Derived.KernelRfl
namespace Go.Proofs.Ytlihpbblpmpcfaa
/- THE CELL 'sum', in the pinned program and in every row, IS THE sha256 OF THE DUMP (.gsa) THAT YtlihpbblpmpcfaaProg.lean LOADS. Nothing in Lean hashes anything: it is a label: what it is worth is what the hold of that sum in a sandbox is worth. -/
noncomputable def Try.pinned : Pinned := { name := "ytlihpbblpmpcfaa", sum := "e349ca968719d3e01545ee94085982021eb480de60a8a81c10eccb2db692b7d3", checked := Try.checked }
namespace Rows
def none {H : Type} : Left H := { results := [], args := [] }

/-- 'bikesharelaw22.RideChecks': WHATEVER THE INPUT: true; the input reads as it did. -/
def rideChecksSpec : ChangeSpec := { name := "rideChecks", fn := fun _ => fun
  | [d] => { results := [.lit (.bool true)], args := [d] }
  | _ => none }
def rideChecksRow : OpenClaim := { program := "ytlihpbblpmpcfaa", sum := "e349ca968719d3e01545ee94085982021eb480de60a8a81c10eccb2db692b7d3", func := "bikeshare/bikesharelaw22.RideChecks", spec := "rideChecks", unfollowed := true, recurses := true, apart := false }
def RideChecksSaid : Prop := rideChecksRow.holds Try.pinned (OpenSpec.ofChange rideChecksSpec)

/-- ITS FALSE NEIGHBOUR: 'it returns false'. Refute it at one input. -/
def rideChecksWrong : ChangeSpec := { name := "rideChecks", fn := fun _ => fun
  | [d] => { results := [.lit (.bool false)], args := [d] }
  | _ => none }
def RideChecksWrongFalsely : Prop := rideChecksRow.holds Try.pinned (OpenSpec.ofChange rideChecksWrong)

/-- 'bikesharelaw22.RideLists': WHATEVER THE INPUT: true; the input reads as it did. -/
def rideListsSpec : ChangeSpec := { name := "rideLists", fn := fun _ => fun
  | [d1, d2, d3, d4] => { results := [.lit (.bool true)], args := [d1, d2, d3, d4] }
  | _ => none }
def rideListsRow : OpenClaim := { program := "ytlihpbblpmpcfaa", sum := "e349ca968719d3e01545ee94085982021eb480de60a8a81c10eccb2db692b7d3", func := "bikeshare/bikesharelaw22.RideLists", spec := "rideLists", unfollowed := true, recurses := true, apart := false }
def RideListsSaid : Prop := rideListsRow.holds Try.pinned (OpenSpec.ofChange rideListsSpec)

/-- ITS FALSE NEIGHBOUR: 'it returns false'. Refute it at one input. -/
def rideListsWrong : ChangeSpec := { name := "rideLists", fn := fun _ => fun
  | [d1, d2, d3, d4] => { results := [.lit (.bool false)], args := [d1, d2, d3, d4] }
  | _ => none }
def RideListsWrongFalsely : Prop := rideListsRow.holds Try.pinned (OpenSpec.ofChange rideListsWrong)

/-- 'bikesharelaw22.RideValid': WHATEVER THE INPUT: true; the input reads as it did. -/
def rideValidSpec : ChangeSpec := { name := "rideValid", fn := fun _ => fun
  | [d1, d2] => { results := [.lit (.bool true)], args := [d1, d2] }
  | _ => none }
def rideValidRow : OpenClaim := { program := "ytlihpbblpmpcfaa", sum := "e349ca968719d3e01545ee94085982021eb480de60a8a81c10eccb2db692b7d3", func := "bikeshare/bikesharelaw22.RideValid", spec := "rideValid", unfollowed := true, recurses := true, apart := false }
def RideValidSaid : Prop := rideValidRow.holds Try.pinned (OpenSpec.ofChange rideValidSpec)

/-- ITS FALSE NEIGHBOUR: 'it returns false'. Refute it at one input. -/
def rideValidWrong : ChangeSpec := { name := "rideValid", fn := fun _ => fun
  | [d1, d2] => { results := [.lit (.bool false)], args := [d1, d2] }
  | _ => none }
def RideValidWrongFalsely : Prop := rideValidRow.holds Try.pinned (OpenSpec.ofChange rideValidWrong)

/-- 'bikesharelaw22.RideSorts': WHATEVER THE INPUT: true; the input reads as it did. -/
def rideSortsSpec : ChangeSpec := { name := "rideSorts", fn := fun _ => fun
  | [d1, d2] => { results := [.lit (.bool true)], args := [d1, d2] }
  | _ => none }
def rideSortsRow : OpenClaim := { program := "ytlihpbblpmpcfaa", sum := "e349ca968719d3e01545ee94085982021eb480de60a8a81c10eccb2db692b7d3", func := "bikeshare/bikesharelaw22.RideSorts", spec := "rideSorts", unfollowed := true, recurses := true, apart := false }
def RideSortsSaid : Prop := rideSortsRow.holds Try.pinned (OpenSpec.ofChange rideSortsSpec)

/-- ITS FALSE NEIGHBOUR: 'it returns false'. Refute it at one input. -/
def rideSortsWrong : ChangeSpec := { name := "rideSorts", fn := fun _ => fun
  | [d1, d2] => { results := [.lit (.bool false)], args := [d1, d2] }
  | _ => none }
def RideSortsWrongFalsely : Prop := rideSortsRow.holds Try.pinned (OpenSpec.ofChange rideSortsWrong)

/-- 'bikesharelaw22.RideFinals': WHATEVER THE INPUT: true; the input reads as it did. -/
def rideFinalsSpec : ChangeSpec := { name := "rideFinals", fn := fun _ => fun
  | [d1, d2, d3, d4] => { results := [.lit (.bool true)], args := [d1, d2, d3, d4] }
  | _ => none }
def rideFinalsRow : OpenClaim := { program := "ytlihpbblpmpcfaa", sum := "e349ca968719d3e01545ee94085982021eb480de60a8a81c10eccb2db692b7d3", func := "bikeshare/bikesharelaw22.RideFinals", spec := "rideFinals", unfollowed := true, recurses := true, apart := false }
def RideFinalsSaid : Prop := rideFinalsRow.holds Try.pinned (OpenSpec.ofChange rideFinalsSpec)

/-- ITS FALSE NEIGHBOUR: 'it returns false'. Refute it at one input. -/
def rideFinalsWrong : ChangeSpec := { name := "rideFinals", fn := fun _ => fun
  | [d1, d2, d3, d4] => { results := [.lit (.bool false)], args := [d1, d2, d3, d4] }
  | _ => none }
def RideFinalsWrongFalsely : Prop := rideFinalsRow.holds Try.pinned (OpenSpec.ofChange rideFinalsWrong)

/-- 'bikesharelaw22.RideSpots': WHATEVER THE INPUT: true; the input reads as it did. -/
def rideSpotsSpec : ChangeSpec := { name := "rideSpots", fn := fun _ => fun
  | [d1, d2] => { results := [.lit (.bool true)], args := [d1, d2] }
  | _ => none }
def rideSpotsRow : OpenClaim := { program := "ytlihpbblpmpcfaa", sum := "e349ca968719d3e01545ee94085982021eb480de60a8a81c10eccb2db692b7d3", func := "bikeshare/bikesharelaw22.RideSpots", spec := "rideSpots", unfollowed := true, recurses := true, apart := false }
def RideSpotsSaid : Prop := rideSpotsRow.holds Try.pinned (OpenSpec.ofChange rideSpotsSpec)

/-- ITS FALSE NEIGHBOUR: 'it returns false'. Refute it at one input. -/
def rideSpotsWrong : ChangeSpec := { name := "rideSpots", fn := fun _ => fun
  | [d1, d2] => { results := [.lit (.bool false)], args := [d1, d2] }
  | _ => none }
def RideSpotsWrongFalsely : Prop := rideSpotsRow.holds Try.pinned (OpenSpec.ofChange rideSpotsWrong)

/-- 'bikesharelaw22.RideCovers': WHATEVER THE INPUT: true; the input reads as it did. -/
def rideCoversSpec : ChangeSpec := { name := "rideCovers", fn := fun _ => fun
  | [d1, d2, d3] => { results := [.lit (.bool true)], args := [d1, d2, d3] }
  | _ => none }
def rideCoversRow : OpenClaim := { program := "ytlihpbblpmpcfaa", sum := "e349ca968719d3e01545ee94085982021eb480de60a8a81c10eccb2db692b7d3", func := "bikeshare/bikesharelaw22.RideCovers", spec := "rideCovers", unfollowed := true, recurses := true, apart := false }
def RideCoversSaid : Prop := rideCoversRow.holds Try.pinned (OpenSpec.ofChange rideCoversSpec)

/-- ITS FALSE NEIGHBOUR: 'it returns false'. Refute it at one input. -/
def rideCoversWrong : ChangeSpec := { name := "rideCovers", fn := fun _ => fun
  | [d1, d2, d3] => { results := [.lit (.bool false)], args := [d1, d2, d3] }
  | _ => none }
def RideCoversWrongFalsely : Prop := rideCoversRow.holds Try.pinned (OpenSpec.ofChange rideCoversWrong)

/- THE SECOND FORM. 'bulk': how many values and letters a reading holds, each counted each time it is reached (what is shared counts as often as it is met; a slice's spare places count too). A statement '..UptoSaid' is the law's where the arguments, and the package variables that the reading takes, are together of bulk at most 1048576: NARROWER than '..Said'. Prove '..Said' where nothing that the law and all that it calls make is longer than what came in: it says more and counts as full. Else prove '..UptoSaid'. A law counts once. -/
mutual
def uptoBulk {H : Type} : DataW H → Nat
  | .lit (.string bytes) => bytes.length + 1
  | .lit _ => 1
  | .nil => 1
  | .ptr d => uptoBulk d + 1
  | .slice elems spare => uptoBulkAll elems + uptoBulkAll spare + 1
  | .agg parts => uptoBulkAll parts + 1
  | .iface _ d => uptoBulk d + 1
  | .map entries => uptoBulkEntries entries + 1
  | .held _ => 1
def uptoBulkAll {H : Type} : List (DataW H) → Nat
  | [] => 0
  | d :: r => uptoBulk d + uptoBulkAll r
def uptoBulkEntries {H : Type} : List (Lit × DataW H) → Nat
  | [] => 0
  | x :: r => uptoBulkEntry x + uptoBulkEntries r
def uptoBulkEntry {H : Type} : Lit × DataW H → Nat
  | (.string bytes, d) => bytes.length + uptoBulk d + 1
  | (_, d) => uptoBulk d + 1
 end
def uptoSmall : (H : Type) → List (DataW H) → Bool := fun _ ds => decide (uptoBulkAll ds ≤ 1048576)
def OpenSpec.upto (s : _root_.Go.ChangeSpec) : _root_.Go.OpenSpec := { _root_.Go.OpenSpec.ofChange s with cond := some uptoSmall }

/-- 'bikesharelaw22.RideChecks', WHERE WHAT IT READS IS OF BULK AT MOST 1048576: true; the input reads as it did. -/
def rideChecksUptoRow : OpenClaim := { program := "ytlihpbblpmpcfaa", sum := "e349ca968719d3e01545ee94085982021eb480de60a8a81c10eccb2db692b7d3", func := "bikeshare/bikesharelaw22.RideChecks", spec := "rideChecks", unfollowed := true, recurses := true, apart := false, narrowed := true }
def RideChecksUptoSaid : Prop := rideChecksUptoRow.holds Try.pinned (OpenSpec.upto rideChecksSpec)

/-- 'bikesharelaw22.RideLists', WHERE WHAT IT READS IS OF BULK AT MOST 1048576: true; the input reads as it did. -/
def rideListsUptoRow : OpenClaim := { program := "ytlihpbblpmpcfaa", sum := "e349ca968719d3e01545ee94085982021eb480de60a8a81c10eccb2db692b7d3", func := "bikeshare/bikesharelaw22.RideLists", spec := "rideLists", unfollowed := true, recurses := true, apart := false, narrowed := true }
def RideListsUptoSaid : Prop := rideListsUptoRow.holds Try.pinned (OpenSpec.upto rideListsSpec)

/-- 'bikesharelaw22.RideValid', WHERE WHAT IT READS IS OF BULK AT MOST 1048576: true; the input reads as it did. -/
def rideValidUptoRow : OpenClaim := { program := "ytlihpbblpmpcfaa", sum := "e349ca968719d3e01545ee94085982021eb480de60a8a81c10eccb2db692b7d3", func := "bikeshare/bikesharelaw22.RideValid", spec := "rideValid", unfollowed := true, recurses := true, apart := false, narrowed := true }
def RideValidUptoSaid : Prop := rideValidUptoRow.holds Try.pinned (OpenSpec.upto rideValidSpec)

/-- 'bikesharelaw22.RideSorts', WHERE WHAT IT READS IS OF BULK AT MOST 1048576: true; the input reads as it did. -/
def rideSortsUptoRow : OpenClaim := { program := "ytlihpbblpmpcfaa", sum := "e349ca968719d3e01545ee94085982021eb480de60a8a81c10eccb2db692b7d3", func := "bikeshare/bikesharelaw22.RideSorts", spec := "rideSorts", unfollowed := true, recurses := true, apart := false, narrowed := true }
def RideSortsUptoSaid : Prop := rideSortsUptoRow.holds Try.pinned (OpenSpec.upto rideSortsSpec)

/-- 'bikesharelaw22.RideFinals', WHERE WHAT IT READS IS OF BULK AT MOST 1048576: true; the input reads as it did. -/
def rideFinalsUptoRow : OpenClaim := { program := "ytlihpbblpmpcfaa", sum := "e349ca968719d3e01545ee94085982021eb480de60a8a81c10eccb2db692b7d3", func := "bikeshare/bikesharelaw22.RideFinals", spec := "rideFinals", unfollowed := true, recurses := true, apart := false, narrowed := true }
def RideFinalsUptoSaid : Prop := rideFinalsUptoRow.holds Try.pinned (OpenSpec.upto rideFinalsSpec)

/-- 'bikesharelaw22.RideSpots', WHERE WHAT IT READS IS OF BULK AT MOST 1048576: true; the input reads as it did. -/
def rideSpotsUptoRow : OpenClaim := { program := "ytlihpbblpmpcfaa", sum := "e349ca968719d3e01545ee94085982021eb480de60a8a81c10eccb2db692b7d3", func := "bikeshare/bikesharelaw22.RideSpots", spec := "rideSpots", unfollowed := true, recurses := true, apart := false, narrowed := true }
def RideSpotsUptoSaid : Prop := rideSpotsUptoRow.holds Try.pinned (OpenSpec.upto rideSpotsSpec)

/-- 'bikesharelaw22.RideCovers', WHERE WHAT IT READS IS OF BULK AT MOST 1048576: true; the input reads as it did. -/
def rideCoversUptoRow : OpenClaim := { program := "ytlihpbblpmpcfaa", sum := "e349ca968719d3e01545ee94085982021eb480de60a8a81c10eccb2db692b7d3", func := "bikeshare/bikesharelaw22.RideCovers", spec := "rideCovers", unfollowed := true, recurses := true, apart := false, narrowed := true }
def RideCoversUptoSaid : Prop := rideCoversUptoRow.holds Try.pinned (OpenSpec.upto rideCoversSpec)

end Rows
end Go.Proofs.Ytlihpbblpmpcfaa
