/-
  No cell of these rows narrows 'for every input' (looked for: loops, veiled, ifaces, maps, wideKeys, modest, calm, conditions, laid).
  DERIVED. THE GIVEN ROWS OF THIS SEAT. 9 by the template 'for every input the law returns true; each argument reads behind the call as it read before'; 0 by the template 'total and deterministic' (their statements: YtnikolfakmgbbaaTotals.lean).
  GIVEN WITH THE SEED: the statements are not yours to turn. If you find one false, say at which input.
  Laid BY PROGRAM, IN A SANDBOX (cutbox-rows.mjs): the forced cells as the released guide's own fill.sh prints them over the translation 397f7c2ea6df187b… (all of the seat's roots in one cut). By AI agents, Wed Nov 11 2026. No macro, syntax, notation, axiom, sorry.
-/
import Derived.Test.YtnikolfakmgbbaaChecked
import GoSem.Claim
import GoSem.ClaimJoined
import GoSem.ClaimMapViews
import Derived.JoinedTies
import Derived.KernelRfl
namespace Go.Proofs.Ytnikolfakmgbbaa
/- THE CELL 'sum', in the pinned program and in every row, IS THE sha256 OF THE DUMP (.gsa) THAT YtnikolfakmgbbaaProg.lean LOADS. Nothing in Lean hashes anything: it is a label: what it is worth is what the hold of that sum in a sandbox is worth. -/
noncomputable def Try.pinned : Pinned := { name := "ytnikolfakmgbbaa", sum := "397f7c2ea6df187b3d504bfc6e10a7f0aafb30240a3e713fb01c05ea177288ca", checked := Try.checked }
namespace Rows
def none {H : Type} : Left H := { results := [], args := [] }

/-- 'bikesharelaw20.CustodyAccepts': WHATEVER THE INPUT: true; the input reads as it did. -/
def custodyAcceptsSpec : ChangeSpec := { name := "custodyAccepts", fn := fun _ => fun
  | [d1, d2] => { results := [.lit (.bool true)], args := [d1, d2] }
  | _ => none }
def custodyAcceptsRow : OpenClaim := { program := "ytnikolfakmgbbaa", sum := "397f7c2ea6df187b3d504bfc6e10a7f0aafb30240a3e713fb01c05ea177288ca", func := "bikeshare/bikesharelaw20.CustodyAccepts", spec := "custodyAccepts", unfollowed := true, recurses := true, apart := false }
def CustodyAcceptsSaid : Prop := custodyAcceptsRow.holds Try.pinned (OpenSpec.ofChange custodyAcceptsSpec)

/-- ITS FALSE NEIGHBOUR: 'it returns false'. Refute it at one input. -/
def custodyAcceptsWrong : ChangeSpec := { name := "custodyAccepts", fn := fun _ => fun
  | [d1, d2] => { results := [.lit (.bool false)], args := [d1, d2] }
  | _ => none }
def CustodyAcceptsWrongFalsely : Prop := custodyAcceptsRow.holds Try.pinned (OpenSpec.ofChange custodyAcceptsWrong)

/-- 'bikesharelaw20.CustodySpots': WHATEVER THE INPUT: true; the input reads as it did. -/
def custodySpotsSpec : ChangeSpec := { name := "custodySpots", fn := fun _ => fun
  | [d1, d2, d3] => { results := [.lit (.bool true)], args := [d1, d2, d3] }
  | _ => none }
def custodySpotsRow : OpenClaim := { program := "ytnikolfakmgbbaa", sum := "397f7c2ea6df187b3d504bfc6e10a7f0aafb30240a3e713fb01c05ea177288ca", func := "bikeshare/bikesharelaw20.CustodySpots", spec := "custodySpots", unfollowed := true, recurses := true, apart := false }
def CustodySpotsSaid : Prop := custodySpotsRow.holds Try.pinned (OpenSpec.ofChange custodySpotsSpec)

/-- ITS FALSE NEIGHBOUR: 'it returns false'. Refute it at one input. -/
def custodySpotsWrong : ChangeSpec := { name := "custodySpots", fn := fun _ => fun
  | [d1, d2, d3] => { results := [.lit (.bool false)], args := [d1, d2, d3] }
  | _ => none }
def CustodySpotsWrongFalsely : Prop := custodySpotsRow.holds Try.pinned (OpenSpec.ofChange custodySpotsWrong)

/-- 'bikesharelaw20.CustodyTraces': WHATEVER THE INPUT: true; the input reads as it did. -/
def custodyTracesSpec : ChangeSpec := { name := "custodyTraces", fn := fun _ => fun
  | [d1, d2, d3] => { results := [.lit (.bool true)], args := [d1, d2, d3] }
  | _ => none }
def custodyTracesRow : OpenClaim := { program := "ytnikolfakmgbbaa", sum := "397f7c2ea6df187b3d504bfc6e10a7f0aafb30240a3e713fb01c05ea177288ca", func := "bikeshare/bikesharelaw20.CustodyTraces", spec := "custodyTraces", unfollowed := true, recurses := true, apart := false }
def CustodyTracesSaid : Prop := custodyTracesRow.holds Try.pinned (OpenSpec.ofChange custodyTracesSpec)

/-- ITS FALSE NEIGHBOUR: 'it returns false'. Refute it at one input. -/
def custodyTracesWrong : ChangeSpec := { name := "custodyTraces", fn := fun _ => fun
  | [d1, d2, d3] => { results := [.lit (.bool false)], args := [d1, d2, d3] }
  | _ => none }
def CustodyTracesWrongFalsely : Prop := custodyTracesRow.holds Try.pinned (OpenSpec.ofChange custodyTracesWrong)

/-- 'bikesharelaw20.CustodyStays': WHATEVER THE INPUT: true; the input reads as it did. -/
def custodyStaysSpec : ChangeSpec := { name := "custodyStays", fn := fun _ => fun
  | [d1, d2, d3] => { results := [.lit (.bool true)], args := [d1, d2, d3] }
  | _ => none }
def custodyStaysRow : OpenClaim := { program := "ytnikolfakmgbbaa", sum := "397f7c2ea6df187b3d504bfc6e10a7f0aafb30240a3e713fb01c05ea177288ca", func := "bikeshare/bikesharelaw20.CustodyStays", spec := "custodyStays", unfollowed := true, recurses := true, apart := false }
def CustodyStaysSaid : Prop := custodyStaysRow.holds Try.pinned (OpenSpec.ofChange custodyStaysSpec)

/-- ITS FALSE NEIGHBOUR: 'it returns false'. Refute it at one input. -/
def custodyStaysWrong : ChangeSpec := { name := "custodyStays", fn := fun _ => fun
  | [d1, d2, d3] => { results := [.lit (.bool false)], args := [d1, d2, d3] }
  | _ => none }
def CustodyStaysWrongFalsely : Prop := custodyStaysRow.holds Try.pinned (OpenSpec.ofChange custodyStaysWrong)

/-- 'bikesharelaw20.CustodyOrder': WHATEVER THE INPUT: true; the input reads as it did. -/
def custodyOrderSpec : ChangeSpec := { name := "custodyOrder", fn := fun _ => fun
  | [d1, d2, d3, d4] => { results := [.lit (.bool true)], args := [d1, d2, d3, d4] }
  | _ => none }
def custodyOrderRow : OpenClaim := { program := "ytnikolfakmgbbaa", sum := "397f7c2ea6df187b3d504bfc6e10a7f0aafb30240a3e713fb01c05ea177288ca", func := "bikeshare/bikesharelaw20.CustodyOrder", spec := "custodyOrder", unfollowed := true, recurses := true, apart := false }
def CustodyOrderSaid : Prop := custodyOrderRow.holds Try.pinned (OpenSpec.ofChange custodyOrderSpec)

/-- ITS FALSE NEIGHBOUR: 'it returns false'. Refute it at one input. -/
def custodyOrderWrong : ChangeSpec := { name := "custodyOrder", fn := fun _ => fun
  | [d1, d2, d3, d4] => { results := [.lit (.bool false)], args := [d1, d2, d3, d4] }
  | _ => none }
def CustodyOrderWrongFalsely : Prop := custodyOrderRow.holds Try.pinned (OpenSpec.ofChange custodyOrderWrong)

/-- 'bikesharelaw20.CustodyAlone': WHATEVER THE INPUT: true; the input reads as it did. -/
def custodyAloneSpec : ChangeSpec := { name := "custodyAlone", fn := fun _ => fun
  | [d1, d2] => { results := [.lit (.bool true)], args := [d1, d2] }
  | _ => none }
def custodyAloneRow : OpenClaim := { program := "ytnikolfakmgbbaa", sum := "397f7c2ea6df187b3d504bfc6e10a7f0aafb30240a3e713fb01c05ea177288ca", func := "bikeshare/bikesharelaw20.CustodyAlone", spec := "custodyAlone", unfollowed := true, recurses := true, apart := false }
def CustodyAloneSaid : Prop := custodyAloneRow.holds Try.pinned (OpenSpec.ofChange custodyAloneSpec)

/-- ITS FALSE NEIGHBOUR: 'it returns false'. Refute it at one input. -/
def custodyAloneWrong : ChangeSpec := { name := "custodyAlone", fn := fun _ => fun
  | [d1, d2] => { results := [.lit (.bool false)], args := [d1, d2] }
  | _ => none }
def CustodyAloneWrongFalsely : Prop := custodyAloneRow.holds Try.pinned (OpenSpec.ofChange custodyAloneWrong)

/-- 'bikesharelaw20.CustodyPrefix': WHATEVER THE INPUT: true; the input reads as it did. -/
def custodyPrefixSpec : ChangeSpec := { name := "custodyPrefix", fn := fun _ => fun
  | [d1, d2, d3, d4] => { results := [.lit (.bool true)], args := [d1, d2, d3, d4] }
  | _ => none }
def custodyPrefixRow : OpenClaim := { program := "ytnikolfakmgbbaa", sum := "397f7c2ea6df187b3d504bfc6e10a7f0aafb30240a3e713fb01c05ea177288ca", func := "bikeshare/bikesharelaw20.CustodyPrefix", spec := "custodyPrefix", unfollowed := true, recurses := true, apart := false }
def CustodyPrefixSaid : Prop := custodyPrefixRow.holds Try.pinned (OpenSpec.ofChange custodyPrefixSpec)

/-- ITS FALSE NEIGHBOUR: 'it returns false'. Refute it at one input. -/
def custodyPrefixWrong : ChangeSpec := { name := "custodyPrefix", fn := fun _ => fun
  | [d1, d2, d3, d4] => { results := [.lit (.bool false)], args := [d1, d2, d3, d4] }
  | _ => none }
def CustodyPrefixWrongFalsely : Prop := custodyPrefixRow.holds Try.pinned (OpenSpec.ofChange custodyPrefixWrong)

/-- 'bikesharelaw20.CustodyLoads': WHATEVER THE INPUT: true; the input reads as it did. -/
def custodyLoadsSpec : ChangeSpec := { name := "custodyLoads", fn := fun _ => fun
  | [d1, d2, d3] => { results := [.lit (.bool true)], args := [d1, d2, d3] }
  | _ => none }
def custodyLoadsRow : OpenClaim := { program := "ytnikolfakmgbbaa", sum := "397f7c2ea6df187b3d504bfc6e10a7f0aafb30240a3e713fb01c05ea177288ca", func := "bikeshare/bikesharelaw20.CustodyLoads", spec := "custodyLoads", unfollowed := true, recurses := true, apart := false }
def CustodyLoadsSaid : Prop := custodyLoadsRow.holds Try.pinned (OpenSpec.ofChange custodyLoadsSpec)

/-- ITS FALSE NEIGHBOUR: 'it returns false'. Refute it at one input. -/
def custodyLoadsWrong : ChangeSpec := { name := "custodyLoads", fn := fun _ => fun
  | [d1, d2, d3] => { results := [.lit (.bool false)], args := [d1, d2, d3] }
  | _ => none }
def CustodyLoadsWrongFalsely : Prop := custodyLoadsRow.holds Try.pinned (OpenSpec.ofChange custodyLoadsWrong)

/-- 'bikesharelaw20.CustodySplits': WHATEVER THE INPUT: true; the input reads as it did. -/
def custodySplitsSpec : ChangeSpec := { name := "custodySplits", fn := fun _ => fun
  | [d1, d2] => { results := [.lit (.bool true)], args := [d1, d2] }
  | _ => none }
def custodySplitsRow : OpenClaim := { program := "ytnikolfakmgbbaa", sum := "397f7c2ea6df187b3d504bfc6e10a7f0aafb30240a3e713fb01c05ea177288ca", func := "bikeshare/bikesharelaw20.CustodySplits", spec := "custodySplits", unfollowed := true, recurses := true, apart := false }
def CustodySplitsSaid : Prop := custodySplitsRow.holds Try.pinned (OpenSpec.ofChange custodySplitsSpec)

/-- ITS FALSE NEIGHBOUR: 'it returns false'. Refute it at one input. -/
def custodySplitsWrong : ChangeSpec := { name := "custodySplits", fn := fun _ => fun
  | [d1, d2] => { results := [.lit (.bool false)], args := [d1, d2] }
  | _ => none }
def CustodySplitsWrongFalsely : Prop := custodySplitsRow.holds Try.pinned (OpenSpec.ofChange custodySplitsWrong)

/- THE SECOND FORM. 'bulk': how many values and letters a reading holds, each counted each time it is reached (what is shared counts as often as it is met; a slice's spare places count too). A statement '..UptoSaid' is the law's where the arguments, and the package variables that the reading takes, are together of bulk at most 1048576: NARROWER than '..Said'. Prove '..Said' where nothing that the law and all that it calls make is longer than what came in: it says more and counts as full. Else prove '..UptoSaid'. A law counts once. -/
mutual
def uptoBulk {H : Type} : DataW H → Nat
  | .lit (.string bytes) => bytes.length + 1
  | .lit _ => 1
  | .nil => 1
  | .ptr d => uptoBulk d + 1
  | .slice elems spare => uptoBulkAll elems + uptoBulkAll spare + 1
  | .agg parts => uptoBulkAll parts + 1
  | .iface _ d => uptoBulk d + 1
  | .map entries => uptoBulkEntries entries + 1
  | .held _ => 1
def uptoBulkAll {H : Type} : List (DataW H) → Nat
  | [] => 0
  | d :: r => uptoBulk d + uptoBulkAll r
def uptoBulkEntries {H : Type} : List (Lit × DataW H) → Nat
  | [] => 0
  | x :: r => uptoBulkEntry x + uptoBulkEntries r
def uptoBulkEntry {H : Type} : Lit × DataW H → Nat
  | (.string bytes, d) => bytes.length + uptoBulk d + 1
  | (_, d) => uptoBulk d + 1
 end
def uptoSmall : (H : Type) → List (DataW H) → Bool := fun _ ds => decide (uptoBulkAll ds ≤ 1048576)
def OpenSpec.upto (s : _root_.Go.ChangeSpec) : _root_.Go.OpenSpec := { _root_.Go.OpenSpec.ofChange s with cond := some uptoSmall }

/-- 'bikesharelaw20.CustodyAccepts', WHERE WHAT IT READS IS OF BULK AT MOST 1048576: true; the input reads as it did. -/
def custodyAcceptsUptoRow : OpenClaim := { program := "ytnikolfakmgbbaa", sum := "397f7c2ea6df187b3d504bfc6e10a7f0aafb30240a3e713fb01c05ea177288ca", func := "bikeshare/bikesharelaw20.CustodyAccepts", spec := "custodyAccepts", unfollowed := true, recurses := true, apart := false, narrowed := true }
def CustodyAcceptsUptoSaid : Prop := custodyAcceptsUptoRow.holds Try.pinned (OpenSpec.upto custodyAcceptsSpec)

/-- 'bikesharelaw20.CustodySpots', WHERE WHAT IT READS IS OF BULK AT MOST 1048576: true; the input reads as it did. -/
def custodySpotsUptoRow : OpenClaim := { program := "ytnikolfakmgbbaa", sum := "397f7c2ea6df187b3d504bfc6e10a7f0aafb30240a3e713fb01c05ea177288ca", func := "bikeshare/bikesharelaw20.CustodySpots", spec := "custodySpots", unfollowed := true, recurses := true, apart := false, narrowed := true }
def CustodySpotsUptoSaid : Prop := custodySpotsUptoRow.holds Try.pinned (OpenSpec.upto custodySpotsSpec)

/-- 'bikesharelaw20.CustodyTraces', WHERE WHAT IT READS IS OF BULK AT MOST 1048576: true; the input reads as it did. -/
def custodyTracesUptoRow : OpenClaim := { program := "ytnikolfakmgbbaa", sum := "397f7c2ea6df187b3d504bfc6e10a7f0aafb30240a3e713fb01c05ea177288ca", func := "bikeshare/bikesharelaw20.CustodyTraces", spec := "custodyTraces", unfollowed := true, recurses := true, apart := false, narrowed := true }
def CustodyTracesUptoSaid : Prop := custodyTracesUptoRow.holds Try.pinned (OpenSpec.upto custodyTracesSpec)

/-- 'bikesharelaw20.CustodyStays', WHERE WHAT IT READS IS OF BULK AT MOST 1048576: true; the input reads as it did. -/
def custodyStaysUptoRow : OpenClaim := { program := "ytnikolfakmgbbaa", sum := "397f7c2ea6df187b3d504bfc6e10a7f0aafb30240a3e713fb01c05ea177288ca", func := "bikeshare/bikesharelaw20.CustodyStays", spec := "custodyStays", unfollowed := true, recurses := true, apart := false, narrowed := true }
def CustodyStaysUptoSaid : Prop := custodyStaysUptoRow.holds Try.pinned (OpenSpec.upto custodyStaysSpec)

/-- 'bikesharelaw20.CustodyOrder', WHERE WHAT IT READS IS OF BULK AT MOST 1048576: true; the input reads as it did. -/
def custodyOrderUptoRow : OpenClaim := { program := "ytnikolfakmgbbaa", sum := "397f7c2ea6df187b3d504bfc6e10a7f0aafb30240a3e713fb01c05ea177288ca", func := "bikeshare/bikesharelaw20.CustodyOrder", spec := "custodyOrder", unfollowed := true, recurses := true, apart := false, narrowed := true }
def CustodyOrderUptoSaid : Prop := custodyOrderUptoRow.holds Try.pinned (OpenSpec.upto custodyOrderSpec)

/-- 'bikesharelaw20.CustodyAlone', WHERE WHAT IT READS IS OF BULK AT MOST 1048576: true; the input reads as it did. -/
def custodyAloneUptoRow : OpenClaim := { program := "ytnikolfakmgbbaa", sum := "397f7c2ea6df187b3d504bfc6e10a7f0aafb30240a3e713fb01c05ea177288ca", func := "bikeshare/bikesharelaw20.CustodyAlone", spec := "custodyAlone", unfollowed := true, recurses := true, apart := false, narrowed := true }
def CustodyAloneUptoSaid : Prop := custodyAloneUptoRow.holds Try.pinned (OpenSpec.upto custodyAloneSpec)

/-- 'bikesharelaw20.CustodyPrefix', WHERE WHAT IT READS IS OF BULK AT MOST 1048576: true; the input reads as it did. -/
def custodyPrefixUptoRow : OpenClaim := { program := "ytnikolfakmgbbaa", sum := "397f7c2ea6df187b3d504bfc6e10a7f0aafb30240a3e713fb01c05ea177288ca", func := "bikeshare/bikesharelaw20.CustodyPrefix", spec := "custodyPrefix", unfollowed := true, recurses := true, apart := false, narrowed := true }
def CustodyPrefixUptoSaid : Prop := custodyPrefixUptoRow.holds Try.pinned (OpenSpec.upto custodyPrefixSpec)

/-- 'bikesharelaw20.CustodyLoads', WHERE WHAT IT READS IS OF BULK AT MOST 1048576: true; the input reads as it did. -/
def custodyLoadsUptoRow : OpenClaim := { program := "ytnikolfakmgbbaa", sum := "397f7c2ea6df187b3d504bfc6e10a7f0aafb30240a3e713fb01c05ea177288ca", func := "bikeshare/bikesharelaw20.CustodyLoads", spec := "custodyLoads", unfollowed := true, recurses := true, apart := false, narrowed := true }
def CustodyLoadsUptoSaid : Prop := custodyLoadsUptoRow.holds Try.pinned (OpenSpec.upto custodyLoadsSpec)

/-- 'bikesharelaw20.CustodySplits', WHERE WHAT IT READS IS OF BULK AT MOST 1048576: true; the input reads as it did. -/
def custodySplitsUptoRow : OpenClaim := { program := "ytnikolfakmgbbaa", sum := "397f7c2ea6df187b3d504bfc6e10a7f0aafb30240a3e713fb01c05ea177288ca", func := "bikeshare/bikesharelaw20.CustodySplits", spec := "custodySplits", unfollowed := true, recurses := true, apart := false, narrowed := true }
def CustodySplitsUptoSaid : Prop := custodySplitsUptoRow.holds Try.pinned (OpenSpec.upto custodySplitsSpec)

end Rows
end Go.Proofs.Ytnikolfakmgbbaa
