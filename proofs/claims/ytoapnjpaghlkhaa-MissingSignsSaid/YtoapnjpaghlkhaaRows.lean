/-
  No cell of these rows narrows 'for every input' (looked for: loops, veiled, ifaces, maps, wideKeys, modest, calm, conditions, laid).
  DERIVED. THE GIVEN ROWS OF THIS SEAT. 7 by the template 'for every input the law returns true; each argument reads behind the call as it read before'; 0 by the template 'total and deterministic' (their statements: YtoapnjpaghlkhaaTotals.lean).
  GIVEN WITH THE SEED: the statements are not yours to turn. If you find one false, say at which input.
  Laid BY PROGRAM, IN A SANDBOX (cutbox-rows.mjs): the forced cells as the released guide's own fill.sh prints them over the translation 797cb982ac645779… (all of the seat's roots in one cut). By AI agents, Wed Nov 11 2026. No macro, syntax, notation, axiom, sorry.
-/
import Derived.Test.YtoapnjpaghlkhaaChecked
import GoSem.Claim
import GoSem.ClaimJoined
import GoSem.ClaimMapViews
import Derived.JoinedTies
import Derived.KernelRfl
namespace Go.Proofs.Ytoapnjpaghlkhaa
/- THE CELL 'sum', in the pinned program and in every row, IS THE sha256 OF THE DUMP (.gsa) THAT YtoapnjpaghlkhaaProg.lean LOADS. Nothing in Lean hashes anything: it is a label: what it is worth is what the hold of that sum in a sandbox is worth. -/
noncomputable def Try.pinned : Pinned := { name := "ytoapnjpaghlkhaa", sum := "797cb982ac64577914e19b9fb06b010fecdd2a6de38124a340d30c6307d781b3", checked := Try.checked }
namespace Rows
def none {H : Type} : Left H := { results := [], args := [] }

/-- 'bikesharelaw25.MissingSeen': WHATEVER THE INPUT: true; the input reads as it did. -/
def missingSeenSpec : ChangeSpec := { name := "missingSeen", fn := fun _ => fun
  | [d1, d2, d3, d4, d5] => { results := [.lit (.bool true)], args := [d1, d2, d3, d4, d5] }
  | _ => none }
def missingSeenRow : OpenClaim := { program := "ytoapnjpaghlkhaa", sum := "797cb982ac64577914e19b9fb06b010fecdd2a6de38124a340d30c6307d781b3", func := "bikeshare/bikesharelaw25.MissingSeen", spec := "missingSeen", unfollowed := true, recurses := true, apart := false }
def MissingSeenSaid : Prop := missingSeenRow.holds Try.pinned (OpenSpec.ofChange missingSeenSpec)

/-- ITS FALSE NEIGHBOUR: 'it returns false'. Refute it at one input. -/
def missingSeenWrong : ChangeSpec := { name := "missingSeen", fn := fun _ => fun
  | [d1, d2, d3, d4, d5] => { results := [.lit (.bool false)], args := [d1, d2, d3, d4, d5] }
  | _ => none }
def MissingSeenWrongFalsely : Prop := missingSeenRow.holds Try.pinned (OpenSpec.ofChange missingSeenWrong)

/-- 'bikesharelaw25.MissingOverdue': WHATEVER THE INPUT: true; the input reads as it did. -/
def missingOverdueSpec : ChangeSpec := { name := "missingOverdue", fn := fun _ => fun
  | [d1, d2, d3, d4, d5] => { results := [.lit (.bool true)], args := [d1, d2, d3, d4, d5] }
  | _ => none }
def missingOverdueRow : OpenClaim := { program := "ytoapnjpaghlkhaa", sum := "797cb982ac64577914e19b9fb06b010fecdd2a6de38124a340d30c6307d781b3", func := "bikeshare/bikesharelaw25.MissingOverdue", spec := "missingOverdue", unfollowed := true, recurses := true, apart := false }
def MissingOverdueSaid : Prop := missingOverdueRow.holds Try.pinned (OpenSpec.ofChange missingOverdueSpec)

/-- ITS FALSE NEIGHBOUR: 'it returns false'. Refute it at one input. -/
def missingOverdueWrong : ChangeSpec := { name := "missingOverdue", fn := fun _ => fun
  | [d1, d2, d3, d4, d5] => { results := [.lit (.bool false)], args := [d1, d2, d3, d4, d5] }
  | _ => none }
def MissingOverdueWrongFalsely : Prop := missingOverdueRow.holds Try.pinned (OpenSpec.ofChange missingOverdueWrong)

/-- 'bikesharelaw25.MissingLists': WHATEVER THE INPUT: true; the input reads as it did. -/
def missingListsSpec : ChangeSpec := { name := "missingLists", fn := fun _ => fun
  | [d1, d2, d3, d4, d5] => { results := [.lit (.bool true)], args := [d1, d2, d3, d4, d5] }
  | _ => none }
def missingListsRow : OpenClaim := { program := "ytoapnjpaghlkhaa", sum := "797cb982ac64577914e19b9fb06b010fecdd2a6de38124a340d30c6307d781b3", func := "bikeshare/bikesharelaw25.MissingLists", spec := "missingLists", unfollowed := true, recurses := true, apart := false }
def MissingListsSaid : Prop := missingListsRow.holds Try.pinned (OpenSpec.ofChange missingListsSpec)

/-- ITS FALSE NEIGHBOUR: 'it returns false'. Refute it at one input. -/
def missingListsWrong : ChangeSpec := { name := "missingLists", fn := fun _ => fun
  | [d1, d2, d3, d4, d5] => { results := [.lit (.bool false)], args := [d1, d2, d3, d4, d5] }
  | _ => none }
def MissingListsWrongFalsely : Prop := missingListsRow.holds Try.pinned (OpenSpec.ofChange missingListsWrong)

/-- 'bikesharelaw25.MissingPatience': WHATEVER THE INPUT: true; the input reads as it did. -/
def missingPatienceSpec : ChangeSpec := { name := "missingPatience", fn := fun _ => fun
  | [d1, d2, d3, d4, d5, d6] => { results := [.lit (.bool true)], args := [d1, d2, d3, d4, d5, d6] }
  | _ => none }
def missingPatienceRow : OpenClaim := { program := "ytoapnjpaghlkhaa", sum := "797cb982ac64577914e19b9fb06b010fecdd2a6de38124a340d30c6307d781b3", func := "bikeshare/bikesharelaw25.MissingPatience", spec := "missingPatience", unfollowed := true, recurses := true, apart := false }
def MissingPatienceSaid : Prop := missingPatienceRow.holds Try.pinned (OpenSpec.ofChange missingPatienceSpec)

/-- ITS FALSE NEIGHBOUR: 'it returns false'. Refute it at one input. -/
def missingPatienceWrong : ChangeSpec := { name := "missingPatience", fn := fun _ => fun
  | [d1, d2, d3, d4, d5, d6] => { results := [.lit (.bool false)], args := [d1, d2, d3, d4, d5, d6] }
  | _ => none }
def MissingPatienceWrongFalsely : Prop := missingPatienceRow.holds Try.pinned (OpenSpec.ofChange missingPatienceWrong)

/-- 'bikesharelaw25.MissingSorts': WHATEVER THE INPUT: true; the input reads as it did. -/
def missingSortsSpec : ChangeSpec := { name := "missingSorts", fn := fun _ => fun
  | [d1, d2, d3, d4, d5, d6] => { results := [.lit (.bool true)], args := [d1, d2, d3, d4, d5, d6] }
  | _ => none }
def missingSortsRow : OpenClaim := { program := "ytoapnjpaghlkhaa", sum := "797cb982ac64577914e19b9fb06b010fecdd2a6de38124a340d30c6307d781b3", func := "bikeshare/bikesharelaw25.MissingSorts", spec := "missingSorts", unfollowed := true, recurses := true, apart := false }
def MissingSortsSaid : Prop := missingSortsRow.holds Try.pinned (OpenSpec.ofChange missingSortsSpec)

/-- ITS FALSE NEIGHBOUR: 'it returns false'. Refute it at one input. -/
def missingSortsWrong : ChangeSpec := { name := "missingSorts", fn := fun _ => fun
  | [d1, d2, d3, d4, d5, d6] => { results := [.lit (.bool false)], args := [d1, d2, d3, d4, d5, d6] }
  | _ => none }
def MissingSortsWrongFalsely : Prop := missingSortsRow.holds Try.pinned (OpenSpec.ofChange missingSortsWrong)

/-- 'bikesharelaw25.MissingReports': WHATEVER THE INPUT: true; the input reads as it did. -/
def missingReportsSpec : ChangeSpec := { name := "missingReports", fn := fun _ => fun
  | [d1, d2, d3, d4, d5] => { results := [.lit (.bool true)], args := [d1, d2, d3, d4, d5] }
  | _ => none }
def missingReportsRow : OpenClaim := { program := "ytoapnjpaghlkhaa", sum := "797cb982ac64577914e19b9fb06b010fecdd2a6de38124a340d30c6307d781b3", func := "bikeshare/bikesharelaw25.MissingReports", spec := "missingReports", unfollowed := true, recurses := true, apart := false }
def MissingReportsSaid : Prop := missingReportsRow.holds Try.pinned (OpenSpec.ofChange missingReportsSpec)

/-- ITS FALSE NEIGHBOUR: 'it returns false'. Refute it at one input. -/
def missingReportsWrong : ChangeSpec := { name := "missingReports", fn := fun _ => fun
  | [d1, d2, d3, d4, d5] => { results := [.lit (.bool false)], args := [d1, d2, d3, d4, d5] }
  | _ => none }
def MissingReportsWrongFalsely : Prop := missingReportsRow.holds Try.pinned (OpenSpec.ofChange missingReportsWrong)

/-- 'bikesharelaw25.MissingSigns': WHATEVER THE INPUT: true; the input reads as it did. -/
def missingSignsSpec : ChangeSpec := { name := "missingSigns", fn := fun _ => fun
  | [d1, d2, d3, d4, d5, d6] => { results := [.lit (.bool true)], args := [d1, d2, d3, d4, d5, d6] }
  | _ => none }
def missingSignsRow : OpenClaim := { program := "ytoapnjpaghlkhaa", sum := "797cb982ac64577914e19b9fb06b010fecdd2a6de38124a340d30c6307d781b3", func := "bikeshare/bikesharelaw25.MissingSigns", spec := "missingSigns", unfollowed := true, recurses := true, apart := false }
def MissingSignsSaid : Prop := missingSignsRow.holds Try.pinned (OpenSpec.ofChange missingSignsSpec)

/-- ITS FALSE NEIGHBOUR: 'it returns false'. Refute it at one input. -/
def missingSignsWrong : ChangeSpec := { name := "missingSigns", fn := fun _ => fun
  | [d1, d2, d3, d4, d5, d6] => { results := [.lit (.bool false)], args := [d1, d2, d3, d4, d5, d6] }
  | _ => none }
def MissingSignsWrongFalsely : Prop := missingSignsRow.holds Try.pinned (OpenSpec.ofChange missingSignsWrong)

/- THE SECOND FORM. 'bulk': how many values and letters a reading holds, each counted each time it is reached (what is shared counts as often as it is met; a slice's spare places count too). A statement '..UptoSaid' is the law's where the arguments, and the package variables that the reading takes, are together of bulk at most 1048576: NARROWER than '..Said'. Prove '..Said' where nothing that the law and all that it calls make is longer than what came in: it says more and counts as full. Else prove '..UptoSaid'. A law counts once. -/
mutual
def uptoBulk {H : Type} : DataW H → Nat
  | .lit (.string bytes) => bytes.length + 1
  | .lit _ => 1
  | .nil => 1
  | .ptr d => uptoBulk d + 1
  | .slice elems spare => uptoBulkAll elems + uptoBulkAll spare + 1
  | .agg parts => uptoBulkAll parts + 1
  | .iface _ d => uptoBulk d + 1
  | .map entries => uptoBulkEntries entries + 1
  | .held _ => 1
def uptoBulkAll {H : Type} : List (DataW H) → Nat
  | [] => 0
  | d :: r => uptoBulk d + uptoBulkAll r
def uptoBulkEntries {H : Type} : List (Lit × DataW H) → Nat
  | [] => 0
  | x :: r => uptoBulkEntry x + uptoBulkEntries r
def uptoBulkEntry {H : Type} : Lit × DataW H → Nat
  | (.string bytes, d) => bytes.length + uptoBulk d + 1
  | (_, d) => uptoBulk d + 1
 end
def uptoSmall : (H : Type) → List (DataW H) → Bool := fun _ ds => decide (uptoBulkAll ds ≤ 1048576)
def OpenSpec.upto (s : _root_.Go.ChangeSpec) : _root_.Go.OpenSpec := { _root_.Go.OpenSpec.ofChange s with cond := some uptoSmall }

/-- 'bikesharelaw25.MissingSeen', WHERE WHAT IT READS IS OF BULK AT MOST 1048576: true; the input reads as it did. -/
def missingSeenUptoRow : OpenClaim := { program := "ytoapnjpaghlkhaa", sum := "797cb982ac64577914e19b9fb06b010fecdd2a6de38124a340d30c6307d781b3", func := "bikeshare/bikesharelaw25.MissingSeen", spec := "missingSeen", unfollowed := true, recurses := true, apart := false, narrowed := true }
def MissingSeenUptoSaid : Prop := missingSeenUptoRow.holds Try.pinned (OpenSpec.upto missingSeenSpec)

/-- 'bikesharelaw25.MissingOverdue', WHERE WHAT IT READS IS OF BULK AT MOST 1048576: true; the input reads as it did. -/
def missingOverdueUptoRow : OpenClaim := { program := "ytoapnjpaghlkhaa", sum := "797cb982ac64577914e19b9fb06b010fecdd2a6de38124a340d30c6307d781b3", func := "bikeshare/bikesharelaw25.MissingOverdue", spec := "missingOverdue", unfollowed := true, recurses := true, apart := false, narrowed := true }
def MissingOverdueUptoSaid : Prop := missingOverdueUptoRow.holds Try.pinned (OpenSpec.upto missingOverdueSpec)

/-- 'bikesharelaw25.MissingLists', WHERE WHAT IT READS IS OF BULK AT MOST 1048576: true; the input reads as it did. -/
def missingListsUptoRow : OpenClaim := { program := "ytoapnjpaghlkhaa", sum := "797cb982ac64577914e19b9fb06b010fecdd2a6de38124a340d30c6307d781b3", func := "bikeshare/bikesharelaw25.MissingLists", spec := "missingLists", unfollowed := true, recurses := true, apart := false, narrowed := true }
def MissingListsUptoSaid : Prop := missingListsUptoRow.holds Try.pinned (OpenSpec.upto missingListsSpec)

/-- 'bikesharelaw25.MissingPatience', WHERE WHAT IT READS IS OF BULK AT MOST 1048576: true; the input reads as it did. -/
def missingPatienceUptoRow : OpenClaim := { program := "ytoapnjpaghlkhaa", sum := "797cb982ac64577914e19b9fb06b010fecdd2a6de38124a340d30c6307d781b3", func := "bikeshare/bikesharelaw25.MissingPatience", spec := "missingPatience", unfollowed := true, recurses := true, apart := false, narrowed := true }
def MissingPatienceUptoSaid : Prop := missingPatienceUptoRow.holds Try.pinned (OpenSpec.upto missingPatienceSpec)

/-- 'bikesharelaw25.MissingSorts', WHERE WHAT IT READS IS OF BULK AT MOST 1048576: true; the input reads as it did. -/
def missingSortsUptoRow : OpenClaim := { program := "ytoapnjpaghlkhaa", sum := "797cb982ac64577914e19b9fb06b010fecdd2a6de38124a340d30c6307d781b3", func := "bikeshare/bikesharelaw25.MissingSorts", spec := "missingSorts", unfollowed := true, recurses := true, apart := false, narrowed := true }
def MissingSortsUptoSaid : Prop := missingSortsUptoRow.holds Try.pinned (OpenSpec.upto missingSortsSpec)

/-- 'bikesharelaw25.MissingReports', WHERE WHAT IT READS IS OF BULK AT MOST 1048576: true; the input reads as it did. -/
def missingReportsUptoRow : OpenClaim := { program := "ytoapnjpaghlkhaa", sum := "797cb982ac64577914e19b9fb06b010fecdd2a6de38124a340d30c6307d781b3", func := "bikeshare/bikesharelaw25.MissingReports", spec := "missingReports", unfollowed := true, recurses := true, apart := false, narrowed := true }
def MissingReportsUptoSaid : Prop := missingReportsUptoRow.holds Try.pinned (OpenSpec.upto missingReportsSpec)

/-- 'bikesharelaw25.MissingSigns', WHERE WHAT IT READS IS OF BULK AT MOST 1048576: true; the input reads as it did. -/
def missingSignsUptoRow : OpenClaim := { program := "ytoapnjpaghlkhaa", sum := "797cb982ac64577914e19b9fb06b010fecdd2a6de38124a340d30c6307d781b3", func := "bikeshare/bikesharelaw25.MissingSigns", spec := "missingSigns", unfollowed := true, recurses := true, apart := false, narrowed := true }
def MissingSignsUptoSaid : Prop := missingSignsUptoRow.holds Try.pinned (OpenSpec.upto missingSignsSpec)

end Rows
end Go.Proofs.Ytoapnjpaghlkhaa
