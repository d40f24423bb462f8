/-
  No cell of these rows narrows 'for every input' (looked for: loops, veiled, ifaces, maps, wideKeys, modest, calm, conditions, laid).
  DERIVED. THE GIVEN ROWS OF THIS SEAT. 8 by the template 'for every input the law returns true; each argument reads behind the call as it read before'; 0 by the template 'total and deterministic' (their statements: YtbocfacfgddbcaaGreatTotals.lean).
  GIVEN WITH THE SEED: the statements are not yours to turn. If you find one false, say at which input.
  Laid BY PROGRAM, IN A SANDBOX (cutbox-rows.mjs): the forced cells as the released guide's own fill.sh prints them over the translation b99ec983465cfd41… (all of the seat's roots in one cut). By AI agents, Wed Nov 11 2026. No macro, syntax, notation, axiom, sorry.
-/
import Derived.Test.YtbocfacfgddbcaaGreatChecked
import GoSem.Claim
import GoSem.ClaimJoined
import GoSem.ClaimMapViews
import Derived.JoinedTies
import Derived.KernelRfl
namespace Go.Proofs.YtbocfacfgddbcaaGreat
/- THE CELL 'sum', in the pinned program and in every row, IS THE sha256 OF THE DUMP (.gsa) THAT YtbocfacfgddbcaaGreatProg.lean LOADS. Nothing in Lean hashes anything: it is a label: what it is worth is what the hold of that sum in a sandbox is worth. -/
noncomputable def Tryz.pinned : Pinned := { name := "ytbocfacfgddbcaagreat", sum := "b99ec983465cfd41208e61842160f64e65bb477073025d59b1aad341fef2b746", checked := Tryz.checked }
namespace Rows
def none {H : Type} : Left H := { results := [], args := [] }

/-- 'bikesharelaw34.FareChecks': WHATEVER THE INPUT: true; the input reads as it did. -/
def fareChecksSpec : ChangeSpec := { name := "fareChecks", fn := fun _ => fun
  | [d] => { results := [.lit (.bool true)], args := [d] }
  | _ => none }
def fareChecksRow : OpenClaim := { program := "ytbocfacfgddbcaagreat", sum := "b99ec983465cfd41208e61842160f64e65bb477073025d59b1aad341fef2b746", func := "bikeshare/bikesharelaw34.FareChecks", spec := "fareChecks", unfollowed := true, recurses := true, plainKeys := false, apart := false }
def FareChecksSaid : Prop := fareChecksRow.holds Tryz.pinned (OpenSpec.ofChange fareChecksSpec)

/-- ITS FALSE NEIGHBOUR: 'it returns false'. Refute it at one input. -/
def fareChecksWrong : ChangeSpec := { name := "fareChecks", fn := fun _ => fun
  | [d] => { results := [.lit (.bool false)], args := [d] }
  | _ => none }
def FareChecksWrongFalsely : Prop := fareChecksRow.holds Tryz.pinned (OpenSpec.ofChange fareChecksWrong)

/-- 'bikesharelaw34.FareItems': WHATEVER THE INPUT: true; the input reads as it did. -/
def fareItemsSpec : ChangeSpec := { name := "fareItems", fn := fun _ => fun
  | [d1, d2, d3] => { results := [.lit (.bool true)], args := [d1, d2, d3] }
  | _ => none }
def fareItemsRow : OpenClaim := { program := "ytbocfacfgddbcaagreat", sum := "b99ec983465cfd41208e61842160f64e65bb477073025d59b1aad341fef2b746", func := "bikeshare/bikesharelaw34.FareItems", spec := "fareItems", unfollowed := true, recurses := true, plainKeys := false, apart := false }
def FareItemsSaid : Prop := fareItemsRow.holds Tryz.pinned (OpenSpec.ofChange fareItemsSpec)

/-- ITS FALSE NEIGHBOUR: 'it returns false'. Refute it at one input. -/
def fareItemsWrong : ChangeSpec := { name := "fareItems", fn := fun _ => fun
  | [d1, d2, d3] => { results := [.lit (.bool false)], args := [d1, d2, d3] }
  | _ => none }
def FareItemsWrongFalsely : Prop := fareItemsRow.holds Tryz.pinned (OpenSpec.ofChange fareItemsWrong)

/-- 'bikesharelaw34.FareOnes': WHATEVER THE INPUT: true; the input reads as it did. -/
def fareOnesSpec : ChangeSpec := { name := "fareOnes", fn := fun _ => fun
  | [d1, d2, d3] => { results := [.lit (.bool true)], args := [d1, d2, d3] }
  | _ => none }
def fareOnesRow : OpenClaim := { program := "ytbocfacfgddbcaagreat", sum := "b99ec983465cfd41208e61842160f64e65bb477073025d59b1aad341fef2b746", func := "bikeshare/bikesharelaw34.FareOnes", spec := "fareOnes", unfollowed := true, recurses := true, plainKeys := false, apart := false }
def FareOnesSaid : Prop := fareOnesRow.holds Tryz.pinned (OpenSpec.ofChange fareOnesSpec)

/-- ITS FALSE NEIGHBOUR: 'it returns false'. Refute it at one input. -/
def fareOnesWrong : ChangeSpec := { name := "fareOnes", fn := fun _ => fun
  | [d1, d2, d3] => { results := [.lit (.bool false)], args := [d1, d2, d3] }
  | _ => none }
def FareOnesWrongFalsely : Prop := fareOnesRow.holds Tryz.pinned (OpenSpec.ofChange fareOnesWrong)

/-- 'bikesharelaw34.FareAlone': WHATEVER THE INPUT: true; the input reads as it did. -/
def fareAloneSpec : ChangeSpec := { name := "fareAlone", fn := fun _ => fun
  | [d1, d2, d3] => { results := [.lit (.bool true)], args := [d1, d2, d3] }
  | _ => none }
def fareAloneRow : OpenClaim := { program := "ytbocfacfgddbcaagreat", sum := "b99ec983465cfd41208e61842160f64e65bb477073025d59b1aad341fef2b746", func := "bikeshare/bikesharelaw34.FareAlone", spec := "fareAlone", unfollowed := true, recurses := true, plainKeys := false, apart := false }
def FareAloneSaid : Prop := fareAloneRow.holds Tryz.pinned (OpenSpec.ofChange fareAloneSpec)

/-- ITS FALSE NEIGHBOUR: 'it returns false'. Refute it at one input. -/
def fareAloneWrong : ChangeSpec := { name := "fareAlone", fn := fun _ => fun
  | [d1, d2, d3] => { results := [.lit (.bool false)], args := [d1, d2, d3] }
  | _ => none }
def FareAloneWrongFalsely : Prop := fareAloneRow.holds Tryz.pinned (OpenSpec.ofChange fareAloneWrong)

/-- 'bikesharelaw34.FareLimit': WHATEVER THE INPUT: true; the input reads as it did. -/
def fareLimitSpec : ChangeSpec := { name := "fareLimit", fn := fun _ => fun
  | [d1, d2, d3] => { results := [.lit (.bool true)], args := [d1, d2, d3] }
  | _ => none }
def fareLimitRow : OpenClaim := { program := "ytbocfacfgddbcaagreat", sum := "b99ec983465cfd41208e61842160f64e65bb477073025d59b1aad341fef2b746", func := "bikeshare/bikesharelaw34.FareLimit", spec := "fareLimit", unfollowed := true, recurses := true, plainKeys := false, apart := false }
def FareLimitSaid : Prop := fareLimitRow.holds Tryz.pinned (OpenSpec.ofChange fareLimitSpec)

/-- ITS FALSE NEIGHBOUR: 'it returns false'. Refute it at one input. -/
def fareLimitWrong : ChangeSpec := { name := "fareLimit", fn := fun _ => fun
  | [d1, d2, d3] => { results := [.lit (.bool false)], args := [d1, d2, d3] }
  | _ => none }
def FareLimitWrongFalsely : Prop := fareLimitRow.holds Tryz.pinned (OpenSpec.ofChange fareLimitWrong)

/-- 'bikesharelaw34.FareTime': WHATEVER THE INPUT: true; the input reads as it did. -/
def fareTimeSpec : ChangeSpec := { name := "fareTime", fn := fun _ => fun
  | [d1, d2] => { results := [.lit (.bool true)], args := [d1, d2] }
  | _ => none }
def fareTimeRow : OpenClaim := { program := "ytbocfacfgddbcaagreat", sum := "b99ec983465cfd41208e61842160f64e65bb477073025d59b1aad341fef2b746", func := "bikeshare/bikesharelaw34.FareTime", spec := "fareTime", unfollowed := true, recurses := true, plainKeys := false, apart := false }
def FareTimeSaid : Prop := fareTimeRow.holds Tryz.pinned (OpenSpec.ofChange fareTimeSpec)

/-- ITS FALSE NEIGHBOUR: 'it returns false'. Refute it at one input. -/
def fareTimeWrong : ChangeSpec := { name := "fareTime", fn := fun _ => fun
  | [d1, d2] => { results := [.lit (.bool false)], args := [d1, d2] }
  | _ => none }
def FareTimeWrongFalsely : Prop := fareTimeRow.holds Tryz.pinned (OpenSpec.ofChange fareTimeWrong)

/-- 'bikesharelaw34.FareAdds': WHATEVER THE INPUT: true; the input reads as it did. -/
def fareAddsSpec : ChangeSpec := { name := "fareAdds", fn := fun _ => fun
  | [d] => { results := [.lit (.bool true)], args := [d] }
  | _ => none }
def fareAddsRow : OpenClaim := { program := "ytbocfacfgddbcaagreat", sum := "b99ec983465cfd41208e61842160f64e65bb477073025d59b1aad341fef2b746", func := "bikeshare/bikesharelaw34.FareAdds", spec := "fareAdds", unfollowed := true, recurses := true, plainKeys := false, apart := false }
def FareAddsSaid : Prop := fareAddsRow.holds Tryz.pinned (OpenSpec.ofChange fareAddsSpec)

/-- ITS FALSE NEIGHBOUR: 'it returns false'. Refute it at one input. -/
def fareAddsWrong : ChangeSpec := { name := "fareAdds", fn := fun _ => fun
  | [d] => { results := [.lit (.bool false)], args := [d] }
  | _ => none }
def FareAddsWrongFalsely : Prop := fareAddsRow.holds Tryz.pinned (OpenSpec.ofChange fareAddsWrong)

/-- 'bikesharelaw34.FareSums': WHATEVER THE INPUT: true; the input reads as it did. -/
def fareSumsSpec : ChangeSpec := { name := "fareSums", fn := fun _ => fun
  | [d1, d2, d3] => { results := [.lit (.bool true)], args := [d1, d2, d3] }
  | _ => none }
def fareSumsRow : OpenClaim := { program := "ytbocfacfgddbcaagreat", sum := "b99ec983465cfd41208e61842160f64e65bb477073025d59b1aad341fef2b746", func := "bikeshare/bikesharelaw34.FareSums", spec := "fareSums", unfollowed := true, recurses := true, plainKeys := false, apart := false }
def FareSumsSaid : Prop := fareSumsRow.holds Tryz.pinned (OpenSpec.ofChange fareSumsSpec)

/-- ITS FALSE NEIGHBOUR: 'it returns false'. Refute it at one input. -/
def fareSumsWrong : ChangeSpec := { name := "fareSums", fn := fun _ => fun
  | [d1, d2, d3] => { results := [.lit (.bool false)], args := [d1, d2, d3] }
  | _ => none }
def FareSumsWrongFalsely : Prop := fareSumsRow.holds Tryz.pinned (OpenSpec.ofChange fareSumsWrong)

/- THE SECOND FORM. 'bulk': how many values and letters a reading holds, each counted each time it is reached (what is shared counts as often as it is met; a slice's spare places count too). A statement '..UptoSaid' is the law's where the arguments, and the package variables that the reading takes, are together of bulk at most 1048576: NARROWER than '..Said'. Prove '..Said' where nothing that the law and all that it calls make is longer than what came in: it says more and counts as full. Else prove '..UptoSaid'. A law counts once. -/
mutual
def uptoBulk {H : Type} : DataW H → Nat
  | .lit (.string bytes) => bytes.length + 1
  | .lit _ => 1
  | .nil => 1
  | .ptr d => uptoBulk d + 1
  | .slice elems spare => uptoBulkAll elems + uptoBulkAll spare + 1
  | .agg parts => uptoBulkAll parts + 1
  | .iface _ d => uptoBulk d + 1
  | .map entries => uptoBulkEntries entries + 1
  | .held _ => 1
def uptoBulkAll {H : Type} : List (DataW H) → Nat
  | [] => 0
  | d :: r => uptoBulk d + uptoBulkAll r
def uptoBulkEntries {H : Type} : List (Lit × DataW H) → Nat
  | [] => 0
  | x :: r => uptoBulkEntry x + uptoBulkEntries r
def uptoBulkEntry {H : Type} : Lit × DataW H → Nat
  | (.string bytes, d) => bytes.length + uptoBulk d + 1
  | (_, d) => uptoBulk d + 1
 end
def uptoSmall : (H : Type) → List (DataW H) → Bool := fun _ ds => decide (uptoBulkAll ds ≤ 1048576)
def OpenSpec.upto (s : _root_.Go.ChangeSpec) : _root_.Go.OpenSpec := { _root_.Go.OpenSpec.ofChange s with cond := some uptoSmall }

/-- 'bikesharelaw34.FareChecks', WHERE WHAT IT READS IS OF BULK AT MOST 1048576: true; the input reads as it did. -/
def fareChecksUptoRow : OpenClaim := { program := "ytbocfacfgddbcaagreat", sum := "b99ec983465cfd41208e61842160f64e65bb477073025d59b1aad341fef2b746", func := "bikeshare/bikesharelaw34.FareChecks", spec := "fareChecks", unfollowed := true, recurses := true, plainKeys := false, apart := false, narrowed := true }
def FareChecksUptoSaid : Prop := fareChecksUptoRow.holds Tryz.pinned (OpenSpec.upto fareChecksSpec)

/-- 'bikesharelaw34.FareItems', WHERE WHAT IT READS IS OF BULK AT MOST 1048576: true; the input reads as it did. -/
def fareItemsUptoRow : OpenClaim := { program := "ytbocfacfgddbcaagreat", sum := "b99ec983465cfd41208e61842160f64e65bb477073025d59b1aad341fef2b746", func := "bikeshare/bikesharelaw34.FareItems", spec := "fareItems", unfollowed := true, recurses := true, plainKeys := false, apart := false, narrowed := true }
def FareItemsUptoSaid : Prop := fareItemsUptoRow.holds Tryz.pinned (OpenSpec.upto fareItemsSpec)

/-- 'bikesharelaw34.FareOnes', WHERE WHAT IT READS IS OF BULK AT MOST 1048576: true; the input reads as it did. -/
def fareOnesUptoRow : OpenClaim := { program := "ytbocfacfgddbcaagreat", sum := "b99ec983465cfd41208e61842160f64e65bb477073025d59b1aad341fef2b746", func := "bikeshare/bikesharelaw34.FareOnes", spec := "fareOnes", unfollowed := true, recurses := true, plainKeys := false, apart := false, narrowed := true }
def FareOnesUptoSaid : Prop := fareOnesUptoRow.holds Tryz.pinned (OpenSpec.upto fareOnesSpec)

/-- 'bikesharelaw34.FareAlone', WHERE WHAT IT READS IS OF BULK AT MOST 1048576: true; the input reads as it did. -/
def fareAloneUptoRow : OpenClaim := { program := "ytbocfacfgddbcaagreat", sum := "b99ec983465cfd41208e61842160f64e65bb477073025d59b1aad341fef2b746", func := "bikeshare/bikesharelaw34.FareAlone", spec := "fareAlone", unfollowed := true, recurses := true, plainKeys := false, apart := false, narrowed := true }
def FareAloneUptoSaid : Prop := fareAloneUptoRow.holds Tryz.pinned (OpenSpec.upto fareAloneSpec)

/-- 'bikesharelaw34.FareLimit', WHERE WHAT IT READS IS OF BULK AT MOST 1048576: true; the input reads as it did. -/
def fareLimitUptoRow : OpenClaim := { program := "ytbocfacfgddbcaagreat", sum := "b99ec983465cfd41208e61842160f64e65bb477073025d59b1aad341fef2b746", func := "bikeshare/bikesharelaw34.FareLimit", spec := "fareLimit", unfollowed := true, recurses := true, plainKeys := false, apart := false, narrowed := true }
def FareLimitUptoSaid : Prop := fareLimitUptoRow.holds Tryz.pinned (OpenSpec.upto fareLimitSpec)

/-- 'bikesharelaw34.FareTime', WHERE WHAT IT READS IS OF BULK AT MOST 1048576: true; the input reads as it did. -/
def fareTimeUptoRow : OpenClaim := { program := "ytbocfacfgddbcaagreat", sum := "b99ec983465cfd41208e61842160f64e65bb477073025d59b1aad341fef2b746", func := "bikeshare/bikesharelaw34.FareTime", spec := "fareTime", unfollowed := true, recurses := true, plainKeys := false, apart := false, narrowed := true }
def FareTimeUptoSaid : Prop := fareTimeUptoRow.holds Tryz.pinned (OpenSpec.upto fareTimeSpec)

/-- 'bikesharelaw34.FareAdds', WHERE WHAT IT READS IS OF BULK AT MOST 1048576: true; the input reads as it did. -/
def fareAddsUptoRow : OpenClaim := { program := "ytbocfacfgddbcaagreat", sum := "b99ec983465cfd41208e61842160f64e65bb477073025d59b1aad341fef2b746", func := "bikeshare/bikesharelaw34.FareAdds", spec := "fareAdds", unfollowed := true, recurses := true, plainKeys := false, apart := false, narrowed := true }
def FareAddsUptoSaid : Prop := fareAddsUptoRow.holds Tryz.pinned (OpenSpec.upto fareAddsSpec)

/-- 'bikesharelaw34.FareSums', WHERE WHAT IT READS IS OF BULK AT MOST 1048576: true; the input reads as it did. -/
def fareSumsUptoRow : OpenClaim := { program := "ytbocfacfgddbcaagreat", sum := "b99ec983465cfd41208e61842160f64e65bb477073025d59b1aad341fef2b746", func := "bikeshare/bikesharelaw34.FareSums", spec := "fareSums", unfollowed := true, recurses := true, plainKeys := false, apart := false, narrowed := true }
def FareSumsUptoSaid : Prop := fareSumsUptoRow.holds Tryz.pinned (OpenSpec.upto fareSumsSpec)

end Rows
end Go.Proofs.YtbocfacfgddbcaaGreat
