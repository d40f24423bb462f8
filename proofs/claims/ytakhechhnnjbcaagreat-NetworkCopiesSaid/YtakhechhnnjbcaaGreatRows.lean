/-
  No cell of these rows narrows 'for every input' (looked for: loops, veiled, ifaces, maps, wideKeys, modest, calm, conditions, laid).
  DERIVED. THE GIVEN ROWS OF THIS SEAT. 6 by the template 'for every input the law returns true; each argument reads behind the call as it read before'; 0 by the template 'total and deterministic' (their statements: YtakhechhnnjbcaaGreatTotals.lean).
  GIVEN WITH THE SEED: the statements are not yours to turn. If you find one false, say at which input.
  Laid BY PROGRAM, IN A SANDBOX (cutbox-rows.mjs): the forced cells as the released guide's own fill.sh prints them over the translation 33f89c075bb3bfb2… (all of the seat's roots in one cut). By AI agents, Wed Nov 11 2026. No macro, syntax, notation, axiom, sorry.
-/
import Derived.Test.YtakhechhnnjbcaaGreatChecked
import GoSem.Claim
import GoSem.ClaimJoined
import GoSem.ClaimMapViews
import Derived.JoinedTies
import Derived.KernelRfl
namespace Go.Proofs.YtakhechhnnjbcaaGreat
/- THE CELL 'sum', in the pinned program and in every row, IS THE sha256 OF THE DUMP (.gsa) THAT YtakhechhnnjbcaaGreatProg.lean LOADS. Nothing in Lean hashes anything: it is a label: what it is worth is what the hold of that sum in a sandbox is worth. -/
noncomputable def Tryz.pinned : Pinned := { name := "ytakhechhnnjbcaagreat", sum := "33f89c075bb3bfb20a73019e5171c45738510fd44513491645c80c26c2a53177", checked := Tryz.checked }
namespace Rows
def none {H : Type} : Left H := { results := [], args := [] }

/-- 'bikesharelaw58.NetworkHomes': WHATEVER THE INPUT: true; the input reads as it did. -/
def networkHomesSpec : ChangeSpec := { name := "networkHomes", fn := fun _ => fun
  | [d1, d2, d3] => { results := [.lit (.bool true)], args := [d1, d2, d3] }
  | _ => none }
def networkHomesRow : OpenClaim := { program := "ytakhechhnnjbcaagreat", sum := "33f89c075bb3bfb20a73019e5171c45738510fd44513491645c80c26c2a53177", func := "bikeshare/bikesharelaw58.NetworkHomes", spec := "networkHomes", unfollowed := true, recurses := true, plainKeys := false, apart := false }
def NetworkHomesSaid : Prop := networkHomesRow.holds Tryz.pinned (OpenSpec.ofChange networkHomesSpec)

/-- ITS FALSE NEIGHBOUR: 'it returns false'. Refute it at one input. -/
def networkHomesWrong : ChangeSpec := { name := "networkHomes", fn := fun _ => fun
  | [d1, d2, d3] => { results := [.lit (.bool false)], args := [d1, d2, d3] }
  | _ => none }
def NetworkHomesWrongFalsely : Prop := networkHomesRow.holds Tryz.pinned (OpenSpec.ofChange networkHomesWrong)

/-- 'bikesharelaw58.NetworkNever': WHATEVER THE INPUT: true; the input reads as it did. -/
def networkNeverSpec : ChangeSpec := { name := "networkNever", fn := fun _ => fun
  | [d1, d2] => { results := [.lit (.bool true)], args := [d1, d2] }
  | _ => none }
def networkNeverRow : OpenClaim := { program := "ytakhechhnnjbcaagreat", sum := "33f89c075bb3bfb20a73019e5171c45738510fd44513491645c80c26c2a53177", func := "bikeshare/bikesharelaw58.NetworkNever", spec := "networkNever", unfollowed := true, recurses := true, plainKeys := false, apart := false }
def NetworkNeverSaid : Prop := networkNeverRow.holds Tryz.pinned (OpenSpec.ofChange networkNeverSpec)

/-- ITS FALSE NEIGHBOUR: 'it returns false'. Refute it at one input. -/
def networkNeverWrong : ChangeSpec := { name := "networkNever", fn := fun _ => fun
  | [d1, d2] => { results := [.lit (.bool false)], args := [d1, d2] }
  | _ => none }
def NetworkNeverWrongFalsely : Prop := networkNeverRow.holds Tryz.pinned (OpenSpec.ofChange networkNeverWrong)

/-- 'bikesharelaw58.NetworkDoes': WHATEVER THE INPUT: true; the input reads as it did. -/
def networkDoesSpec : ChangeSpec := { name := "networkDoes", fn := fun _ => fun
  | [d1, d2] => { results := [.lit (.bool true)], args := [d1, d2] }
  | _ => none }
def networkDoesRow : OpenClaim := { program := "ytakhechhnnjbcaagreat", sum := "33f89c075bb3bfb20a73019e5171c45738510fd44513491645c80c26c2a53177", func := "bikeshare/bikesharelaw58.NetworkDoes", spec := "networkDoes", unfollowed := true, recurses := true, plainKeys := false, apart := false }
def NetworkDoesSaid : Prop := networkDoesRow.holds Tryz.pinned (OpenSpec.ofChange networkDoesSpec)

/-- ITS FALSE NEIGHBOUR: 'it returns false'. Refute it at one input. -/
def networkDoesWrong : ChangeSpec := { name := "networkDoes", fn := fun _ => fun
  | [d1, d2] => { results := [.lit (.bool false)], args := [d1, d2] }
  | _ => none }
def NetworkDoesWrongFalsely : Prop := networkDoesRow.holds Tryz.pinned (OpenSpec.ofChange networkDoesWrong)

/-- 'bikesharelaw58.NetworkOnce': WHATEVER THE INPUT: true; the input reads as it did. -/
def networkOnceSpec : ChangeSpec := { name := "networkOnce", fn := fun _ => fun
  | [d1, d2] => { results := [.lit (.bool true)], args := [d1, d2] }
  | _ => none }
def networkOnceRow : OpenClaim := { program := "ytakhechhnnjbcaagreat", sum := "33f89c075bb3bfb20a73019e5171c45738510fd44513491645c80c26c2a53177", func := "bikeshare/bikesharelaw58.NetworkOnce", spec := "networkOnce", unfollowed := true, recurses := true, plainKeys := false, apart := false }
def NetworkOnceSaid : Prop := networkOnceRow.holds Tryz.pinned (OpenSpec.ofChange networkOnceSpec)

/-- ITS FALSE NEIGHBOUR: 'it returns false'. Refute it at one input. -/
def networkOnceWrong : ChangeSpec := { name := "networkOnce", fn := fun _ => fun
  | [d1, d2] => { results := [.lit (.bool false)], args := [d1, d2] }
  | _ => none }
def NetworkOnceWrongFalsely : Prop := networkOnceRow.holds Tryz.pinned (OpenSpec.ofChange networkOnceWrong)

/-- 'bikesharelaw58.NetworkCopies': WHATEVER THE INPUT: true; the input reads as it did. -/
def networkCopiesSpec : ChangeSpec := { name := "networkCopies", fn := fun _ => fun
  | [d1, d2, d3] => { results := [.lit (.bool true)], args := [d1, d2, d3] }
  | _ => none }
def networkCopiesRow : OpenClaim := { program := "ytakhechhnnjbcaagreat", sum := "33f89c075bb3bfb20a73019e5171c45738510fd44513491645c80c26c2a53177", func := "bikeshare/bikesharelaw58.NetworkCopies", spec := "networkCopies", inPlace := ["maps.clone"], unfollowed := true, recurses := true, plainKeys := false, apart := false }
def NetworkCopiesSaid : Prop := networkCopiesRow.holds Tryz.pinned (OpenSpec.ofChange networkCopiesSpec)

/-- ITS FALSE NEIGHBOUR: 'it returns false'. Refute it at one input. -/
def networkCopiesWrong : ChangeSpec := { name := "networkCopies", fn := fun _ => fun
  | [d1, d2, d3] => { results := [.lit (.bool false)], args := [d1, d2, d3] }
  | _ => none }
def NetworkCopiesWrongFalsely : Prop := networkCopiesRow.holds Tryz.pinned (OpenSpec.ofChange networkCopiesWrong)

/-- 'bikesharelaw58.NetworkNil': WHATEVER THE INPUT: true; the input reads as it did. -/
def networkNilSpec : ChangeSpec := { name := "networkNil", fn := fun _ => fun
  | [d1, d2] => { results := [.lit (.bool true)], args := [d1, d2] }
  | _ => none }
def networkNilRow : OpenClaim := { program := "ytakhechhnnjbcaagreat", sum := "33f89c075bb3bfb20a73019e5171c45738510fd44513491645c80c26c2a53177", func := "bikeshare/bikesharelaw58.NetworkNil", spec := "networkNil", inPlace := ["maps.clone"], unfollowed := true, recurses := true, plainKeys := false, apart := false }
def NetworkNilSaid : Prop := networkNilRow.holds Tryz.pinned (OpenSpec.ofChange networkNilSpec)

/-- ITS FALSE NEIGHBOUR: 'it returns false'. Refute it at one input. -/
def networkNilWrong : ChangeSpec := { name := "networkNil", fn := fun _ => fun
  | [d1, d2] => { results := [.lit (.bool false)], args := [d1, d2] }
  | _ => none }
def NetworkNilWrongFalsely : Prop := networkNilRow.holds Tryz.pinned (OpenSpec.ofChange networkNilWrong)

/- THE SECOND FORM. 'bulk': how many values and letters a reading holds, each counted each time it is reached (what is shared counts as often as it is met; a slice's spare places count too). A statement '..UptoSaid' is the law's where the arguments, and the package variables that the reading takes, are together of bulk at most 1048576: NARROWER than '..Said'. Prove '..Said' where nothing that the law and all that it calls make is longer than what came in: it says more and counts as full. Else prove '..UptoSaid'. A law counts once. -/
mutual
def uptoBulk {H : Type} : DataW H → Nat
  | .lit (.string bytes) => bytes.length + 1
  | .lit _ => 1
  | .nil => 1
  | .ptr d => uptoBulk d + 1
  | .slice elems spare => uptoBulkAll elems + uptoBulkAll spare + 1
  | .agg parts => uptoBulkAll parts + 1
  | .iface _ d => uptoBulk d + 1
  | .map entries => uptoBulkEntries entries + 1
  | .held _ => 1
def uptoBulkAll {H : Type} : List (DataW H) → Nat
  | [] => 0
  | d :: r => uptoBulk d + uptoBulkAll r
def uptoBulkEntries {H : Type} : List (Lit × DataW H) → Nat
  | [] => 0
  | x :: r => uptoBulkEntry x + uptoBulkEntries r
def uptoBulkEntry {H : Type} : Lit × DataW H → Nat
  | (.string bytes, d) => bytes.length + uptoBulk d + 1
  | (_, d) => uptoBulk d + 1
 end
def uptoSmall : (H : Type) → List (DataW H) → Bool := fun _ ds => decide (uptoBulkAll ds ≤ 1048576)
def OpenSpec.upto (s : _root_.Go.ChangeSpec) : _root_.Go.OpenSpec := { _root_.Go.OpenSpec.ofChange s with cond := some uptoSmall }

/-- 'bikesharelaw58.NetworkHomes', WHERE WHAT IT READS IS OF BULK AT MOST 1048576: true; the input reads as it did. -/
def networkHomesUptoRow : OpenClaim := { program := "ytakhechhnnjbcaagreat", sum := "33f89c075bb3bfb20a73019e5171c45738510fd44513491645c80c26c2a53177", func := "bikeshare/bikesharelaw58.NetworkHomes", spec := "networkHomes", unfollowed := true, recurses := true, plainKeys := false, apart := false, narrowed := true }
def NetworkHomesUptoSaid : Prop := networkHomesUptoRow.holds Tryz.pinned (OpenSpec.upto networkHomesSpec)

/-- 'bikesharelaw58.NetworkNever', WHERE WHAT IT READS IS OF BULK AT MOST 1048576: true; the input reads as it did. -/
def networkNeverUptoRow : OpenClaim := { program := "ytakhechhnnjbcaagreat", sum := "33f89c075bb3bfb20a73019e5171c45738510fd44513491645c80c26c2a53177", func := "bikeshare/bikesharelaw58.NetworkNever", spec := "networkNever", unfollowed := true, recurses := true, plainKeys := false, apart := false, narrowed := true }
def NetworkNeverUptoSaid : Prop := networkNeverUptoRow.holds Tryz.pinned (OpenSpec.upto networkNeverSpec)

/-- 'bikesharelaw58.NetworkDoes', WHERE WHAT IT READS IS OF BULK AT MOST 1048576: true; the input reads as it did. -/
def networkDoesUptoRow : OpenClaim := { program := "ytakhechhnnjbcaagreat", sum := "33f89c075bb3bfb20a73019e5171c45738510fd44513491645c80c26c2a53177", func := "bikeshare/bikesharelaw58.NetworkDoes", spec := "networkDoes", unfollowed := true, recurses := true, plainKeys := false, apart := false, narrowed := true }
def NetworkDoesUptoSaid : Prop := networkDoesUptoRow.holds Tryz.pinned (OpenSpec.upto networkDoesSpec)

/-- 'bikesharelaw58.NetworkOnce', WHERE WHAT IT READS IS OF BULK AT MOST 1048576: true; the input reads as it did. -/
def networkOnceUptoRow : OpenClaim := { program := "ytakhechhnnjbcaagreat", sum := "33f89c075bb3bfb20a73019e5171c45738510fd44513491645c80c26c2a53177", func := "bikeshare/bikesharelaw58.NetworkOnce", spec := "networkOnce", unfollowed := true, recurses := true, plainKeys := false, apart := false, narrowed := true }
def NetworkOnceUptoSaid : Prop := networkOnceUptoRow.holds Tryz.pinned (OpenSpec.upto networkOnceSpec)

/-- 'bikesharelaw58.NetworkCopies', WHERE WHAT IT READS IS OF BULK AT MOST 1048576: true; the input reads as it did. -/
def networkCopiesUptoRow : OpenClaim := { program := "ytakhechhnnjbcaagreat", sum := "33f89c075bb3bfb20a73019e5171c45738510fd44513491645c80c26c2a53177", func := "bikeshare/bikesharelaw58.NetworkCopies", spec := "networkCopies", inPlace := ["maps.clone"], unfollowed := true, recurses := true, plainKeys := false, apart := false, narrowed := true }
def NetworkCopiesUptoSaid : Prop := networkCopiesUptoRow.holds Tryz.pinned (OpenSpec.upto networkCopiesSpec)

/-- 'bikesharelaw58.NetworkNil', WHERE WHAT IT READS IS OF BULK AT MOST 1048576: true; the input reads as it did. -/
def networkNilUptoRow : OpenClaim := { program := "ytakhechhnnjbcaagreat", sum := "33f89c075bb3bfb20a73019e5171c45738510fd44513491645c80c26c2a53177", func := "bikeshare/bikesharelaw58.NetworkNil", spec := "networkNil", inPlace := ["maps.clone"], unfollowed := true, recurses := true, plainKeys := false, apart := false, narrowed := true }
def NetworkNilUptoSaid : Prop := networkNilUptoRow.holds Tryz.pinned (OpenSpec.upto networkNilSpec)

end Rows
end Go.Proofs.YtakhechhnnjbcaaGreat
