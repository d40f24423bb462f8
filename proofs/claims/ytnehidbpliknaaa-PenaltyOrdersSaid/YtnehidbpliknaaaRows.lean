/-
  No cell of these rows narrows 'for every input' (looked for: loops, veiled, ifaces, maps, wideKeys, modest, calm, conditions, laid).
  DERIVED. THE GIVEN ROWS OF THIS SEAT. 7 by the template 'for every input the law returns true; each argument reads behind the call as it read before'; 0 by the template 'total and deterministic' (their statements: YtnehidbpliknaaaTotals.lean).
  GIVEN WITH THE SEED: the statements are not yours to turn. If you find one false, say at which input.
  Laid BY PROGRAM, IN A SANDBOX (cutbox-rows.mjs): the forced cells as the released guide's own fill.sh prints them over the translation f16d2581978e9a4d… (all of the seat's roots in one cut). By AI agents, Wed Nov 11 2026. No macro, syntax, notation, axiom, sorry.
-/
import Derived.Test.YtnehidbpliknaaaChecked
import GoSem.Claim
import GoSem.ClaimJoined
import GoSem.ClaimMapViews
import Derived.JoinedTies
import Derived.KernelRfl
namespace Go.Proofs.Ytnehidbpliknaaa
/- THE CELL 'sum', in the pinned program and in every row, IS THE sha256 OF THE DUMP (.gsa) THAT YtnehidbpliknaaaProg.lean LOADS. Nothing in Lean hashes anything: it is a label: what it is worth is what the hold of that sum in a sandbox is worth. -/
noncomputable def Try.pinned : Pinned := { name := "ytnehidbpliknaaa", sum := "f16d2581978e9a4df419d0c66f11778137e4a7f8f61cb7df1cb2655e071297db", checked := Try.checked }
namespace Rows
def none {H : Type} : Left H := { results := [], args := [] }

/-- 'bikesharelaw33.PenaltyChecks': WHATEVER THE INPUT: true; the input reads as it did. -/
def penaltyChecksSpec : ChangeSpec := { name := "penaltyChecks", fn := fun _ => fun
  | [d1, d2] => { results := [.lit (.bool true)], args := [d1, d2] }
  | _ => none }
def penaltyChecksRow : OpenClaim := { program := "ytnehidbpliknaaa", sum := "f16d2581978e9a4df419d0c66f11778137e4a7f8f61cb7df1cb2655e071297db", func := "bikeshare/bikesharelaw33.PenaltyChecks", spec := "penaltyChecks", unfollowed := true, recurses := true, apart := false }
def PenaltyChecksSaid : Prop := penaltyChecksRow.holds Try.pinned (OpenSpec.ofChange penaltyChecksSpec)

/-- ITS FALSE NEIGHBOUR: 'it returns false'. Refute it at one input. -/
def penaltyChecksWrong : ChangeSpec := { name := "penaltyChecks", fn := fun _ => fun
  | [d1, d2] => { results := [.lit (.bool false)], args := [d1, d2] }
  | _ => none }
def PenaltyChecksWrongFalsely : Prop := penaltyChecksRow.holds Try.pinned (OpenSpec.ofChange penaltyChecksWrong)

/-- 'bikesharelaw33.PenaltyNumbers': WHATEVER THE INPUT: true; the input reads as it did. -/
def penaltyNumbersSpec : ChangeSpec := { name := "penaltyNumbers", fn := fun _ => fun
  | [d1, d2, d3] => { results := [.lit (.bool true)], args := [d1, d2, d3] }
  | _ => none }
def penaltyNumbersRow : OpenClaim := { program := "ytnehidbpliknaaa", sum := "f16d2581978e9a4df419d0c66f11778137e4a7f8f61cb7df1cb2655e071297db", func := "bikeshare/bikesharelaw33.PenaltyNumbers", spec := "penaltyNumbers", unfollowed := true, recurses := true, apart := false }
def PenaltyNumbersSaid : Prop := penaltyNumbersRow.holds Try.pinned (OpenSpec.ofChange penaltyNumbersSpec)

/-- ITS FALSE NEIGHBOUR: 'it returns false'. Refute it at one input. -/
def penaltyNumbersWrong : ChangeSpec := { name := "penaltyNumbers", fn := fun _ => fun
  | [d1, d2, d3] => { results := [.lit (.bool false)], args := [d1, d2, d3] }
  | _ => none }
def PenaltyNumbersWrongFalsely : Prop := penaltyNumbersRow.holds Try.pinned (OpenSpec.ofChange penaltyNumbersWrong)

/-- 'bikesharelaw33.PenaltyTotals': WHATEVER THE INPUT: true; the input reads as it did. -/
def penaltyTotalsSpec : ChangeSpec := { name := "penaltyTotals", fn := fun _ => fun
  | [d1, d2, d3] => { results := [.lit (.bool true)], args := [d1, d2, d3] }
  | _ => none }
def penaltyTotalsRow : OpenClaim := { program := "ytnehidbpliknaaa", sum := "f16d2581978e9a4df419d0c66f11778137e4a7f8f61cb7df1cb2655e071297db", func := "bikeshare/bikesharelaw33.PenaltyTotals", spec := "penaltyTotals", unfollowed := true, recurses := true, apart := false }
def PenaltyTotalsSaid : Prop := penaltyTotalsRow.holds Try.pinned (OpenSpec.ofChange penaltyTotalsSpec)

/-- ITS FALSE NEIGHBOUR: 'it returns false'. Refute it at one input. -/
def penaltyTotalsWrong : ChangeSpec := { name := "penaltyTotals", fn := fun _ => fun
  | [d1, d2, d3] => { results := [.lit (.bool false)], args := [d1, d2, d3] }
  | _ => none }
def PenaltyTotalsWrongFalsely : Prop := penaltyTotalsRow.holds Try.pinned (OpenSpec.ofChange penaltyTotalsWrong)

/-- 'bikesharelaw33.PenaltyGrows': WHATEVER THE INPUT: true; the input reads as it did. -/
def penaltyGrowsSpec : ChangeSpec := { name := "penaltyGrows", fn := fun _ => fun
  | [d1, d2, d3] => { results := [.lit (.bool true)], args := [d1, d2, d3] }
  | _ => none }
def penaltyGrowsRow : OpenClaim := { program := "ytnehidbpliknaaa", sum := "f16d2581978e9a4df419d0c66f11778137e4a7f8f61cb7df1cb2655e071297db", func := "bikeshare/bikesharelaw33.PenaltyGrows", spec := "penaltyGrows", unfollowed := true, recurses := true, apart := false }
def PenaltyGrowsSaid : Prop := penaltyGrowsRow.holds Try.pinned (OpenSpec.ofChange penaltyGrowsSpec)

/-- ITS FALSE NEIGHBOUR: 'it returns false'. Refute it at one input. -/
def penaltyGrowsWrong : ChangeSpec := { name := "penaltyGrows", fn := fun _ => fun
  | [d1, d2, d3] => { results := [.lit (.bool false)], args := [d1, d2, d3] }
  | _ => none }
def PenaltyGrowsWrongFalsely : Prop := penaltyGrowsRow.holds Try.pinned (OpenSpec.ofChange penaltyGrowsWrong)

/-- 'bikesharelaw33.PenaltyOrders': WHATEVER THE INPUT: true; the input reads as it did. -/
def penaltyOrdersSpec : ChangeSpec := { name := "penaltyOrders", fn := fun _ => fun
  | [d1, d2, d3] => { results := [.lit (.bool true)], args := [d1, d2, d3] }
  | _ => none }
def penaltyOrdersRow : OpenClaim := { program := "ytnehidbpliknaaa", sum := "f16d2581978e9a4df419d0c66f11778137e4a7f8f61cb7df1cb2655e071297db", func := "bikeshare/bikesharelaw33.PenaltyOrders", spec := "penaltyOrders", unfollowed := true, recurses := true, apart := false }
def PenaltyOrdersSaid : Prop := penaltyOrdersRow.holds Try.pinned (OpenSpec.ofChange penaltyOrdersSpec)

/-- ITS FALSE NEIGHBOUR: 'it returns false'. Refute it at one input. -/
def penaltyOrdersWrong : ChangeSpec := { name := "penaltyOrders", fn := fun _ => fun
  | [d1, d2, d3] => { results := [.lit (.bool false)], args := [d1, d2, d3] }
  | _ => none }
def PenaltyOrdersWrongFalsely : Prop := penaltyOrdersRow.holds Try.pinned (OpenSpec.ofChange penaltyOrdersWrong)

/-- 'bikesharelaw33.PenaltyDays': WHATEVER THE INPUT: true; the input reads as it did. -/
def penaltyDaysSpec : ChangeSpec := { name := "penaltyDays", fn := fun _ => fun
  | [d1, d2, d3] => { results := [.lit (.bool true)], args := [d1, d2, d3] }
  | _ => none }
def penaltyDaysRow : OpenClaim := { program := "ytnehidbpliknaaa", sum := "f16d2581978e9a4df419d0c66f11778137e4a7f8f61cb7df1cb2655e071297db", func := "bikeshare/bikesharelaw33.PenaltyDays", spec := "penaltyDays", unfollowed := true, recurses := true, apart := false }
def PenaltyDaysSaid : Prop := penaltyDaysRow.holds Try.pinned (OpenSpec.ofChange penaltyDaysSpec)

/-- ITS FALSE NEIGHBOUR: 'it returns false'. Refute it at one input. -/
def penaltyDaysWrong : ChangeSpec := { name := "penaltyDays", fn := fun _ => fun
  | [d1, d2, d3] => { results := [.lit (.bool false)], args := [d1, d2, d3] }
  | _ => none }
def PenaltyDaysWrongFalsely : Prop := penaltyDaysRow.holds Try.pinned (OpenSpec.ofChange penaltyDaysWrong)

/-- 'bikesharelaw33.PenaltySums': WHATEVER THE INPUT: true; the input reads as it did. -/
def penaltySumsSpec : ChangeSpec := { name := "penaltySums", fn := fun _ => fun
  | [d1, d2, d3] => { results := [.lit (.bool true)], args := [d1, d2, d3] }
  | _ => none }
def penaltySumsRow : OpenClaim := { program := "ytnehidbpliknaaa", sum := "f16d2581978e9a4df419d0c66f11778137e4a7f8f61cb7df1cb2655e071297db", func := "bikeshare/bikesharelaw33.PenaltySums", spec := "penaltySums", unfollowed := true, recurses := true, apart := false }
def PenaltySumsSaid : Prop := penaltySumsRow.holds Try.pinned (OpenSpec.ofChange penaltySumsSpec)

/-- ITS FALSE NEIGHBOUR: 'it returns false'. Refute it at one input. -/
def penaltySumsWrong : ChangeSpec := { name := "penaltySums", fn := fun _ => fun
  | [d1, d2, d3] => { results := [.lit (.bool false)], args := [d1, d2, d3] }
  | _ => none }
def PenaltySumsWrongFalsely : Prop := penaltySumsRow.holds Try.pinned (OpenSpec.ofChange penaltySumsWrong)

/- THE SECOND FORM. 'bulk': how many values and letters a reading holds, each counted each time it is reached (what is shared counts as often as it is met; a slice's spare places count too). A statement '..UptoSaid' is the law's where the arguments, and the package variables that the reading takes, are together of bulk at most 1048576: NARROWER than '..Said'. Prove '..Said' where nothing that the law and all that it calls make is longer than what came in: it says more and counts as full. Else prove '..UptoSaid'. A law counts once. -/
mutual
def uptoBulk {H : Type} : DataW H → Nat
  | .lit (.string bytes) => bytes.length + 1
  | .lit _ => 1
  | .nil => 1
  | .ptr d => uptoBulk d + 1
  | .slice elems spare => uptoBulkAll elems + uptoBulkAll spare + 1
  | .agg parts => uptoBulkAll parts + 1
  | .iface _ d => uptoBulk d + 1
  | .map entries => uptoBulkEntries entries + 1
  | .held _ => 1
def uptoBulkAll {H : Type} : List (DataW H) → Nat
  | [] => 0
  | d :: r => uptoBulk d + uptoBulkAll r
def uptoBulkEntries {H : Type} : List (Lit × DataW H) → Nat
  | [] => 0
  | x :: r => uptoBulkEntry x + uptoBulkEntries r
def uptoBulkEntry {H : Type} : Lit × DataW H → Nat
  | (.string bytes, d) => bytes.length + uptoBulk d + 1
  | (_, d) => uptoBulk d + 1
 end
def uptoSmall : (H : Type) → List (DataW H) → Bool := fun _ ds => decide (uptoBulkAll ds ≤ 1048576)
def OpenSpec.upto (s : _root_.Go.ChangeSpec) : _root_.Go.OpenSpec := { _root_.Go.OpenSpec.ofChange s with cond := some uptoSmall }

/-- 'bikesharelaw33.PenaltyChecks', WHERE WHAT IT READS IS OF BULK AT MOST 1048576: true; the input reads as it did. -/
def penaltyChecksUptoRow : OpenClaim := { program := "ytnehidbpliknaaa", sum := "f16d2581978e9a4df419d0c66f11778137e4a7f8f61cb7df1cb2655e071297db", func := "bikeshare/bikesharelaw33.PenaltyChecks", spec := "penaltyChecks", unfollowed := true, recurses := true, apart := false, narrowed := true }
def PenaltyChecksUptoSaid : Prop := penaltyChecksUptoRow.holds Try.pinned (OpenSpec.upto penaltyChecksSpec)

/-- 'bikesharelaw33.PenaltyNumbers', WHERE WHAT IT READS IS OF BULK AT MOST 1048576: true; the input reads as it did. -/
def penaltyNumbersUptoRow : OpenClaim := { program := "ytnehidbpliknaaa", sum := "f16d2581978e9a4df419d0c66f11778137e4a7f8f61cb7df1cb2655e071297db", func := "bikeshare/bikesharelaw33.PenaltyNumbers", spec := "penaltyNumbers", unfollowed := true, recurses := true, apart := false, narrowed := true }
def PenaltyNumbersUptoSaid : Prop := penaltyNumbersUptoRow.holds Try.pinned (OpenSpec.upto penaltyNumbersSpec)

/-- 'bikesharelaw33.PenaltyTotals', WHERE WHAT IT READS IS OF BULK AT MOST 1048576: true; the input reads as it did. -/
def penaltyTotalsUptoRow : OpenClaim := { program := "ytnehidbpliknaaa", sum := "f16d2581978e9a4df419d0c66f11778137e4a7f8f61cb7df1cb2655e071297db", func := "bikeshare/bikesharelaw33.PenaltyTotals", spec := "penaltyTotals", unfollowed := true, recurses := true, apart := false, narrowed := true }
def PenaltyTotalsUptoSaid : Prop := penaltyTotalsUptoRow.holds Try.pinned (OpenSpec.upto penaltyTotalsSpec)

/-- 'bikesharelaw33.PenaltyGrows', WHERE WHAT IT READS IS OF BULK AT MOST 1048576: true; the input reads as it did. -/
def penaltyGrowsUptoRow : OpenClaim := { program := "ytnehidbpliknaaa", sum := "f16d2581978e9a4df419d0c66f11778137e4a7f8f61cb7df1cb2655e071297db", func := "bikeshare/bikesharelaw33.PenaltyGrows", spec := "penaltyGrows", unfollowed := true, recurses := true, apart := false, narrowed := true }
def PenaltyGrowsUptoSaid : Prop := penaltyGrowsUptoRow.holds Try.pinned (OpenSpec.upto penaltyGrowsSpec)

/-- 'bikesharelaw33.PenaltyOrders', WHERE WHAT IT READS IS OF BULK AT MOST 1048576: true; the input reads as it did. -/
def penaltyOrdersUptoRow : OpenClaim := { program := "ytnehidbpliknaaa", sum := "f16d2581978e9a4df419d0c66f11778137e4a7f8f61cb7df1cb2655e071297db", func := "bikeshare/bikesharelaw33.PenaltyOrders", spec := "penaltyOrders", unfollowed := true, recurses := true, apart := false, narrowed := true }
def PenaltyOrdersUptoSaid : Prop := penaltyOrdersUptoRow.holds Try.pinned (OpenSpec.upto penaltyOrdersSpec)

/-- 'bikesharelaw33.PenaltyDays', WHERE WHAT IT READS IS OF BULK AT MOST 1048576: true; the input reads as it did. -/
def penaltyDaysUptoRow : OpenClaim := { program := "ytnehidbpliknaaa", sum := "f16d2581978e9a4df419d0c66f11778137e4a7f8f61cb7df1cb2655e071297db", func := "bikeshare/bikesharelaw33.PenaltyDays", spec := "penaltyDays", unfollowed := true, recurses := true, apart := false, narrowed := true }
def PenaltyDaysUptoSaid : Prop := penaltyDaysUptoRow.holds Try.pinned (OpenSpec.upto penaltyDaysSpec)

/-- 'bikesharelaw33.PenaltySums', WHERE WHAT IT READS IS OF BULK AT MOST 1048576: true; the input reads as it did. -/
def penaltySumsUptoRow : OpenClaim := { program := "ytnehidbpliknaaa", sum := "f16d2581978e9a4df419d0c66f11778137e4a7f8f61cb7df1cb2655e071297db", func := "bikeshare/bikesharelaw33.PenaltySums", spec := "penaltySums", unfollowed := true, recurses := true, apart := false, narrowed := true }
def PenaltySumsUptoSaid : Prop := penaltySumsUptoRow.holds Try.pinned (OpenSpec.upto penaltySumsSpec)

end Rows
end Go.Proofs.Ytnehidbpliknaaa
