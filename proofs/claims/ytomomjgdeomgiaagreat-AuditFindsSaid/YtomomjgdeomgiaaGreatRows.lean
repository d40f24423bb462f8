/-
  No cell of these rows narrows 'for every input' (looked for: loops, veiled, ifaces, maps, wideKeys, modest, calm, conditions, laid).
  DERIVED. THE GIVEN ROWS OF THIS SEAT. 5 by the template 'for every input the law returns true; each argument reads behind the call as it read before'; 0 by the template 'total and deterministic' (their statements: YtomomjgdeomgiaaGreatTotals.lean).
  GIVEN WITH THE SEED: the statements are not yours to turn. If you find one false, say at which input.
  Laid BY PROGRAM, IN A SANDBOX (cutbox-rows.mjs): the forced cells as the released guide's own fill.sh prints them over the translation 49de7d50357f818d… (all of the seat's roots in one cut). By AI agents, Wed Nov 11 2026. No macro, syntax, notation, axiom, sorry.
-/
import Derived.Test.YtomomjgdeomgiaaGreatChecked
import GoSem.Claim
import GoSem.ClaimJoined
import GoSem.ClaimMapViews
import Derived.JoinedTies
import Derived.KernelRfl
namespace Go.Proofs.YtomomjgdeomgiaaGreat
/- THE CELL 'sum', in the pinned program and in every row, IS THE sha256 OF THE DUMP (.gsa) THAT YtomomjgdeomgiaaGreatProg.lean LOADS. Nothing in Lean hashes anything: it is a label: what it is worth is what the hold of that sum in a sandbox is worth. -/
noncomputable def Tryz.pinned : Pinned := { name := "ytomomjgdeomgiaagreat", sum := "49de7d50357f818dbd2a5dbbcf5e2c24ad0366b0281780d38ba695ea0d870b63", checked := Tryz.checked }
namespace Rows
def none {H : Type} : Left H := { results := [], args := [] }

/-- 'bikesharelaw60.AuditPlaces': WHATEVER THE INPUT: true; the input reads as it did. -/
def auditPlacesSpec : ChangeSpec := { name := "auditPlaces", fn := fun _ => fun
  | [d] => { results := [.lit (.bool true)], args := [d] }
  | _ => none }
def auditPlacesRow : OpenClaim := { program := "ytomomjgdeomgiaagreat", sum := "49de7d50357f818dbd2a5dbbcf5e2c24ad0366b0281780d38ba695ea0d870b63", func := "bikeshare/bikesharelaw60.AuditPlaces", spec := "auditPlaces", unfollowed := true, recurses := true, plainKeys := false, apart := false }
def AuditPlacesSaid : Prop := auditPlacesRow.holds Tryz.pinned (OpenSpec.ofChange auditPlacesSpec)

/-- ITS FALSE NEIGHBOUR: 'it returns false'. Refute it at one input. -/
def auditPlacesWrong : ChangeSpec := { name := "auditPlaces", fn := fun _ => fun
  | [d] => { results := [.lit (.bool false)], args := [d] }
  | _ => none }
def AuditPlacesWrongFalsely : Prop := auditPlacesRow.holds Tryz.pinned (OpenSpec.ofChange auditPlacesWrong)

/-- 'bikesharelaw60.AuditRides': WHATEVER THE INPUT: true; the input reads as it did. -/
def auditRidesSpec : ChangeSpec := { name := "auditRides", fn := fun _ => fun
  | [d] => { results := [.lit (.bool true)], args := [d] }
  | _ => none }
def auditRidesRow : OpenClaim := { program := "ytomomjgdeomgiaagreat", sum := "49de7d50357f818dbd2a5dbbcf5e2c24ad0366b0281780d38ba695ea0d870b63", func := "bikeshare/bikesharelaw60.AuditRides", spec := "auditRides", unfollowed := true, recurses := true, plainKeys := false, apart := false }
def AuditRidesSaid : Prop := auditRidesRow.holds Tryz.pinned (OpenSpec.ofChange auditRidesSpec)

/-- ITS FALSE NEIGHBOUR: 'it returns false'. Refute it at one input. -/
def auditRidesWrong : ChangeSpec := { name := "auditRides", fn := fun _ => fun
  | [d] => { results := [.lit (.bool false)], args := [d] }
  | _ => none }
def AuditRidesWrongFalsely : Prop := auditRidesRow.holds Tryz.pinned (OpenSpec.ofChange auditRidesWrong)

/-- 'bikesharelaw60.AuditTables': WHATEVER THE INPUT: true; the input reads as it did. -/
def auditTablesSpec : ChangeSpec := { name := "auditTables", fn := fun _ => fun
  | [d] => { results := [.lit (.bool true)], args := [d] }
  | _ => none }
def auditTablesRow : OpenClaim := { program := "ytomomjgdeomgiaagreat", sum := "49de7d50357f818dbd2a5dbbcf5e2c24ad0366b0281780d38ba695ea0d870b63", func := "bikeshare/bikesharelaw60.AuditTables", spec := "auditTables", unfollowed := true, recurses := true, plainKeys := false, apart := false }
def AuditTablesSaid : Prop := auditTablesRow.holds Tryz.pinned (OpenSpec.ofChange auditTablesSpec)

/-- ITS FALSE NEIGHBOUR: 'it returns false'. Refute it at one input. -/
def auditTablesWrong : ChangeSpec := { name := "auditTables", fn := fun _ => fun
  | [d] => { results := [.lit (.bool false)], args := [d] }
  | _ => none }
def AuditTablesWrongFalsely : Prop := auditTablesRow.holds Tryz.pinned (OpenSpec.ofChange auditTablesWrong)

/-- 'bikesharelaw60.AuditOrder': WHATEVER THE INPUT: true; the input reads as it did. -/
def auditOrderSpec : ChangeSpec := { name := "auditOrder", fn := fun _ => fun
  | [d] => { results := [.lit (.bool true)], args := [d] }
  | _ => none }
def auditOrderRow : OpenClaim := { program := "ytomomjgdeomgiaagreat", sum := "49de7d50357f818dbd2a5dbbcf5e2c24ad0366b0281780d38ba695ea0d870b63", func := "bikeshare/bikesharelaw60.AuditOrder", spec := "auditOrder", unfollowed := true, recurses := true, plainKeys := false, apart := false }
def AuditOrderSaid : Prop := auditOrderRow.holds Tryz.pinned (OpenSpec.ofChange auditOrderSpec)

/-- ITS FALSE NEIGHBOUR: 'it returns false'. Refute it at one input. -/
def auditOrderWrong : ChangeSpec := { name := "auditOrder", fn := fun _ => fun
  | [d] => { results := [.lit (.bool false)], args := [d] }
  | _ => none }
def AuditOrderWrongFalsely : Prop := auditOrderRow.holds Tryz.pinned (OpenSpec.ofChange auditOrderWrong)

/-- 'bikesharelaw60.AuditFinds': WHATEVER THE INPUT: true; the input reads as it did. -/
def auditFindsSpec : ChangeSpec := { name := "auditFinds", fn := fun _ => fun
  | [d1, d2, d3, d4] => { results := [.lit (.bool true)], args := [d1, d2, d3, d4] }
  | _ => none }
def auditFindsRow : OpenClaim := { program := "ytomomjgdeomgiaagreat", sum := "49de7d50357f818dbd2a5dbbcf5e2c24ad0366b0281780d38ba695ea0d870b63", func := "bikeshare/bikesharelaw60.AuditFinds", spec := "auditFinds", unfollowed := true, recurses := true, plainKeys := false, apart := false }
def AuditFindsSaid : Prop := auditFindsRow.holds Tryz.pinned (OpenSpec.ofChange auditFindsSpec)

/-- ITS FALSE NEIGHBOUR: 'it returns false'. Refute it at one input. -/
def auditFindsWrong : ChangeSpec := { name := "auditFinds", fn := fun _ => fun
  | [d1, d2, d3, d4] => { results := [.lit (.bool false)], args := [d1, d2, d3, d4] }
  | _ => none }
def AuditFindsWrongFalsely : Prop := auditFindsRow.holds Tryz.pinned (OpenSpec.ofChange auditFindsWrong)

/- THE SECOND FORM. 'bulk': how many values and letters a reading holds, each counted each time it is reached (what is shared counts as often as it is met; a slice's spare places count too). A statement '..UptoSaid' is the law's where the arguments, and the package variables that the reading takes, are together of bulk at most 1048576: NARROWER than '..Said'. Prove '..Said' where nothing that the law and all that it calls make is longer than what came in: it says more and counts as full. Else prove '..UptoSaid'. A law counts once. -/
mutual
def uptoBulk {H : Type} : DataW H → Nat
  | .lit (.string bytes) => bytes.length + 1
  | .lit _ => 1
  | .nil => 1
  | .ptr d => uptoBulk d + 1
  | .slice elems spare => uptoBulkAll elems + uptoBulkAll spare + 1
  | .agg parts => uptoBulkAll parts + 1
  | .iface _ d => uptoBulk d + 1
  | .map entries => uptoBulkEntries entries + 1
  | .held _ => 1
def uptoBulkAll {H : Type} : List (DataW H) → Nat
  | [] => 0
  | d :: r => uptoBulk d + uptoBulkAll r
def uptoBulkEntries {H : Type} : List (Lit × DataW H) → Nat
  | [] => 0
  | x :: r => uptoBulkEntry x + uptoBulkEntries r
def uptoBulkEntry {H : Type} : Lit × DataW H → Nat
  | (.string bytes, d) => bytes.length + uptoBulk d + 1
  | (_, d) => uptoBulk d + 1
 end
def uptoSmall : (H : Type) → List (DataW H) → Bool := fun _ ds => decide (uptoBulkAll ds ≤ 1048576)
def OpenSpec.upto (s : _root_.Go.ChangeSpec) : _root_.Go.OpenSpec := { _root_.Go.OpenSpec.ofChange s with cond := some uptoSmall }

/-- 'bikesharelaw60.AuditPlaces', WHERE WHAT IT READS IS OF BULK AT MOST 1048576: true; the input reads as it did. -/
def auditPlacesUptoRow : OpenClaim := { program := "ytomomjgdeomgiaagreat", sum := "49de7d50357f818dbd2a5dbbcf5e2c24ad0366b0281780d38ba695ea0d870b63", func := "bikeshare/bikesharelaw60.AuditPlaces", spec := "auditPlaces", unfollowed := true, recurses := true, plainKeys := false, apart := false, narrowed := true }
def AuditPlacesUptoSaid : Prop := auditPlacesUptoRow.holds Tryz.pinned (OpenSpec.upto auditPlacesSpec)

/-- 'bikesharelaw60.AuditRides', WHERE WHAT IT READS IS OF BULK AT MOST 1048576: true; the input reads as it did. -/
def auditRidesUptoRow : OpenClaim := { program := "ytomomjgdeomgiaagreat", sum := "49de7d50357f818dbd2a5dbbcf5e2c24ad0366b0281780d38ba695ea0d870b63", func := "bikeshare/bikesharelaw60.AuditRides", spec := "auditRides", unfollowed := true, recurses := true, plainKeys := false, apart := false, narrowed := true }
def AuditRidesUptoSaid : Prop := auditRidesUptoRow.holds Tryz.pinned (OpenSpec.upto auditRidesSpec)

/-- 'bikesharelaw60.AuditTables', WHERE WHAT IT READS IS OF BULK AT MOST 1048576: true; the input reads as it did. -/
def auditTablesUptoRow : OpenClaim := { program := "ytomomjgdeomgiaagreat", sum := "49de7d50357f818dbd2a5dbbcf5e2c24ad0366b0281780d38ba695ea0d870b63", func := "bikeshare/bikesharelaw60.AuditTables", spec := "auditTables", unfollowed := true, recurses := true, plainKeys := false, apart := false, narrowed := true }
def AuditTablesUptoSaid : Prop := auditTablesUptoRow.holds Tryz.pinned (OpenSpec.upto auditTablesSpec)

/-- 'bikesharelaw60.AuditOrder', WHERE WHAT IT READS IS OF BULK AT MOST 1048576: true; the input reads as it did. -/
def auditOrderUptoRow : OpenClaim := { program := "ytomomjgdeomgiaagreat", sum := "49de7d50357f818dbd2a5dbbcf5e2c24ad0366b0281780d38ba695ea0d870b63", func := "bikeshare/bikesharelaw60.AuditOrder", spec := "auditOrder", unfollowed := true, recurses := true, plainKeys := false, apart := false, narrowed := true }
def AuditOrderUptoSaid : Prop := auditOrderUptoRow.holds Tryz.pinned (OpenSpec.upto auditOrderSpec)

/-- 'bikesharelaw60.AuditFinds', WHERE WHAT IT READS IS OF BULK AT MOST 1048576: true; the input reads as it did. -/
def auditFindsUptoRow : OpenClaim := { program := "ytomomjgdeomgiaagreat", sum := "49de7d50357f818dbd2a5dbbcf5e2c24ad0366b0281780d38ba695ea0d870b63", func := "bikeshare/bikesharelaw60.AuditFinds", spec := "auditFinds", unfollowed := true, recurses := true, plainKeys := false, apart := false, narrowed := true }
def AuditFindsUptoSaid : Prop := auditFindsUptoRow.holds Tryz.pinned (OpenSpec.upto auditFindsSpec)

end Rows
end Go.Proofs.YtomomjgdeomgiaaGreat
