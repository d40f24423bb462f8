import Derived.Test.YticakimgoedknaaGreatSysOd
set_option linter.unusedVariables false
set_option linter.unusedSimpArgs false
/-
  The chapter's examples, by the evaluator: the run.
-/
set_option maxRecDepth 100000
namespace Go.Proofs.O
theorem awake_run : isTrue (run tab (extN 162 (extG 323 93 51)) 1000000 (.call 6 []) ⟨.e, 1, 1⟩) = true := by kernel_rfl
end Go.Proofs.O
