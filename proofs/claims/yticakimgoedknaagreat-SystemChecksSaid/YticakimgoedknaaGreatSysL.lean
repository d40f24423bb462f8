import Derived.Test.YticakimgoedknaaGreatSysK
import Derived.Test.YticakimgoedknaaGreatSysOd
set_option linter.unusedVariables false
set_option linter.unusedSimpArgs false
/-
  The chapter's examples hold.
-/
namespace Go.Proofs.O
open Go Go.Proofs.E
theorem awake_w (w : World) : Calls Tryz.prog 6 #[] w fun e w' => e = .returned (.bool true) ∧ Bel w w' := by
  obtain ⟨e, f, s, h⟩ := isTrue_ok awake_run
  exact closed_w tab_ok name_ok mix_ok (extN_ok rfl (ext_ok rfl)) h w
end Go.Proofs.O
