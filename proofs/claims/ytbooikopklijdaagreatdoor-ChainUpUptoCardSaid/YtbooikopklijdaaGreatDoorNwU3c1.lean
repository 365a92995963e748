/- Bundle: NwX3D1. -/
import Derived.Test.YtbooikopklijdaaGreatDoorNwU11
set_option linter.constructorNameAsVariable false
set_option linter.unusedVariables false
set_option linter.unusedSimpArgs false
set_option linter.unusedSectionVars false
section
/- printed by xl3.py: cases of function 3, 1. -/
open Go Go.RowKit Go.Proofs
set_option linter.unusedVariables false
set_option maxRecDepth 100000
namespace Go.Proofs.Nw.X
open Go.Proofs.Nw.K
theorem c3_0_0 : cfY 200 3 [vN 0, vN 0] .e n0 kEnd = some (.b true) := by kernel_rfl
theorem c3_1_0 : cfY 200 3 [vN 1, vN 0] .e n0 kEnd = some (.b true) := by kernel_rfl
theorem c3_1_1 : cfY 200 3 [vN 1, vN 1] .e n0 kEnd = some (.b true) := by kernel_rfl
theorem c3_2_0 : cfY 200 3 [vN 2, vN 0] .e n0 kEnd = some (.b true) := by kernel_rfl
theorem c3_2_1 : cfY 200 3 [vN 2, vN 1] .e n0 kEnd = some (.b true) := by kernel_rfl
end Go.Proofs.Nw.X
end
