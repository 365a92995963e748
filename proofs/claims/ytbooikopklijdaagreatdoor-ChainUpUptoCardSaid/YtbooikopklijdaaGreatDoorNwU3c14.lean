/- Bundle: NwX3D14. -/
import Derived.Test.YtbooikopklijdaaGreatDoorNwU11
set_option linter.constructorNameAsVariable false
set_option linter.unusedVariables false
set_option linter.unusedSimpArgs false
set_option linter.unusedSectionVars false
section
/- printed by xl3.py: cases of function 3, 14. -/
open Go Go.RowKit Go.Proofs
set_option linter.unusedVariables false
set_option maxRecDepth 100000
namespace Go.Proofs.Nw.X
open Go.Proofs.Nw.K
theorem c3_10_10 : cfY 200 3 [vN 10, vN 10] .e n0 kEnd = some (.b true) := by kernel_rfl
theorem c3_11_0 : cfY 200 3 [vN 11, vN 0] .e n0 kEnd = some (.b true) := by kernel_rfl
theorem c3_11_1 : cfY 200 3 [vN 11, vN 1] .e n0 kEnd = some (.b true) := by kernel_rfl
theorem c3_11_2 : cfY 200 3 [vN 11, vN 2] .e n0 kEnd = some (.b true) := by kernel_rfl
theorem c3_11_3 : cfY 200 3 [vN 11, vN 3] .e n0 kEnd = some (.b true) := by kernel_rfl
end Go.Proofs.Nw.X
end
