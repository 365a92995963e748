/- Bundle: NwX3D21. -/
import Derived.Test.YtbooikopklijdaaGreatDoorNwU11
set_option linter.constructorNameAsVariable false
set_option linter.unusedVariables false
set_option linter.unusedSimpArgs false
set_option linter.unusedSectionVars false
section
/- printed by xl3.py: cases of function 3, 21. -/
open Go Go.RowKit Go.Proofs
set_option linter.unusedVariables false
set_option maxRecDepth 100000
namespace Go.Proofs.Nw.X
open Go.Proofs.Nw.K
theorem c3_13_9 : cfY 200 3 [vN 13, vN 9] .e n0 kEnd = some (.b true) := by kernel_rfl
theorem c3_13_10 : cfY 200 3 [vN 13, vN 10] .e n0 kEnd = some (.b true) := by kernel_rfl
theorem c3_13_11 : cfY 200 3 [vN 13, vN 11] .e n0 kEnd = some (.b true) := by kernel_rfl
theorem c3_13_12 : cfY 200 3 [vN 13, vN 12] .e n0 kEnd = some (.b true) := by kernel_rfl
theorem c3_13_13 : cfY 200 3 [vN 13, vN 13] .e n0 kEnd = some (.b true) := by kernel_rfl
end Go.Proofs.Nw.X
end
