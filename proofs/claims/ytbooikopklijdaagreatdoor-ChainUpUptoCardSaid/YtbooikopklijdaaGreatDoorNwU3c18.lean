/- Bundle: NwX3D18. -/
import Derived.Test.YtbooikopklijdaaGreatDoorNwU11
set_option linter.constructorNameAsVariable false
set_option linter.unusedVariables false
set_option linter.unusedSimpArgs false
set_option linter.unusedSectionVars false
section
/- printed by xl3.py: cases of function 3, 18. -/
open Go Go.RowKit Go.Proofs
set_option linter.unusedVariables false
set_option maxRecDepth 100000
namespace Go.Proofs.Nw.X
open Go.Proofs.Nw.K
theorem c3_12_7 : cfY 200 3 [vN 12, vN 7] .e n0 kEnd = some (.b true) := by kernel_rfl
theorem c3_12_8 : cfY 200 3 [vN 12, vN 8] .e n0 kEnd = some (.b true) := by kernel_rfl
theorem c3_12_9 : cfY 200 3 [vN 12, vN 9] .e n0 kEnd = some (.b true) := by kernel_rfl
theorem c3_12_10 : cfY 200 3 [vN 12, vN 10] .e n0 kEnd = some (.b true) := by kernel_rfl
theorem c3_12_11 : cfY 200 3 [vN 12, vN 11] .e n0 kEnd = some (.b true) := by kernel_rfl
end Go.Proofs.Nw.X
end
