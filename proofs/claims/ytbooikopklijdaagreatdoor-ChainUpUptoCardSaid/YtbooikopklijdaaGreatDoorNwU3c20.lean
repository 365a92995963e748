/- Bundle: NwX3D20. -/
import Derived.Test.YtbooikopklijdaaGreatDoorNwU11
set_option linter.constructorNameAsVariable false
set_option linter.unusedVariables false
set_option linter.unusedSimpArgs false
set_option linter.unusedSectionVars false
section
/- printed by xl3.py: cases of function 3, 20. -/
open Go Go.RowKit Go.Proofs
set_option linter.unusedVariables false
set_option maxRecDepth 100000
namespace Go.Proofs.Nw.X
open Go.Proofs.Nw.K
theorem c3_13_4 : cfY 200 3 [vN 13, vN 4] .e n0 kEnd = some (.b true) := by kernel_rfl
theorem c3_13_5 : cfY 200 3 [vN 13, vN 5] .e n0 kEnd = some (.b true) := by kernel_rfl
theorem c3_13_6 : cfY 200 3 [vN 13, vN 6] .e n0 kEnd = some (.b true) := by kernel_rfl
theorem c3_13_7 : cfY 200 3 [vN 13, vN 7] .e n0 kEnd = some (.b true) := by kernel_rfl
theorem c3_13_8 : cfY 200 3 [vN 13, vN 8] .e n0 kEnd = some (.b true) := by kernel_rfl
end Go.Proofs.Nw.X
end
