/- Bundle: NwX3D5. -/
import Derived.Test.YtbooikopklijdaaGreatDoorNwU11
set_option linter.constructorNameAsVariable false
set_option linter.unusedVariables false
set_option linter.unusedSimpArgs false
set_option linter.unusedSectionVars false
section
/- printed by xl3.py: cases of function 3, 5. -/
open Go Go.RowKit Go.Proofs
set_option linter.unusedVariables false
set_option maxRecDepth 100000
namespace Go.Proofs.Nw.X
open Go.Proofs.Nw.K
theorem c3_5_5 : cfY 200 3 [vN 5, vN 5] .e n0 kEnd = some (.b true) := by kernel_rfl
theorem c3_6_0 : cfY 200 3 [vN 6, vN 0] .e n0 kEnd = some (.b true) := by kernel_rfl
theorem c3_6_1 : cfY 200 3 [vN 6, vN 1] .e n0 kEnd = some (.b true) := by kernel_rfl
theorem c3_6_2 : cfY 200 3 [vN 6, vN 2] .e n0 kEnd = some (.b true) := by kernel_rfl
theorem c3_6_3 : cfY 200 3 [vN 6, vN 3] .e n0 kEnd = some (.b true) := by kernel_rfl
end Go.Proofs.Nw.X
end
