/- Bundle: NwX3D19. -/
import Derived.Test.YtbooikopklijdaaGreatDoorNwU11
set_option linter.constructorNameAsVariable false
set_option linter.unusedVariables false
set_option linter.unusedSimpArgs false
set_option linter.unusedSectionVars false
section
/- printed by xl3.py: cases of function 3, 19. -/
open Go Go.RowKit Go.Proofs
set_option linter.unusedVariables false
set_option maxRecDepth 100000
namespace Go.Proofs.Nw.X
open Go.Proofs.Nw.K
theorem c3_12_12 : cfY 200 3 [vN 12, vN 12] .e n0 kEnd = some (.b true) := by kernel_rfl
theorem c3_13_0 : cfY 200 3 [vN 13, vN 0] .e n0 kEnd = some (.b true) := by kernel_rfl
theorem c3_13_1 : cfY 200 3 [vN 13, vN 1] .e n0 kEnd = some (.b true) := by kernel_rfl
theorem c3_13_2 : cfY 200 3 [vN 13, vN 2] .e n0 kEnd = some (.b true) := by kernel_rfl
theorem c3_13_3 : cfY 200 3 [vN 13, vN 3] .e n0 kEnd = some (.b true) := by kernel_rfl
end Go.Proofs.Nw.X
end
