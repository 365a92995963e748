/- Bundle: NwX3D3. -/
import Derived.Test.YtbooikopklijdaaGreatDoorNwU11
set_option linter.constructorNameAsVariable false
set_option linter.unusedVariables false
set_option linter.unusedSimpArgs false
set_option linter.unusedSectionVars false
section
/- printed by xl3.py: cases of function 3, 3. -/
open Go Go.RowKit Go.Proofs
set_option linter.unusedVariables false
set_option maxRecDepth 100000
namespace Go.Proofs.Nw.X
open Go.Proofs.Nw.K
theorem c3_4_0 : cfY 200 3 [vN 4, vN 0] .e n0 kEnd = some (.b true) := by kernel_rfl
theorem c3_4_1 : cfY 200 3 [vN 4, vN 1] .e n0 kEnd = some (.b true) := by kernel_rfl
theorem c3_4_2 : cfY 200 3 [vN 4, vN 2] .e n0 kEnd = some (.b true) := by kernel_rfl
theorem c3_4_3 : cfY 200 3 [vN 4, vN 3] .e n0 kEnd = some (.b true) := by kernel_rfl
theorem c3_4_4 : cfY 200 3 [vN 4, vN 4] .e n0 kEnd = some (.b true) := by kernel_rfl
end Go.Proofs.Nw.X
end
