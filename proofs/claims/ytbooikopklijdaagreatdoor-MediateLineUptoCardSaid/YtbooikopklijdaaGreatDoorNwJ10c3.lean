/- Bundle: NwX10D5, NwX10D6. -/
import Derived.Test.YtbooikopklijdaaGreatDoorNwJ14
set_option linter.constructorNameAsVariable false
set_option linter.unusedVariables false
set_option linter.unusedSimpArgs false
set_option linter.unusedSectionVars false
section
/- printed by xl10.py: cases of function 10, 5. -/
open Go Go.RowKit Go.Proofs
set_option linter.unusedVariables false
set_option maxRecDepth 100000
namespace Go.Proofs.Nw.X
open Go.Proofs.Nw.K
theorem c10_3_3 : cfY 200 10 [vN 3, vN 3] .e n0 kEnd = some (.b true) := by kernel_rfl
theorem c10_3_4 : cfY 200 10 [vN 3, vN 4] .e n0 kEnd = some (.b true) := by kernel_rfl
theorem c10_4_0 : cfY 200 10 [vN 4, vN 0] .e n0 kEnd = some (.b true) := by kernel_rfl
end Go.Proofs.Nw.X
end
section
/- printed by xl10.py: cases of function 10, 6. -/
open Go Go.RowKit Go.Proofs
set_option linter.unusedVariables false
set_option maxRecDepth 100000
namespace Go.Proofs.Nw.X
open Go.Proofs.Nw.K
theorem c10_4_1 : cfY 200 10 [vN 4, vN 1] .e n0 kEnd = some (.b true) := by kernel_rfl
theorem c10_4_2 : cfY 200 10 [vN 4, vN 2] .e n0 kEnd = some (.b true) := by kernel_rfl
theorem c10_4_3 : cfY 200 10 [vN 4, vN 3] .e n0 kEnd = some (.b true) := by kernel_rfl
end Go.Proofs.Nw.X
end
