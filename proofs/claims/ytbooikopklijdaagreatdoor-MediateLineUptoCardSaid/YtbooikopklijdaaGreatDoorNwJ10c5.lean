/- Bundle: NwX10D9. -/
import Derived.Test.YtbooikopklijdaaGreatDoorNwJ14
set_option linter.constructorNameAsVariable false
set_option linter.unusedVariables false
set_option linter.unusedSimpArgs false
set_option linter.unusedSectionVars false
section
/- printed by xl10.py: cases of function 10, 9. -/
open Go Go.RowKit Go.Proofs
set_option linter.unusedVariables false
set_option maxRecDepth 100000
namespace Go.Proofs.Nw.X
open Go.Proofs.Nw.K
theorem c10_5_4 : cfY 200 10 [vN 5, vN 4] .e n0 kEnd = some (.b true) := by kernel_rfl
theorem c10_5_5 : cfY 200 10 [vN 5, vN 5] .e n0 kEnd = some (.b true) := by kernel_rfl
theorem c10_5_6 : cfY 200 10 [vN 5, vN 6] .e n0 kEnd = some (.b true) := by kernel_rfl
end Go.Proofs.Nw.X
end
