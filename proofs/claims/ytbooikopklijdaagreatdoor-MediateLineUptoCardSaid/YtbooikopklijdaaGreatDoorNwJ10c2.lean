/- Bundle: NwX10D3, NwX10D4. -/
import Derived.Test.YtbooikopklijdaaGreatDoorNwJ14
set_option linter.constructorNameAsVariable false
set_option linter.unusedVariables false
set_option linter.unusedSimpArgs false
set_option linter.unusedSectionVars false
section
/- printed by xl10.py: cases of function 10, 3. -/
open Go Go.RowKit Go.Proofs
set_option linter.unusedVariables false
set_option maxRecDepth 100000
namespace Go.Proofs.Nw.X
open Go.Proofs.Nw.K
theorem c10_2_1 : cfY 200 10 [vN 2, vN 1] .e n0 kEnd = some (.b true) := by kernel_rfl
theorem c10_2_2 : cfY 200 10 [vN 2, vN 2] .e n0 kEnd = some (.b true) := by kernel_rfl
theorem c10_2_3 : cfY 200 10 [vN 2, vN 3] .e n0 kEnd = some (.b true) := by kernel_rfl
end Go.Proofs.Nw.X
end
section
/- printed by xl10.py: cases of function 10, 4. -/
open Go Go.RowKit Go.Proofs
set_option linter.unusedVariables false
set_option maxRecDepth 100000
namespace Go.Proofs.Nw.X
open Go.Proofs.Nw.K
theorem c10_3_0 : cfY 200 10 [vN 3, vN 0] .e n0 kEnd = some (.b true) := by kernel_rfl
theorem c10_3_1 : cfY 200 10 [vN 3, vN 1] .e n0 kEnd = some (.b true) := by kernel_rfl
theorem c10_3_2 : cfY 200 10 [vN 3, vN 2] .e n0 kEnd = some (.b true) := by kernel_rfl
end Go.Proofs.Nw.X
end
