/- Bundle: NwX10D1, NwX10D2. -/
import Derived.Test.YtbooikopklijdaaGreatDoorNwJ14
set_option linter.constructorNameAsVariable false
set_option linter.unusedVariables false
set_option linter.unusedSimpArgs false
set_option linter.unusedSectionVars false
section
/- printed by xl10.py: cases of function 10, 1. -/
open Go Go.RowKit Go.Proofs
set_option linter.unusedVariables false
set_option maxRecDepth 100000
namespace Go.Proofs.Nw.X
open Go.Proofs.Nw.K
theorem c10_0_0 : cfY 200 10 [vN 0, vN 0] .e n0 kEnd = some (.b true) := by kernel_rfl
theorem c10_0_1 : cfY 200 10 [vN 0, vN 1] .e n0 kEnd = some (.b true) := by kernel_rfl
theorem c10_1_0 : cfY 200 10 [vN 1, vN 0] .e n0 kEnd = some (.b true) := by kernel_rfl
end Go.Proofs.Nw.X
end
section
/- printed by xl10.py: cases of function 10, 2. -/
open Go Go.RowKit Go.Proofs
set_option linter.unusedVariables false
set_option maxRecDepth 100000
namespace Go.Proofs.Nw.X
open Go.Proofs.Nw.K
theorem c10_1_1 : cfY 200 10 [vN 1, vN 1] .e n0 kEnd = some (.b true) := by kernel_rfl
theorem c10_1_2 : cfY 200 10 [vN 1, vN 2] .e n0 kEnd = some (.b true) := by kernel_rfl
theorem c10_2_0 : cfY 200 10 [vN 2, vN 0] .e n0 kEnd = some (.b true) := by kernel_rfl
end Go.Proofs.Nw.X
end
