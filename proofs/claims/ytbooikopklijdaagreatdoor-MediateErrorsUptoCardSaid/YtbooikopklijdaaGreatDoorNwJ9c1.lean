/- Bundle: NwX9D1, NwX9D2. -/
import Derived.Test.YtbooikopklijdaaGreatDoorNwJ14
set_option linter.constructorNameAsVariable false
set_option linter.unusedVariables false
set_option linter.unusedSimpArgs false
set_option linter.unusedSectionVars false
section
/- printed by xl.py: cases of function 9, 1. -/
open Go Go.RowKit Go.Proofs
set_option maxRecDepth 100000
namespace Go.Proofs.Nw.X
open Go.Proofs.Nw.K
theorem c9_0 : cfY 200 9 [vN 0] .e n0 kEnd = some (.b true) := by kernel_rfl
theorem c9_1 : cfY 200 9 [vN 1] .e n0 kEnd = some (.b true) := by kernel_rfl
end Go.Proofs.Nw.X
end
section
/- printed by xl.py: cases of function 9, 2. -/
open Go Go.RowKit Go.Proofs
set_option maxRecDepth 100000
namespace Go.Proofs.Nw.X
open Go.Proofs.Nw.K
theorem c9_2 : cfY 200 9 [vN 2] .e n0 kEnd = some (.b true) := by kernel_rfl
theorem c9_3 : cfY 200 9 [vN 3] .e n0 kEnd = some (.b true) := by kernel_rfl
end Go.Proofs.Nw.X
end
