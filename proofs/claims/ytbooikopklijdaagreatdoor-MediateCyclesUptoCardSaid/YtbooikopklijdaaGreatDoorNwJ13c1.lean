/- Bundle: NwX13D1, NwX13D2. -/
import Derived.Test.YtbooikopklijdaaGreatDoorNwJ14
set_option linter.constructorNameAsVariable false
set_option linter.unusedVariables false
set_option linter.unusedSimpArgs false
set_option linter.unusedSectionVars false
section
/- printed by xl.py: cases of function 13, 1. -/
open Go Go.RowKit Go.Proofs
set_option maxRecDepth 100000
namespace Go.Proofs.Nw.X
open Go.Proofs.Nw.K
theorem c13_0_t : cfY 200 13 [vN 0, .b true] .e n0 kEnd = some (.b true) := by kernel_rfl
theorem c13_0_f : cfY 200 13 [vN 0, .b false] .e n0 kEnd = some (.b true) := by kernel_rfl
end Go.Proofs.Nw.X
end
section
/- printed by xl.py: cases of function 13, 2. -/
open Go Go.RowKit Go.Proofs
set_option maxRecDepth 100000
namespace Go.Proofs.Nw.X
open Go.Proofs.Nw.K
theorem c13_1_t : cfY 200 13 [vN 1, .b true] .e n0 kEnd = some (.b true) := by kernel_rfl
theorem c13_1_f : cfY 200 13 [vN 1, .b false] .e n0 kEnd = some (.b true) := by kernel_rfl
end Go.Proofs.Nw.X
end
