/- Bundle: NwX5D7, NwX5D8. -/
import Derived.Test.YtbooikopklijdaaGreatDoorNwN13
set_option linter.constructorNameAsVariable false
set_option linter.unusedVariables false
set_option linter.unusedSimpArgs false
set_option linter.unusedSectionVars false
section
/- printed by xl.py: cases of function 5, 7. -/
open Go Go.RowKit Go.Proofs
set_option maxRecDepth 100000
namespace Go.Proofs.Nw.X
open Go.Proofs.Nw.K
theorem c5_6_t : cfY 200 5 [vN 6, .b true] .e n0 kEnd = some (.b true) := by kernel_rfl
theorem c5_6_f : cfY 200 5 [vN 6, .b false] .e n0 kEnd = some (.b true) := by kernel_rfl
end Go.Proofs.Nw.X
end
section
/- printed by xl.py: cases of function 5, 8. -/
open Go Go.RowKit Go.Proofs
set_option maxRecDepth 100000
namespace Go.Proofs.Nw.X
open Go.Proofs.Nw.K
theorem c5_7_t : cfY 200 5 [vN 7, .b true] .e n0 kEnd = some (.b true) := by kernel_rfl
theorem c5_7_f : cfY 200 5 [vN 7, .b false] .e n0 kEnd = some (.b true) := by kernel_rfl
end Go.Proofs.Nw.X
end
