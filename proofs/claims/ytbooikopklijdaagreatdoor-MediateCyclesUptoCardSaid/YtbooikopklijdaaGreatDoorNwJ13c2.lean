/- Bundle: NwX13D3, NwX13D4. -/
import Derived.Test.YtbooikopklijdaaGreatDoorNwJ14
set_option linter.constructorNameAsVariable false
set_option linter.unusedVariables false
set_option linter.unusedSimpArgs false
set_option linter.unusedSectionVars false
section
/- printed by xl.py: cases of function 13, 3. -/
open Go Go.RowKit Go.Proofs
set_option maxRecDepth 100000
namespace Go.Proofs.Nw.X
open Go.Proofs.Nw.K
theorem c13_2_t : cfY 200 13 [vN 2, .b true] .e n0 kEnd = some (.b true) := by kernel_rfl
theorem c13_2_f : cfY 200 13 [vN 2, .b false] .e n0 kEnd = some (.b true) := by kernel_rfl
end Go.Proofs.Nw.X
end
section
/- printed by xl.py: cases of function 13, 4. -/
open Go Go.RowKit Go.Proofs
set_option maxRecDepth 100000
namespace Go.Proofs.Nw.X
open Go.Proofs.Nw.K
theorem c13_3_t : cfY 200 13 [vN 3, .b true] .e n0 kEnd = some (.b true) := by kernel_rfl
theorem c13_3_f : cfY 200 13 [vN 3, .b false] .e n0 kEnd = some (.b true) := by kernel_rfl
end Go.Proofs.Nw.X
end
