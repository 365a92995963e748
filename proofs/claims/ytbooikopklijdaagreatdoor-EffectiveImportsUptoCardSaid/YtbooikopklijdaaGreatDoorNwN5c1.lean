/- Bundle: NwX5D1, NwX5D2, NwX5D3. -/
import Derived.Test.YtbooikopklijdaaGreatDoorNwN13
set_option linter.constructorNameAsVariable false
set_option linter.unusedVariables false
set_option linter.unusedSimpArgs false
set_option linter.unusedSectionVars false
section
/- printed by xl.py: cases of function 5, 1. -/
open Go Go.RowKit Go.Proofs
set_option maxRecDepth 100000
namespace Go.Proofs.Nw.X
open Go.Proofs.Nw.K
theorem c5_0_t : cfY 200 5 [vN 0, .b true] .e n0 kEnd = some (.b true) := by kernel_rfl
theorem c5_0_f : cfY 200 5 [vN 0, .b false] .e n0 kEnd = some (.b true) := by kernel_rfl
end Go.Proofs.Nw.X
end
section
/- printed by xl.py: cases of function 5, 2. -/
open Go Go.RowKit Go.Proofs
set_option maxRecDepth 100000
namespace Go.Proofs.Nw.X
open Go.Proofs.Nw.K
theorem c5_1_t : cfY 200 5 [vN 1, .b true] .e n0 kEnd = some (.b true) := by kernel_rfl
theorem c5_1_f : cfY 200 5 [vN 1, .b false] .e n0 kEnd = some (.b true) := by kernel_rfl
end Go.Proofs.Nw.X
end
section
/- printed by xl.py: cases of function 5, 3. -/
open Go Go.RowKit Go.Proofs
set_option maxRecDepth 100000
namespace Go.Proofs.Nw.X
open Go.Proofs.Nw.K
theorem c5_2_t : cfY 200 5 [vN 2, .b true] .e n0 kEnd = some (.b true) := by kernel_rfl
theorem c5_2_f : cfY 200 5 [vN 2, .b false] .e n0 kEnd = some (.b true) := by kernel_rfl
end Go.Proofs.Nw.X
end
