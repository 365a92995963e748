/- Bundle: NwX5D4, NwX5D5, NwX5D6. -/
import Derived.Test.YtbooikopklijdaaGreatDoorNwN13
set_option linter.constructorNameAsVariable false
set_option linter.unusedVariables false
set_option linter.unusedSimpArgs false
set_option linter.unusedSectionVars false
section
/- printed by xl.py: cases of function 5, 4. -/
open Go Go.RowKit Go.Proofs
set_option maxRecDepth 100000
namespace Go.Proofs.Nw.X
open Go.Proofs.Nw.K
theorem c5_3_t : cfY 200 5 [vN 3, .b true] .e n0 kEnd = some (.b true) := by kernel_rfl
theorem c5_3_f : cfY 200 5 [vN 3, .b false] .e n0 kEnd = some (.b true) := by kernel_rfl
end Go.Proofs.Nw.X
end
section
/- printed by xl.py: cases of function 5, 5. -/
open Go Go.RowKit Go.Proofs
set_option maxRecDepth 100000
namespace Go.Proofs.Nw.X
open Go.Proofs.Nw.K
theorem c5_4_t : cfY 200 5 [vN 4, .b true] .e n0 kEnd = some (.b true) := by kernel_rfl
theorem c5_4_f : cfY 200 5 [vN 4, .b false] .e n0 kEnd = some (.b true) := by kernel_rfl
end Go.Proofs.Nw.X
end
section
/- printed by xl.py: cases of function 5, 6. -/
open Go Go.RowKit Go.Proofs
set_option maxRecDepth 100000
namespace Go.Proofs.Nw.X
open Go.Proofs.Nw.K
theorem c5_5_t : cfY 200 5 [vN 5, .b true] .e n0 kEnd = some (.b true) := by kernel_rfl
theorem c5_5_f : cfY 200 5 [vN 5, .b false] .e n0 kEnd = some (.b true) := by kernel_rfl
end Go.Proofs.Nw.X
end
