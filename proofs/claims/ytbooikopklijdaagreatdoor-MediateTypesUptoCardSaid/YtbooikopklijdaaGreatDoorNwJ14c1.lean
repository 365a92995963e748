/- Bundle: NwX14D1, NwX14D2. -/
import Derived.Test.YtbooikopklijdaaGreatDoorNwJ14
set_option linter.constructorNameAsVariable false
set_option linter.unusedVariables false
set_option linter.unusedSimpArgs false
set_option linter.unusedSectionVars false
section
/- printed by xl.py: cases of function 14, 1. -/
open Go Go.RowKit Go.Proofs
set_option maxRecDepth 100000
namespace Go.Proofs.Nw.X
open Go.Proofs.Nw.K
theorem c14_0 : cfX 200 14 [vN 0] .e n0 kEnd = some (.b true) := by kernel_rfl
theorem c14_1 : cfX 200 14 [vN 1] .e n0 kEnd = some (.b true) := by kernel_rfl
end Go.Proofs.Nw.X
end
section
/- printed by xl.py: cases of function 14, 2. -/
open Go Go.RowKit Go.Proofs
set_option maxRecDepth 100000
namespace Go.Proofs.Nw.X
open Go.Proofs.Nw.K
theorem c14_2 : cfX 200 14 [vN 2] .e n0 kEnd = some (.b true) := by kernel_rfl
theorem c14_3 : cfX 200 14 [vN 3] .e n0 kEnd = some (.b true) := by kernel_rfl
end Go.Proofs.Nw.X
end
