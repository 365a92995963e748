/- Bundle: NwX9D3, NwX9D4. -/
import Derived.Test.YtbooikopklijdaaGreatDoorNwJ14
set_option linter.constructorNameAsVariable false
set_option linter.unusedVariables false
set_option linter.unusedSimpArgs false
set_option linter.unusedSectionVars false
section
/- printed by xl.py: cases of function 9, 3. -/
open Go Go.RowKit Go.Proofs
set_option maxRecDepth 100000
namespace Go.Proofs.Nw.X
open Go.Proofs.Nw.K
theorem c9_4 : cfY 200 9 [vN 4] .e n0 kEnd = some (.b true) := by kernel_rfl
theorem c9_5 : cfY 200 9 [vN 5] .e n0 kEnd = some (.b true) := by kernel_rfl
end Go.Proofs.Nw.X
end
section
/- printed by xl.py: cases of function 9, 4. -/
open Go Go.RowKit Go.Proofs
set_option maxRecDepth 100000
namespace Go.Proofs.Nw.X
open Go.Proofs.Nw.K
theorem c9_6 : cfY 200 9 [vN 6] .e n0 kEnd = some (.b true) := by kernel_rfl
end Go.Proofs.Nw.X
end
