/- Bundle: NwX11D3, NwX11D4. -/
import Derived.Test.YtbooikopklijdaaGreatDoorNwJ14
set_option linter.constructorNameAsVariable false
set_option linter.unusedVariables false
set_option linter.unusedSimpArgs false
set_option linter.unusedSectionVars false
section
/- printed by xl.py: cases of function 11, 3. -/
open Go Go.RowKit Go.Proofs
set_option maxRecDepth 100000
namespace Go.Proofs.Nw.X
open Go.Proofs.Nw.K
theorem c11_1_t_t : cfY 200 11 [.b true, vN 1, .b true] .e n0 kEnd = some (.b true) := by kernel_rfl
theorem c11_1_t_f : cfY 200 11 [.b true, vN 1, .b false] .e n0 kEnd = some (.b true) := by kernel_rfl
end Go.Proofs.Nw.X
end
section
/- printed by xl.py: cases of function 11, 4. -/
open Go Go.RowKit Go.Proofs
set_option maxRecDepth 100000
namespace Go.Proofs.Nw.X
open Go.Proofs.Nw.K
theorem c11_1_f_t : cfY 200 11 [.b false, vN 1, .b true] .e n0 kEnd = some (.b true) := by kernel_rfl
theorem c11_1_f_f : cfY 200 11 [.b false, vN 1, .b false] .e n0 kEnd = some (.b true) := by kernel_rfl
end Go.Proofs.Nw.X
end
