/- Bundle: NwX11D5, NwX11D6. -/
import Derived.Test.YtbooikopklijdaaGreatDoorNwJ14
set_option linter.constructorNameAsVariable false
set_option linter.unusedVariables false
set_option linter.unusedSimpArgs false
set_option linter.unusedSectionVars false
section
/- printed by xl.py: cases of function 11, 5. -/
open Go Go.RowKit Go.Proofs
set_option maxRecDepth 100000
namespace Go.Proofs.Nw.X
open Go.Proofs.Nw.K
theorem c11_2_t_t : cfY 200 11 [.b true, vN 2, .b true] .e n0 kEnd = some (.b true) := by kernel_rfl
theorem c11_2_t_f : cfY 200 11 [.b true, vN 2, .b false] .e n0 kEnd = some (.b true) := by kernel_rfl
end Go.Proofs.Nw.X
end
section
/- printed by xl.py: cases of function 11, 6. -/
open Go Go.RowKit Go.Proofs
set_option maxRecDepth 100000
namespace Go.Proofs.Nw.X
open Go.Proofs.Nw.K
theorem c11_2_f_t : cfY 200 11 [.b false, vN 2, .b true] .e n0 kEnd = some (.b true) := by kernel_rfl
theorem c11_2_f_f : cfY 200 11 [.b false, vN 2, .b false] .e n0 kEnd = some (.b true) := by kernel_rfl
end Go.Proofs.Nw.X
end
