/- Bundle: NwX6D11. -/
import Derived.Test.YtbooikopklijdaaGreatDoorNwN13
set_option linter.constructorNameAsVariable false
set_option linter.unusedVariables false
set_option linter.unusedSimpArgs false
set_option linter.unusedSectionVars false
section
/- printed by xl.py: cases of function 6, 11. -/
open Go Go.RowKit Go.Proofs
set_option maxRecDepth 100000
namespace Go.Proofs.Nw.X
open Go.Proofs.Nw.K
theorem c6_50_t_t : cfY 200 6 [.b true, .b true, vN 50] .e n0 kEnd = some (.b true) := by kernel_rfl
theorem c6_50_t_f : cfY 200 6 [.b true, .b false, vN 50] .e n0 kEnd = some (.b true) := by kernel_rfl
theorem c6_50_f_t : cfY 200 6 [.b false, .b true, vN 50] .e n0 kEnd = some (.b true) := by kernel_rfl
theorem c6_50_f_f : cfY 200 6 [.b false, .b false, vN 50] .e n0 kEnd = some (.b true) := by kernel_rfl
theorem c6_51_t_t : cfY 200 6 [.b true, .b true, vN 51] .e n0 kEnd = some (.b true) := by kernel_rfl
theorem c6_51_t_f : cfY 200 6 [.b true, .b false, vN 51] .e n0 kEnd = some (.b true) := by kernel_rfl
theorem c6_51_f_t : cfY 200 6 [.b false, .b true, vN 51] .e n0 kEnd = some (.b true) := by kernel_rfl
theorem c6_51_f_f : cfY 200 6 [.b false, .b false, vN 51] .e n0 kEnd = some (.b true) := by kernel_rfl
theorem c6_52_t_t : cfY 200 6 [.b true, .b true, vN 52] .e n0 kEnd = some (.b true) := by kernel_rfl
theorem c6_52_t_f : cfY 200 6 [.b true, .b false, vN 52] .e n0 kEnd = some (.b true) := by kernel_rfl
theorem c6_52_f_t : cfY 200 6 [.b false, .b true, vN 52] .e n0 kEnd = some (.b true) := by kernel_rfl
theorem c6_52_f_f : cfY 200 6 [.b false, .b false, vN 52] .e n0 kEnd = some (.b true) := by kernel_rfl
theorem c6_53_t_t : cfY 200 6 [.b true, .b true, vN 53] .e n0 kEnd = some (.b true) := by kernel_rfl
theorem c6_53_t_f : cfY 200 6 [.b true, .b false, vN 53] .e n0 kEnd = some (.b true) := by kernel_rfl
theorem c6_53_f_t : cfY 200 6 [.b false, .b true, vN 53] .e n0 kEnd = some (.b true) := by kernel_rfl
theorem c6_53_f_f : cfY 200 6 [.b false, .b false, vN 53] .e n0 kEnd = some (.b true) := by kernel_rfl
theorem c6_54_t_t : cfY 200 6 [.b true, .b true, vN 54] .e n0 kEnd = some (.b true) := by kernel_rfl
theorem c6_54_t_f : cfY 200 6 [.b true, .b false, vN 54] .e n0 kEnd = some (.b true) := by kernel_rfl
theorem c6_54_f_t : cfY 200 6 [.b false, .b true, vN 54] .e n0 kEnd = some (.b true) := by kernel_rfl
theorem c6_54_f_f : cfY 200 6 [.b false, .b false, vN 54] .e n0 kEnd = some (.b true) := by kernel_rfl
end Go.Proofs.Nw.X
end
