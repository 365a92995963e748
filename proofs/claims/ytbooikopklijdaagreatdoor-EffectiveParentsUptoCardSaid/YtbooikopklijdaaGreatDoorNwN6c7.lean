/- Bundle: NwX6D7. -/
import Derived.Test.YtbooikopklijdaaGreatDoorNwN13
set_option linter.constructorNameAsVariable false
set_option linter.unusedVariables false
set_option linter.unusedSimpArgs false
set_option linter.unusedSectionVars false
section
/- printed by xl.py: cases of function 6, 7. -/
open Go Go.RowKit Go.Proofs
set_option maxRecDepth 100000
namespace Go.Proofs.Nw.X
open Go.Proofs.Nw.K
theorem c6_30_t_t : cfY 200 6 [.b true, .b true, vN 30] .e n0 kEnd = some (.b true) := by kernel_rfl
theorem c6_30_t_f : cfY 200 6 [.b true, .b false, vN 30] .e n0 kEnd = some (.b true) := by kernel_rfl
theorem c6_30_f_t : cfY 200 6 [.b false, .b true, vN 30] .e n0 kEnd = some (.b true) := by kernel_rfl
theorem c6_30_f_f : cfY 200 6 [.b false, .b false, vN 30] .e n0 kEnd = some (.b true) := by kernel_rfl
theorem c6_31_t_t : cfY 200 6 [.b true, .b true, vN 31] .e n0 kEnd = some (.b true) := by kernel_rfl
theorem c6_31_t_f : cfY 200 6 [.b true, .b false, vN 31] .e n0 kEnd = some (.b true) := by kernel_rfl
theorem c6_31_f_t : cfY 200 6 [.b false, .b true, vN 31] .e n0 kEnd = some (.b true) := by kernel_rfl
theorem c6_31_f_f : cfY 200 6 [.b false, .b false, vN 31] .e n0 kEnd = some (.b true) := by kernel_rfl
theorem c6_32_t_t : cfY 200 6 [.b true, .b true, vN 32] .e n0 kEnd = some (.b true) := by kernel_rfl
theorem c6_32_t_f : cfY 200 6 [.b true, .b false, vN 32] .e n0 kEnd = some (.b true) := by kernel_rfl
theorem c6_32_f_t : cfY 200 6 [.b false, .b true, vN 32] .e n0 kEnd = some (.b true) := by kernel_rfl
theorem c6_32_f_f : cfY 200 6 [.b false, .b false, vN 32] .e n0 kEnd = some (.b true) := by kernel_rfl
theorem c6_33_t_t : cfY 200 6 [.b true, .b true, vN 33] .e n0 kEnd = some (.b true) := by kernel_rfl
theorem c6_33_t_f : cfY 200 6 [.b true, .b false, vN 33] .e n0 kEnd = some (.b true) := by kernel_rfl
theorem c6_33_f_t : cfY 200 6 [.b false, .b true, vN 33] .e n0 kEnd = some (.b true) := by kernel_rfl
theorem c6_33_f_f : cfY 200 6 [.b false, .b false, vN 33] .e n0 kEnd = some (.b true) := by kernel_rfl
theorem c6_34_t_t : cfY 200 6 [.b true, .b true, vN 34] .e n0 kEnd = some (.b true) := by kernel_rfl
theorem c6_34_t_f : cfY 200 6 [.b true, .b false, vN 34] .e n0 kEnd = some (.b true) := by kernel_rfl
theorem c6_34_f_t : cfY 200 6 [.b false, .b true, vN 34] .e n0 kEnd = some (.b true) := by kernel_rfl
theorem c6_34_f_f : cfY 200 6 [.b false, .b false, vN 34] .e n0 kEnd = some (.b true) := by kernel_rfl
end Go.Proofs.Nw.X
end
