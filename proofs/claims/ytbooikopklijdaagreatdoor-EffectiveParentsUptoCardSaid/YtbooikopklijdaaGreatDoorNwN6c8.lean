/- Bundle: NwX6D8. -/
import Derived.Test.YtbooikopklijdaaGreatDoorNwN13
set_option linter.constructorNameAsVariable false
set_option linter.unusedVariables false
set_option linter.unusedSimpArgs false
set_option linter.unusedSectionVars false
section
/- printed by xl.py: cases of function 6, 8. -/
open Go Go.RowKit Go.Proofs
set_option maxRecDepth 100000
namespace Go.Proofs.Nw.X
open Go.Proofs.Nw.K
theorem c6_35_t_t : cfY 200 6 [.b true, .b true, vN 35] .e n0 kEnd = some (.b true) := by kernel_rfl
theorem c6_35_t_f : cfY 200 6 [.b true, .b false, vN 35] .e n0 kEnd = some (.b true) := by kernel_rfl
theorem c6_35_f_t : cfY 200 6 [.b false, .b true, vN 35] .e n0 kEnd = some (.b true) := by kernel_rfl
theorem c6_35_f_f : cfY 200 6 [.b false, .b false, vN 35] .e n0 kEnd = some (.b true) := by kernel_rfl
theorem c6_36_t_t : cfY 200 6 [.b true, .b true, vN 36] .e n0 kEnd = some (.b true) := by kernel_rfl
theorem c6_36_t_f : cfY 200 6 [.b true, .b false, vN 36] .e n0 kEnd = some (.b true) := by kernel_rfl
theorem c6_36_f_t : cfY 200 6 [.b false, .b true, vN 36] .e n0 kEnd = some (.b true) := by kernel_rfl
theorem c6_36_f_f : cfY 200 6 [.b false, .b false, vN 36] .e n0 kEnd = some (.b true) := by kernel_rfl
theorem c6_37_t_t : cfY 200 6 [.b true, .b true, vN 37] .e n0 kEnd = some (.b true) := by kernel_rfl
theorem c6_37_t_f : cfY 200 6 [.b true, .b false, vN 37] .e n0 kEnd = some (.b true) := by kernel_rfl
theorem c6_37_f_t : cfY 200 6 [.b false, .b true, vN 37] .e n0 kEnd = some (.b true) := by kernel_rfl
theorem c6_37_f_f : cfY 200 6 [.b false, .b false, vN 37] .e n0 kEnd = some (.b true) := by kernel_rfl
theorem c6_38_t_t : cfY 200 6 [.b true, .b true, vN 38] .e n0 kEnd = some (.b true) := by kernel_rfl
theorem c6_38_t_f : cfY 200 6 [.b true, .b false, vN 38] .e n0 kEnd = some (.b true) := by kernel_rfl
theorem c6_38_f_t : cfY 200 6 [.b false, .b true, vN 38] .e n0 kEnd = some (.b true) := by kernel_rfl
theorem c6_38_f_f : cfY 200 6 [.b false, .b false, vN 38] .e n0 kEnd = some (.b true) := by kernel_rfl
theorem c6_39_t_t : cfY 200 6 [.b true, .b true, vN 39] .e n0 kEnd = some (.b true) := by kernel_rfl
theorem c6_39_t_f : cfY 200 6 [.b true, .b false, vN 39] .e n0 kEnd = some (.b true) := by kernel_rfl
theorem c6_39_f_t : cfY 200 6 [.b false, .b true, vN 39] .e n0 kEnd = some (.b true) := by kernel_rfl
theorem c6_39_f_f : cfY 200 6 [.b false, .b false, vN 39] .e n0 kEnd = some (.b true) := by kernel_rfl
end Go.Proofs.Nw.X
end
