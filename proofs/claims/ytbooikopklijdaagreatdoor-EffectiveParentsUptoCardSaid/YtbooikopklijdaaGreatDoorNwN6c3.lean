/- Bundle: NwX6D3. -/
import Derived.Test.YtbooikopklijdaaGreatDoorNwN13
set_option linter.constructorNameAsVariable false
set_option linter.unusedVariables false
set_option linter.unusedSimpArgs false
set_option linter.unusedSectionVars false
section
/- printed by xl.py: cases of function 6, 3. -/
open Go Go.RowKit Go.Proofs
set_option maxRecDepth 100000
namespace Go.Proofs.Nw.X
open Go.Proofs.Nw.K
theorem c6_10_t_t : cfY 200 6 [.b true, .b true, vN 10] .e n0 kEnd = some (.b true) := by kernel_rfl
theorem c6_10_t_f : cfY 200 6 [.b true, .b false, vN 10] .e n0 kEnd = some (.b true) := by kernel_rfl
theorem c6_10_f_t : cfY 200 6 [.b false, .b true, vN 10] .e n0 kEnd = some (.b true) := by kernel_rfl
theorem c6_10_f_f : cfY 200 6 [.b false, .b false, vN 10] .e n0 kEnd = some (.b true) := by kernel_rfl
theorem c6_11_t_t : cfY 200 6 [.b true, .b true, vN 11] .e n0 kEnd = some (.b true) := by kernel_rfl
theorem c6_11_t_f : cfY 200 6 [.b true, .b false, vN 11] .e n0 kEnd = some (.b true) := by kernel_rfl
theorem c6_11_f_t : cfY 200 6 [.b false, .b true, vN 11] .e n0 kEnd = some (.b true) := by kernel_rfl
theorem c6_11_f_f : cfY 200 6 [.b false, .b false, vN 11] .e n0 kEnd = some (.b true) := by kernel_rfl
theorem c6_12_t_t : cfY 200 6 [.b true, .b true, vN 12] .e n0 kEnd = some (.b true) := by kernel_rfl
theorem c6_12_t_f : cfY 200 6 [.b true, .b false, vN 12] .e n0 kEnd = some (.b true) := by kernel_rfl
theorem c6_12_f_t : cfY 200 6 [.b false, .b true, vN 12] .e n0 kEnd = some (.b true) := by kernel_rfl
theorem c6_12_f_f : cfY 200 6 [.b false, .b false, vN 12] .e n0 kEnd = some (.b true) := by kernel_rfl
theorem c6_13_t_t : cfY 200 6 [.b true, .b true, vN 13] .e n0 kEnd = some (.b true) := by kernel_rfl
theorem c6_13_t_f : cfY 200 6 [.b true, .b false, vN 13] .e n0 kEnd = some (.b true) := by kernel_rfl
theorem c6_13_f_t : cfY 200 6 [.b false, .b true, vN 13] .e n0 kEnd = some (.b true) := by kernel_rfl
theorem c6_13_f_f : cfY 200 6 [.b false, .b false, vN 13] .e n0 kEnd = some (.b true) := by kernel_rfl
theorem c6_14_t_t : cfY 200 6 [.b true, .b true, vN 14] .e n0 kEnd = some (.b true) := by kernel_rfl
theorem c6_14_t_f : cfY 200 6 [.b true, .b false, vN 14] .e n0 kEnd = some (.b true) := by kernel_rfl
theorem c6_14_f_t : cfY 200 6 [.b false, .b true, vN 14] .e n0 kEnd = some (.b true) := by kernel_rfl
theorem c6_14_f_f : cfY 200 6 [.b false, .b false, vN 14] .e n0 kEnd = some (.b true) := by kernel_rfl
end Go.Proofs.Nw.X
end
