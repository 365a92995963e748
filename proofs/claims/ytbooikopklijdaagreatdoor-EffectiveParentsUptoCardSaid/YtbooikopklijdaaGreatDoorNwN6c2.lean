/- Bundle: NwX6D2. -/
import Derived.Test.YtbooikopklijdaaGreatDoorNwN13
set_option linter.constructorNameAsVariable false
set_option linter.unusedVariables false
set_option linter.unusedSimpArgs false
set_option linter.unusedSectionVars false
section
/- printed by xl.py: cases of function 6, 2. -/
open Go Go.RowKit Go.Proofs
set_option maxRecDepth 100000
namespace Go.Proofs.Nw.X
open Go.Proofs.Nw.K
theorem c6_5_t_t : cfY 200 6 [.b true, .b true, vN 5] .e n0 kEnd = some (.b true) := by kernel_rfl
theorem c6_5_t_f : cfY 200 6 [.b true, .b false, vN 5] .e n0 kEnd = some (.b true) := by kernel_rfl
theorem c6_5_f_t : cfY 200 6 [.b false, .b true, vN 5] .e n0 kEnd = some (.b true) := by kernel_rfl
theorem c6_5_f_f : cfY 200 6 [.b false, .b false, vN 5] .e n0 kEnd = some (.b true) := by kernel_rfl
theorem c6_6_t_t : cfY 200 6 [.b true, .b true, vN 6] .e n0 kEnd = some (.b true) := by kernel_rfl
theorem c6_6_t_f : cfY 200 6 [.b true, .b false, vN 6] .e n0 kEnd = some (.b true) := by kernel_rfl
theorem c6_6_f_t : cfY 200 6 [.b false, .b true, vN 6] .e n0 kEnd = some (.b true) := by kernel_rfl
theorem c6_6_f_f : cfY 200 6 [.b false, .b false, vN 6] .e n0 kEnd = some (.b true) := by kernel_rfl
theorem c6_7_t_t : cfY 200 6 [.b true, .b true, vN 7] .e n0 kEnd = some (.b true) := by kernel_rfl
theorem c6_7_t_f : cfY 200 6 [.b true, .b false, vN 7] .e n0 kEnd = some (.b true) := by kernel_rfl
theorem c6_7_f_t : cfY 200 6 [.b false, .b true, vN 7] .e n0 kEnd = some (.b true) := by kernel_rfl
theorem c6_7_f_f : cfY 200 6 [.b false, .b false, vN 7] .e n0 kEnd = some (.b true) := by kernel_rfl
theorem c6_8_t_t : cfY 200 6 [.b true, .b true, vN 8] .e n0 kEnd = some (.b true) := by kernel_rfl
theorem c6_8_t_f : cfY 200 6 [.b true, .b false, vN 8] .e n0 kEnd = some (.b true) := by kernel_rfl
theorem c6_8_f_t : cfY 200 6 [.b false, .b true, vN 8] .e n0 kEnd = some (.b true) := by kernel_rfl
theorem c6_8_f_f : cfY 200 6 [.b false, .b false, vN 8] .e n0 kEnd = some (.b true) := by kernel_rfl
theorem c6_9_t_t : cfY 200 6 [.b true, .b true, vN 9] .e n0 kEnd = some (.b true) := by kernel_rfl
theorem c6_9_t_f : cfY 200 6 [.b true, .b false, vN 9] .e n0 kEnd = some (.b true) := by kernel_rfl
theorem c6_9_f_t : cfY 200 6 [.b false, .b true, vN 9] .e n0 kEnd = some (.b true) := by kernel_rfl
theorem c6_9_f_f : cfY 200 6 [.b false, .b false, vN 9] .e n0 kEnd = some (.b true) := by kernel_rfl
end Go.Proofs.Nw.X
end
