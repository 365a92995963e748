/- Bundle: NwX6D17. -/
import Derived.Test.YtbooikopklijdaaGreatDoorNwN13
set_option linter.constructorNameAsVariable false
set_option linter.unusedVariables false
set_option linter.unusedSimpArgs false
set_option linter.unusedSectionVars false
section
/- printed by xl.py: cases of function 6, 17. -/
open Go Go.RowKit Go.Proofs
set_option maxRecDepth 100000
namespace Go.Proofs.Nw.X
open Go.Proofs.Nw.K
theorem c6_80_t_t : cfY 200 6 [.b true, .b true, vN 80] .e n0 kEnd = some (.b true) := by kernel_rfl
theorem c6_80_t_f : cfY 200 6 [.b true, .b false, vN 80] .e n0 kEnd = some (.b true) := by kernel_rfl
theorem c6_80_f_t : cfY 200 6 [.b false, .b true, vN 80] .e n0 kEnd = some (.b true) := by kernel_rfl
theorem c6_80_f_f : cfY 200 6 [.b false, .b false, vN 80] .e n0 kEnd = some (.b true) := by kernel_rfl
theorem c6_81_t_t : cfY 200 6 [.b true, .b true, vN 81] .e n0 kEnd = some (.b true) := by kernel_rfl
theorem c6_81_t_f : cfY 200 6 [.b true, .b false, vN 81] .e n0 kEnd = some (.b true) := by kernel_rfl
theorem c6_81_f_t : cfY 200 6 [.b false, .b true, vN 81] .e n0 kEnd = some (.b true) := by kernel_rfl
theorem c6_81_f_f : cfY 200 6 [.b false, .b false, vN 81] .e n0 kEnd = some (.b true) := by kernel_rfl
theorem c6_82_t_t : cfY 200 6 [.b true, .b true, vN 82] .e n0 kEnd = some (.b true) := by kernel_rfl
theorem c6_82_t_f : cfY 200 6 [.b true, .b false, vN 82] .e n0 kEnd = some (.b true) := by kernel_rfl
theorem c6_82_f_t : cfY 200 6 [.b false, .b true, vN 82] .e n0 kEnd = some (.b true) := by kernel_rfl
theorem c6_82_f_f : cfY 200 6 [.b false, .b false, vN 82] .e n0 kEnd = some (.b true) := by kernel_rfl
theorem c6_83_t_t : cfY 200 6 [.b true, .b true, vN 83] .e n0 kEnd = some (.b true) := by kernel_rfl
theorem c6_83_t_f : cfY 200 6 [.b true, .b false, vN 83] .e n0 kEnd = some (.b true) := by kernel_rfl
theorem c6_83_f_t : cfY 200 6 [.b false, .b true, vN 83] .e n0 kEnd = some (.b true) := by kernel_rfl
theorem c6_83_f_f : cfY 200 6 [.b false, .b false, vN 83] .e n0 kEnd = some (.b true) := by kernel_rfl
theorem c6_84_t_t : cfY 200 6 [.b true, .b true, vN 84] .e n0 kEnd = some (.b true) := by kernel_rfl
theorem c6_84_t_f : cfY 200 6 [.b true, .b false, vN 84] .e n0 kEnd = some (.b true) := by kernel_rfl
theorem c6_84_f_t : cfY 200 6 [.b false, .b true, vN 84] .e n0 kEnd = some (.b true) := by kernel_rfl
theorem c6_84_f_f : cfY 200 6 [.b false, .b false, vN 84] .e n0 kEnd = some (.b true) := by kernel_rfl
end Go.Proofs.Nw.X
end
