/- Bundle: NwX6D1. -/
import Derived.Test.YtbooikopklijdaaGreatDoorNwN13
set_option linter.constructorNameAsVariable false
set_option linter.unusedVariables false
set_option linter.unusedSimpArgs false
set_option linter.unusedSectionVars false
section
/- printed by xl.py: cases of function 6, 1. -/
open Go Go.RowKit Go.Proofs
set_option maxRecDepth 100000
namespace Go.Proofs.Nw.X
open Go.Proofs.Nw.K
theorem c6_0_t_t : cfY 200 6 [.b true, .b true, vN 0] .e n0 kEnd = some (.b true) := by kernel_rfl
theorem c6_0_t_f : cfY 200 6 [.b true, .b false, vN 0] .e n0 kEnd = some (.b true) := by kernel_rfl
theorem c6_0_f_t : cfY 200 6 [.b false, .b true, vN 0] .e n0 kEnd = some (.b true) := by kernel_rfl
theorem c6_0_f_f : cfY 200 6 [.b false, .b false, vN 0] .e n0 kEnd = some (.b true) := by kernel_rfl
theorem c6_1_t_t : cfY 200 6 [.b true, .b true, vN 1] .e n0 kEnd = some (.b true) := by kernel_rfl
theorem c6_1_t_f : cfY 200 6 [.b true, .b false, vN 1] .e n0 kEnd = some (.b true) := by kernel_rfl
theorem c6_1_f_t : cfY 200 6 [.b false, .b true, vN 1] .e n0 kEnd = some (.b true) := by kernel_rfl
theorem c6_1_f_f : cfY 200 6 [.b false, .b false, vN 1] .e n0 kEnd = some (.b true) := by kernel_rfl
theorem c6_2_t_t : cfY 200 6 [.b true, .b true, vN 2] .e n0 kEnd = some (.b true) := by kernel_rfl
theorem c6_2_t_f : cfY 200 6 [.b true, .b false, vN 2] .e n0 kEnd = some (.b true) := by kernel_rfl
theorem c6_2_f_t : cfY 200 6 [.b false, .b true, vN 2] .e n0 kEnd = some (.b true) := by kernel_rfl
theorem c6_2_f_f : cfY 200 6 [.b false, .b false, vN 2] .e n0 kEnd = some (.b true) := by kernel_rfl
theorem c6_3_t_t : cfY 200 6 [.b true, .b true, vN 3] .e n0 kEnd = some (.b true) := by kernel_rfl
theorem c6_3_t_f : cfY 200 6 [.b true, .b false, vN 3] .e n0 kEnd = some (.b true) := by kernel_rfl
theorem c6_3_f_t : cfY 200 6 [.b false, .b true, vN 3] .e n0 kEnd = some (.b true) := by kernel_rfl
theorem c6_3_f_f : cfY 200 6 [.b false, .b false, vN 3] .e n0 kEnd = some (.b true) := by kernel_rfl
theorem c6_4_t_t : cfY 200 6 [.b true, .b true, vN 4] .e n0 kEnd = some (.b true) := by kernel_rfl
theorem c6_4_t_f : cfY 200 6 [.b true, .b false, vN 4] .e n0 kEnd = some (.b true) := by kernel_rfl
theorem c6_4_f_t : cfY 200 6 [.b false, .b true, vN 4] .e n0 kEnd = some (.b true) := by kernel_rfl
theorem c6_4_f_f : cfY 200 6 [.b false, .b false, vN 4] .e n0 kEnd = some (.b true) := by kernel_rfl
end Go.Proofs.Nw.X
end
