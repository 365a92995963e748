/- Bundle: NwX6D5. -/
import Derived.Test.YtbooikopklijdaaGreatDoorNwN13
set_option linter.constructorNameAsVariable false
set_option linter.unusedVariables false
set_option linter.unusedSimpArgs false
set_option linter.unusedSectionVars false
section
/- printed by xl.py: cases of function 6, 5. -/
open Go Go.RowKit Go.Proofs
set_option maxRecDepth 100000
namespace Go.Proofs.Nw.X
open Go.Proofs.Nw.K
theorem c6_20_t_t : cfY 200 6 [.b true, .b true, vN 20] .e n0 kEnd = some (.b true) := by kernel_rfl
theorem c6_20_t_f : cfY 200 6 [.b true, .b false, vN 20] .e n0 kEnd = some (.b true) := by kernel_rfl
theorem c6_20_f_t : cfY 200 6 [.b false, .b true, vN 20] .e n0 kEnd = some (.b true) := by kernel_rfl
theorem c6_20_f_f : cfY 200 6 [.b false, .b false, vN 20] .e n0 kEnd = some (.b true) := by kernel_rfl
theorem c6_21_t_t : cfY 200 6 [.b true, .b true, vN 21] .e n0 kEnd = some (.b true) := by kernel_rfl
theorem c6_21_t_f : cfY 200 6 [.b true, .b false, vN 21] .e n0 kEnd = some (.b true) := by kernel_rfl
theorem c6_21_f_t : cfY 200 6 [.b false, .b true, vN 21] .e n0 kEnd = some (.b true) := by kernel_rfl
theorem c6_21_f_f : cfY 200 6 [.b false, .b false, vN 21] .e n0 kEnd = some (.b true) := by kernel_rfl
theorem c6_22_t_t : cfY 200 6 [.b true, .b true, vN 22] .e n0 kEnd = some (.b true) := by kernel_rfl
theorem c6_22_t_f : cfY 200 6 [.b true, .b false, vN 22] .e n0 kEnd = some (.b true) := by kernel_rfl
theorem c6_22_f_t : cfY 200 6 [.b false, .b true, vN 22] .e n0 kEnd = some (.b true) := by kernel_rfl
theorem c6_22_f_f : cfY 200 6 [.b false, .b false, vN 22] .e n0 kEnd = some (.b true) := by kernel_rfl
theorem c6_23_t_t : cfY 200 6 [.b true, .b true, vN 23] .e n0 kEnd = some (.b true) := by kernel_rfl
theorem c6_23_t_f : cfY 200 6 [.b true, .b false, vN 23] .e n0 kEnd = some (.b true) := by kernel_rfl
theorem c6_23_f_t : cfY 200 6 [.b false, .b true, vN 23] .e n0 kEnd = some (.b true) := by kernel_rfl
theorem c6_23_f_f : cfY 200 6 [.b false, .b false, vN 23] .e n0 kEnd = some (.b true) := by kernel_rfl
theorem c6_24_t_t : cfY 200 6 [.b true, .b true, vN 24] .e n0 kEnd = some (.b true) := by kernel_rfl
theorem c6_24_t_f : cfY 200 6 [.b true, .b false, vN 24] .e n0 kEnd = some (.b true) := by kernel_rfl
theorem c6_24_f_t : cfY 200 6 [.b false, .b true, vN 24] .e n0 kEnd = some (.b true) := by kernel_rfl
theorem c6_24_f_f : cfY 200 6 [.b false, .b false, vN 24] .e n0 kEnd = some (.b true) := by kernel_rfl
end Go.Proofs.Nw.X
end
