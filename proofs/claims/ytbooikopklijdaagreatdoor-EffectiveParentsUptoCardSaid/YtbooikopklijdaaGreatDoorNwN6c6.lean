/- Bundle: NwX6D6. -/
import Derived.Test.YtbooikopklijdaaGreatDoorNwN13
set_option linter.constructorNameAsVariable false
set_option linter.unusedVariables false
set_option linter.unusedSimpArgs false
set_option linter.unusedSectionVars false
section
/- printed by xl.py: cases of function 6, 6. -/
open Go Go.RowKit Go.Proofs
set_option maxRecDepth 100000
namespace Go.Proofs.Nw.X
open Go.Proofs.Nw.K
theorem c6_25_t_t : cfY 200 6 [.b true, .b true, vN 25] .e n0 kEnd = some (.b true) := by kernel_rfl
theorem c6_25_t_f : cfY 200 6 [.b true, .b false, vN 25] .e n0 kEnd = some (.b true) := by kernel_rfl
theorem c6_25_f_t : cfY 200 6 [.b false, .b true, vN 25] .e n0 kEnd = some (.b true) := by kernel_rfl
theorem c6_25_f_f : cfY 200 6 [.b false, .b false, vN 25] .e n0 kEnd = some (.b true) := by kernel_rfl
theorem c6_26_t_t : cfY 200 6 [.b true, .b true, vN 26] .e n0 kEnd = some (.b true) := by kernel_rfl
theorem c6_26_t_f : cfY 200 6 [.b true, .b false, vN 26] .e n0 kEnd = some (.b true) := by kernel_rfl
theorem c6_26_f_t : cfY 200 6 [.b false, .b true, vN 26] .e n0 kEnd = some (.b true) := by kernel_rfl
theorem c6_26_f_f : cfY 200 6 [.b false, .b false, vN 26] .e n0 kEnd = some (.b true) := by kernel_rfl
theorem c6_27_t_t : cfY 200 6 [.b true, .b true, vN 27] .e n0 kEnd = some (.b true) := by kernel_rfl
theorem c6_27_t_f : cfY 200 6 [.b true, .b false, vN 27] .e n0 kEnd = some (.b true) := by kernel_rfl
theorem c6_27_f_t : cfY 200 6 [.b false, .b true, vN 27] .e n0 kEnd = some (.b true) := by kernel_rfl
theorem c6_27_f_f : cfY 200 6 [.b false, .b false, vN 27] .e n0 kEnd = some (.b true) := by kernel_rfl
theorem c6_28_t_t : cfY 200 6 [.b true, .b true, vN 28] .e n0 kEnd = some (.b true) := by kernel_rfl
theorem c6_28_t_f : cfY 200 6 [.b true, .b false, vN 28] .e n0 kEnd = some (.b true) := by kernel_rfl
theorem c6_28_f_t : cfY 200 6 [.b false, .b true, vN 28] .e n0 kEnd = some (.b true) := by kernel_rfl
theorem c6_28_f_f : cfY 200 6 [.b false, .b false, vN 28] .e n0 kEnd = some (.b true) := by kernel_rfl
theorem c6_29_t_t : cfY 200 6 [.b true, .b true, vN 29] .e n0 kEnd = some (.b true) := by kernel_rfl
theorem c6_29_t_f : cfY 200 6 [.b true, .b false, vN 29] .e n0 kEnd = some (.b true) := by kernel_rfl
theorem c6_29_f_t : cfY 200 6 [.b false, .b true, vN 29] .e n0 kEnd = some (.b true) := by kernel_rfl
theorem c6_29_f_f : cfY 200 6 [.b false, .b false, vN 29] .e n0 kEnd = some (.b true) := by kernel_rfl
end Go.Proofs.Nw.X
end
