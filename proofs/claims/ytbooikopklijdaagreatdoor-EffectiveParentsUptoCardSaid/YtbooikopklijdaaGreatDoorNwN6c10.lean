/- Bundle: NwX6D10. -/
import Derived.Test.YtbooikopklijdaaGreatDoorNwN13
set_option linter.constructorNameAsVariable false
set_option linter.unusedVariables false
set_option linter.unusedSimpArgs false
set_option linter.unusedSectionVars false
section
/- printed by xl.py: cases of function 6, 10. -/
open Go Go.RowKit Go.Proofs
set_option maxRecDepth 100000
namespace Go.Proofs.Nw.X
open Go.Proofs.Nw.K
theorem c6_45_t_t : cfY 200 6 [.b true, .b true, vN 45] .e n0 kEnd = some (.b true) := by kernel_rfl
theorem c6_45_t_f : cfY 200 6 [.b true, .b false, vN 45] .e n0 kEnd = some (.b true) := by kernel_rfl
theorem c6_45_f_t : cfY 200 6 [.b false, .b true, vN 45] .e n0 kEnd = some (.b true) := by kernel_rfl
theorem c6_45_f_f : cfY 200 6 [.b false, .b false, vN 45] .e n0 kEnd = some (.b true) := by kernel_rfl
theorem c6_46_t_t : cfY 200 6 [.b true, .b true, vN 46] .e n0 kEnd = some (.b true) := by kernel_rfl
theorem c6_46_t_f : cfY 200 6 [.b true, .b false, vN 46] .e n0 kEnd = some (.b true) := by kernel_rfl
theorem c6_46_f_t : cfY 200 6 [.b false, .b true, vN 46] .e n0 kEnd = some (.b true) := by kernel_rfl
theorem c6_46_f_f : cfY 200 6 [.b false, .b false, vN 46] .e n0 kEnd = some (.b true) := by kernel_rfl
theorem c6_47_t_t : cfY 200 6 [.b true, .b true, vN 47] .e n0 kEnd = some (.b true) := by kernel_rfl
theorem c6_47_t_f : cfY 200 6 [.b true, .b false, vN 47] .e n0 kEnd = some (.b true) := by kernel_rfl
theorem c6_47_f_t : cfY 200 6 [.b false, .b true, vN 47] .e n0 kEnd = some (.b true) := by kernel_rfl
theorem c6_47_f_f : cfY 200 6 [.b false, .b false, vN 47] .e n0 kEnd = some (.b true) := by kernel_rfl
theorem c6_48_t_t : cfY 200 6 [.b true, .b true, vN 48] .e n0 kEnd = some (.b true) := by kernel_rfl
theorem c6_48_t_f : cfY 200 6 [.b true, .b false, vN 48] .e n0 kEnd = some (.b true) := by kernel_rfl
theorem c6_48_f_t : cfY 200 6 [.b false, .b true, vN 48] .e n0 kEnd = some (.b true) := by kernel_rfl
theorem c6_48_f_f : cfY 200 6 [.b false, .b false, vN 48] .e n0 kEnd = some (.b true) := by kernel_rfl
theorem c6_49_t_t : cfY 200 6 [.b true, .b true, vN 49] .e n0 kEnd = some (.b true) := by kernel_rfl
theorem c6_49_t_f : cfY 200 6 [.b true, .b false, vN 49] .e n0 kEnd = some (.b true) := by kernel_rfl
theorem c6_49_f_t : cfY 200 6 [.b false, .b true, vN 49] .e n0 kEnd = some (.b true) := by kernel_rfl
theorem c6_49_f_f : cfY 200 6 [.b false, .b false, vN 49] .e n0 kEnd = some (.b true) := by kernel_rfl
end Go.Proofs.Nw.X
end
