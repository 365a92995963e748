/- Bundle: NwX6D16. -/
import Derived.Test.YtbooikopklijdaaGreatDoorNwN13
set_option linter.constructorNameAsVariable false
set_option linter.unusedVariables false
set_option linter.unusedSimpArgs false
set_option linter.unusedSectionVars false
section
/- printed by xl.py: cases of function 6, 16. -/
open Go Go.RowKit Go.Proofs
set_option maxRecDepth 100000
namespace Go.Proofs.Nw.X
open Go.Proofs.Nw.K
theorem c6_75_t_t : cfY 200 6 [.b true, .b true, vN 75] .e n0 kEnd = some (.b true) := by kernel_rfl
theorem c6_75_t_f : cfY 200 6 [.b true, .b false, vN 75] .e n0 kEnd = some (.b true) := by kernel_rfl
theorem c6_75_f_t : cfY 200 6 [.b false, .b true, vN 75] .e n0 kEnd = some (.b true) := by kernel_rfl
theorem c6_75_f_f : cfY 200 6 [.b false, .b false, vN 75] .e n0 kEnd = some (.b true) := by kernel_rfl
theorem c6_76_t_t : cfY 200 6 [.b true, .b true, vN 76] .e n0 kEnd = some (.b true) := by kernel_rfl
theorem c6_76_t_f : cfY 200 6 [.b true, .b false, vN 76] .e n0 kEnd = some (.b true) := by kernel_rfl
theorem c6_76_f_t : cfY 200 6 [.b false, .b true, vN 76] .e n0 kEnd = some (.b true) := by kernel_rfl
theorem c6_76_f_f : cfY 200 6 [.b false, .b false, vN 76] .e n0 kEnd = some (.b true) := by kernel_rfl
theorem c6_77_t_t : cfY 200 6 [.b true, .b true, vN 77] .e n0 kEnd = some (.b true) := by kernel_rfl
theorem c6_77_t_f : cfY 200 6 [.b true, .b false, vN 77] .e n0 kEnd = some (.b true) := by kernel_rfl
theorem c6_77_f_t : cfY 200 6 [.b false, .b true, vN 77] .e n0 kEnd = some (.b true) := by kernel_rfl
theorem c6_77_f_f : cfY 200 6 [.b false, .b false, vN 77] .e n0 kEnd = some (.b true) := by kernel_rfl
theorem c6_78_t_t : cfY 200 6 [.b true, .b true, vN 78] .e n0 kEnd = some (.b true) := by kernel_rfl
theorem c6_78_t_f : cfY 200 6 [.b true, .b false, vN 78] .e n0 kEnd = some (.b true) := by kernel_rfl
theorem c6_78_f_t : cfY 200 6 [.b false, .b true, vN 78] .e n0 kEnd = some (.b true) := by kernel_rfl
theorem c6_78_f_f : cfY 200 6 [.b false, .b false, vN 78] .e n0 kEnd = some (.b true) := by kernel_rfl
theorem c6_79_t_t : cfY 200 6 [.b true, .b true, vN 79] .e n0 kEnd = some (.b true) := by kernel_rfl
theorem c6_79_t_f : cfY 200 6 [.b true, .b false, vN 79] .e n0 kEnd = some (.b true) := by kernel_rfl
theorem c6_79_f_t : cfY 200 6 [.b false, .b true, vN 79] .e n0 kEnd = some (.b true) := by kernel_rfl
theorem c6_79_f_f : cfY 200 6 [.b false, .b false, vN 79] .e n0 kEnd = some (.b true) := by kernel_rfl
end Go.Proofs.Nw.X
end
