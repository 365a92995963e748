/- Bundle: NwX6D9. -/
import Derived.Test.YtbooikopklijdaaGreatDoorNwN13
set_option linter.constructorNameAsVariable false
set_option linter.unusedVariables false
set_option linter.unusedSimpArgs false
set_option linter.unusedSectionVars false
section
/- printed by xl.py: cases of function 6, 9. -/
open Go Go.RowKit Go.Proofs
set_option maxRecDepth 100000
namespace Go.Proofs.Nw.X
open Go.Proofs.Nw.K
theorem c6_40_t_t : cfY 200 6 [.b true, .b true, vN 40] .e n0 kEnd = some (.b true) := by kernel_rfl
theorem c6_40_t_f : cfY 200 6 [.b true, .b false, vN 40] .e n0 kEnd = some (.b true) := by kernel_rfl
theorem c6_40_f_t : cfY 200 6 [.b false, .b true, vN 40] .e n0 kEnd = some (.b true) := by kernel_rfl
theorem c6_40_f_f : cfY 200 6 [.b false, .b false, vN 40] .e n0 kEnd = some (.b true) := by kernel_rfl
theorem c6_41_t_t : cfY 200 6 [.b true, .b true, vN 41] .e n0 kEnd = some (.b true) := by kernel_rfl
theorem c6_41_t_f : cfY 200 6 [.b true, .b false, vN 41] .e n0 kEnd = some (.b true) := by kernel_rfl
theorem c6_41_f_t : cfY 200 6 [.b false, .b true, vN 41] .e n0 kEnd = some (.b true) := by kernel_rfl
theorem c6_41_f_f : cfY 200 6 [.b false, .b false, vN 41] .e n0 kEnd = some (.b true) := by kernel_rfl
theorem c6_42_t_t : cfY 200 6 [.b true, .b true, vN 42] .e n0 kEnd = some (.b true) := by kernel_rfl
theorem c6_42_t_f : cfY 200 6 [.b true, .b false, vN 42] .e n0 kEnd = some (.b true) := by kernel_rfl
theorem c6_42_f_t : cfY 200 6 [.b false, .b true, vN 42] .e n0 kEnd = some (.b true) := by kernel_rfl
theorem c6_42_f_f : cfY 200 6 [.b false, .b false, vN 42] .e n0 kEnd = some (.b true) := by kernel_rfl
theorem c6_43_t_t : cfY 200 6 [.b true, .b true, vN 43] .e n0 kEnd = some (.b true) := by kernel_rfl
theorem c6_43_t_f : cfY 200 6 [.b true, .b false, vN 43] .e n0 kEnd = some (.b true) := by kernel_rfl
theorem c6_43_f_t : cfY 200 6 [.b false, .b true, vN 43] .e n0 kEnd = some (.b true) := by kernel_rfl
theorem c6_43_f_f : cfY 200 6 [.b false, .b false, vN 43] .e n0 kEnd = some (.b true) := by kernel_rfl
theorem c6_44_t_t : cfY 200 6 [.b true, .b true, vN 44] .e n0 kEnd = some (.b true) := by kernel_rfl
theorem c6_44_t_f : cfY 200 6 [.b true, .b false, vN 44] .e n0 kEnd = some (.b true) := by kernel_rfl
theorem c6_44_f_t : cfY 200 6 [.b false, .b true, vN 44] .e n0 kEnd = some (.b true) := by kernel_rfl
theorem c6_44_f_f : cfY 200 6 [.b false, .b false, vN 44] .e n0 kEnd = some (.b true) := by kernel_rfl
end Go.Proofs.Nw.X
end
