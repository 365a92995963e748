/- Bundle: NwX6D12. -/
import Derived.Test.YtbooikopklijdaaGreatDoorNwN13
set_option linter.constructorNameAsVariable false
set_option linter.unusedVariables false
set_option linter.unusedSimpArgs false
set_option linter.unusedSectionVars false
section
/- printed by xl.py: cases of function 6, 12. -/
open Go Go.RowKit Go.Proofs
set_option maxRecDepth 100000
namespace Go.Proofs.Nw.X
open Go.Proofs.Nw.K
theorem c6_55_t_t : cfY 200 6 [.b true, .b true, vN 55] .e n0 kEnd = some (.b true) := by kernel_rfl
theorem c6_55_t_f : cfY 200 6 [.b true, .b false, vN 55] .e n0 kEnd = some (.b true) := by kernel_rfl
theorem c6_55_f_t : cfY 200 6 [.b false, .b true, vN 55] .e n0 kEnd = some (.b true) := by kernel_rfl
theorem c6_55_f_f : cfY 200 6 [.b false, .b false, vN 55] .e n0 kEnd = some (.b true) := by kernel_rfl
theorem c6_56_t_t : cfY 200 6 [.b true, .b true, vN 56] .e n0 kEnd = some (.b true) := by kernel_rfl
theorem c6_56_t_f : cfY 200 6 [.b true, .b false, vN 56] .e n0 kEnd = some (.b true) := by kernel_rfl
theorem c6_56_f_t : cfY 200 6 [.b false, .b true, vN 56] .e n0 kEnd = some (.b true) := by kernel_rfl
theorem c6_56_f_f : cfY 200 6 [.b false, .b false, vN 56] .e n0 kEnd = some (.b true) := by kernel_rfl
theorem c6_57_t_t : cfY 200 6 [.b true, .b true, vN 57] .e n0 kEnd = some (.b true) := by kernel_rfl
theorem c6_57_t_f : cfY 200 6 [.b true, .b false, vN 57] .e n0 kEnd = some (.b true) := by kernel_rfl
theorem c6_57_f_t : cfY 200 6 [.b false, .b true, vN 57] .e n0 kEnd = some (.b true) := by kernel_rfl
theorem c6_57_f_f : cfY 200 6 [.b false, .b false, vN 57] .e n0 kEnd = some (.b true) := by kernel_rfl
theorem c6_58_t_t : cfY 200 6 [.b true, .b true, vN 58] .e n0 kEnd = some (.b true) := by kernel_rfl
theorem c6_58_t_f : cfY 200 6 [.b true, .b false, vN 58] .e n0 kEnd = some (.b true) := by kernel_rfl
theorem c6_58_f_t : cfY 200 6 [.b false, .b true, vN 58] .e n0 kEnd = some (.b true) := by kernel_rfl
theorem c6_58_f_f : cfY 200 6 [.b false, .b false, vN 58] .e n0 kEnd = some (.b true) := by kernel_rfl
theorem c6_59_t_t : cfY 200 6 [.b true, .b true, vN 59] .e n0 kEnd = some (.b true) := by kernel_rfl
theorem c6_59_t_f : cfY 200 6 [.b true, .b false, vN 59] .e n0 kEnd = some (.b true) := by kernel_rfl
theorem c6_59_f_t : cfY 200 6 [.b false, .b true, vN 59] .e n0 kEnd = some (.b true) := by kernel_rfl
theorem c6_59_f_f : cfY 200 6 [.b false, .b false, vN 59] .e n0 kEnd = some (.b true) := by kernel_rfl
end Go.Proofs.Nw.X
end
