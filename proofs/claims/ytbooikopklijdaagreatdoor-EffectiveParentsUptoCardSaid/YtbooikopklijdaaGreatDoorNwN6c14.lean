/- Bundle: NwX6D14. -/
import Derived.Test.YtbooikopklijdaaGreatDoorNwN13
set_option linter.constructorNameAsVariable false
set_option linter.unusedVariables false
set_option linter.unusedSimpArgs false
set_option linter.unusedSectionVars false
section
/- printed by xl.py: cases of function 6, 14. -/
open Go Go.RowKit Go.Proofs
set_option maxRecDepth 100000
namespace Go.Proofs.Nw.X
open Go.Proofs.Nw.K
theorem c6_65_t_t : cfY 200 6 [.b true, .b true, vN 65] .e n0 kEnd = some (.b true) := by kernel_rfl
theorem c6_65_t_f : cfY 200 6 [.b true, .b false, vN 65] .e n0 kEnd = some (.b true) := by kernel_rfl
theorem c6_65_f_t : cfY 200 6 [.b false, .b true, vN 65] .e n0 kEnd = some (.b true) := by kernel_rfl
theorem c6_65_f_f : cfY 200 6 [.b false, .b false, vN 65] .e n0 kEnd = some (.b true) := by kernel_rfl
theorem c6_66_t_t : cfY 200 6 [.b true, .b true, vN 66] .e n0 kEnd = some (.b true) := by kernel_rfl
theorem c6_66_t_f : cfY 200 6 [.b true, .b false, vN 66] .e n0 kEnd = some (.b true) := by kernel_rfl
theorem c6_66_f_t : cfY 200 6 [.b false, .b true, vN 66] .e n0 kEnd = some (.b true) := by kernel_rfl
theorem c6_66_f_f : cfY 200 6 [.b false, .b false, vN 66] .e n0 kEnd = some (.b true) := by kernel_rfl
theorem c6_67_t_t : cfY 200 6 [.b true, .b true, vN 67] .e n0 kEnd = some (.b true) := by kernel_rfl
theorem c6_67_t_f : cfY 200 6 [.b true, .b false, vN 67] .e n0 kEnd = some (.b true) := by kernel_rfl
theorem c6_67_f_t : cfY 200 6 [.b false, .b true, vN 67] .e n0 kEnd = some (.b true) := by kernel_rfl
theorem c6_67_f_f : cfY 200 6 [.b false, .b false, vN 67] .e n0 kEnd = some (.b true) := by kernel_rfl
theorem c6_68_t_t : cfY 200 6 [.b true, .b true, vN 68] .e n0 kEnd = some (.b true) := by kernel_rfl
theorem c6_68_t_f : cfY 200 6 [.b true, .b false, vN 68] .e n0 kEnd = some (.b true) := by kernel_rfl
theorem c6_68_f_t : cfY 200 6 [.b false, .b true, vN 68] .e n0 kEnd = some (.b true) := by kernel_rfl
theorem c6_68_f_f : cfY 200 6 [.b false, .b false, vN 68] .e n0 kEnd = some (.b true) := by kernel_rfl
theorem c6_69_t_t : cfY 200 6 [.b true, .b true, vN 69] .e n0 kEnd = some (.b true) := by kernel_rfl
theorem c6_69_t_f : cfY 200 6 [.b true, .b false, vN 69] .e n0 kEnd = some (.b true) := by kernel_rfl
theorem c6_69_f_t : cfY 200 6 [.b false, .b true, vN 69] .e n0 kEnd = some (.b true) := by kernel_rfl
theorem c6_69_f_f : cfY 200 6 [.b false, .b false, vN 69] .e n0 kEnd = some (.b true) := by kernel_rfl
end Go.Proofs.Nw.X
end
