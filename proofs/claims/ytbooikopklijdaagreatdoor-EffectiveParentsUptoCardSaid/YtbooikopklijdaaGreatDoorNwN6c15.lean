/- Bundle: NwX6D15. -/
import Derived.Test.YtbooikopklijdaaGreatDoorNwN13
set_option linter.constructorNameAsVariable false
set_option linter.unusedVariables false
set_option linter.unusedSimpArgs false
set_option linter.unusedSectionVars false
section
/- printed by xl.py: cases of function 6, 15. -/
open Go Go.RowKit Go.Proofs
set_option maxRecDepth 100000
namespace Go.Proofs.Nw.X
open Go.Proofs.Nw.K
theorem c6_70_t_t : cfY 200 6 [.b true, .b true, vN 70] .e n0 kEnd = some (.b true) := by kernel_rfl
theorem c6_70_t_f : cfY 200 6 [.b true, .b false, vN 70] .e n0 kEnd = some (.b true) := by kernel_rfl
theorem c6_70_f_t : cfY 200 6 [.b false, .b true, vN 70] .e n0 kEnd = some (.b true) := by kernel_rfl
theorem c6_70_f_f : cfY 200 6 [.b false, .b false, vN 70] .e n0 kEnd = some (.b true) := by kernel_rfl
theorem c6_71_t_t : cfY 200 6 [.b true, .b true, vN 71] .e n0 kEnd = some (.b true) := by kernel_rfl
theorem c6_71_t_f : cfY 200 6 [.b true, .b false, vN 71] .e n0 kEnd = some (.b true) := by kernel_rfl
theorem c6_71_f_t : cfY 200 6 [.b false, .b true, vN 71] .e n0 kEnd = some (.b true) := by kernel_rfl
theorem c6_71_f_f : cfY 200 6 [.b false, .b false, vN 71] .e n0 kEnd = some (.b true) := by kernel_rfl
theorem c6_72_t_t : cfY 200 6 [.b true, .b true, vN 72] .e n0 kEnd = some (.b true) := by kernel_rfl
theorem c6_72_t_f : cfY 200 6 [.b true, .b false, vN 72] .e n0 kEnd = some (.b true) := by kernel_rfl
theorem c6_72_f_t : cfY 200 6 [.b false, .b true, vN 72] .e n0 kEnd = some (.b true) := by kernel_rfl
theorem c6_72_f_f : cfY 200 6 [.b false, .b false, vN 72] .e n0 kEnd = some (.b true) := by kernel_rfl
theorem c6_73_t_t : cfY 200 6 [.b true, .b true, vN 73] .e n0 kEnd = some (.b true) := by kernel_rfl
theorem c6_73_t_f : cfY 200 6 [.b true, .b false, vN 73] .e n0 kEnd = some (.b true) := by kernel_rfl
theorem c6_73_f_t : cfY 200 6 [.b false, .b true, vN 73] .e n0 kEnd = some (.b true) := by kernel_rfl
theorem c6_73_f_f : cfY 200 6 [.b false, .b false, vN 73] .e n0 kEnd = some (.b true) := by kernel_rfl
theorem c6_74_t_t : cfY 200 6 [.b true, .b true, vN 74] .e n0 kEnd = some (.b true) := by kernel_rfl
theorem c6_74_t_f : cfY 200 6 [.b true, .b false, vN 74] .e n0 kEnd = some (.b true) := by kernel_rfl
theorem c6_74_f_t : cfY 200 6 [.b false, .b true, vN 74] .e n0 kEnd = some (.b true) := by kernel_rfl
theorem c6_74_f_f : cfY 200 6 [.b false, .b false, vN 74] .e n0 kEnd = some (.b true) := by kernel_rfl
end Go.Proofs.Nw.X
end
