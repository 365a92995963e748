/- Bundle: NwX6D18. -/
import Derived.Test.YtbooikopklijdaaGreatDoorNwN13
set_option linter.constructorNameAsVariable false
set_option linter.unusedVariables false
set_option linter.unusedSimpArgs false
set_option linter.unusedSectionVars false
section
/- printed by xl.py: cases of function 6, 18. -/
open Go Go.RowKit Go.Proofs
set_option maxRecDepth 100000
namespace Go.Proofs.Nw.X
open Go.Proofs.Nw.K
theorem c6_85_t_t : cfY 200 6 [.b true, .b true, vN 85] .e n0 kEnd = some (.b true) := by kernel_rfl
theorem c6_85_t_f : cfY 200 6 [.b true, .b false, vN 85] .e n0 kEnd = some (.b true) := by kernel_rfl
theorem c6_85_f_t : cfY 200 6 [.b false, .b true, vN 85] .e n0 kEnd = some (.b true) := by kernel_rfl
theorem c6_85_f_f : cfY 200 6 [.b false, .b false, vN 85] .e n0 kEnd = some (.b true) := by kernel_rfl
theorem c6_86_t_t : cfY 200 6 [.b true, .b true, vN 86] .e n0 kEnd = some (.b true) := by kernel_rfl
theorem c6_86_t_f : cfY 200 6 [.b true, .b false, vN 86] .e n0 kEnd = some (.b true) := by kernel_rfl
theorem c6_86_f_t : cfY 200 6 [.b false, .b true, vN 86] .e n0 kEnd = some (.b true) := by kernel_rfl
theorem c6_86_f_f : cfY 200 6 [.b false, .b false, vN 86] .e n0 kEnd = some (.b true) := by kernel_rfl
theorem c6_87_t_t : cfY 200 6 [.b true, .b true, vN 87] .e n0 kEnd = some (.b true) := by kernel_rfl
theorem c6_87_t_f : cfY 200 6 [.b true, .b false, vN 87] .e n0 kEnd = some (.b true) := by kernel_rfl
theorem c6_87_f_t : cfY 200 6 [.b false, .b true, vN 87] .e n0 kEnd = some (.b true) := by kernel_rfl
theorem c6_87_f_f : cfY 200 6 [.b false, .b false, vN 87] .e n0 kEnd = some (.b true) := by kernel_rfl
theorem c6_88_t_t : cfY 200 6 [.b true, .b true, vN 88] .e n0 kEnd = some (.b true) := by kernel_rfl
theorem c6_88_t_f : cfY 200 6 [.b true, .b false, vN 88] .e n0 kEnd = some (.b true) := by kernel_rfl
theorem c6_88_f_t : cfY 200 6 [.b false, .b true, vN 88] .e n0 kEnd = some (.b true) := by kernel_rfl
theorem c6_88_f_f : cfY 200 6 [.b false, .b false, vN 88] .e n0 kEnd = some (.b true) := by kernel_rfl
theorem c6_89_t_t : cfY 200 6 [.b true, .b true, vN 89] .e n0 kEnd = some (.b true) := by kernel_rfl
theorem c6_89_t_f : cfY 200 6 [.b true, .b false, vN 89] .e n0 kEnd = some (.b true) := by kernel_rfl
theorem c6_89_f_t : cfY 200 6 [.b false, .b true, vN 89] .e n0 kEnd = some (.b true) := by kernel_rfl
theorem c6_89_f_f : cfY 200 6 [.b false, .b false, vN 89] .e n0 kEnd = some (.b true) := by kernel_rfl
end Go.Proofs.Nw.X
end
