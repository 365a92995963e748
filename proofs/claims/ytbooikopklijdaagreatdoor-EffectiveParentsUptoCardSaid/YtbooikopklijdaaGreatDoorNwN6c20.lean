/- Bundle: NwX6D20. -/
import Derived.Test.YtbooikopklijdaaGreatDoorNwN13
set_option linter.constructorNameAsVariable false
set_option linter.unusedVariables false
set_option linter.unusedSimpArgs false
set_option linter.unusedSectionVars false
section
/- printed by xl.py: cases of function 6, 20. -/
open Go Go.RowKit Go.Proofs
set_option maxRecDepth 100000
namespace Go.Proofs.Nw.X
open Go.Proofs.Nw.K
theorem c6_95_t_t : cfY 200 6 [.b true, .b true, vN 95] .e n0 kEnd = some (.b true) := by kernel_rfl
theorem c6_95_t_f : cfY 200 6 [.b true, .b false, vN 95] .e n0 kEnd = some (.b true) := by kernel_rfl
theorem c6_95_f_t : cfY 200 6 [.b false, .b true, vN 95] .e n0 kEnd = some (.b true) := by kernel_rfl
theorem c6_95_f_f : cfY 200 6 [.b false, .b false, vN 95] .e n0 kEnd = some (.b true) := by kernel_rfl
theorem c6_96_t_t : cfY 200 6 [.b true, .b true, vN 96] .e n0 kEnd = some (.b true) := by kernel_rfl
theorem c6_96_t_f : cfY 200 6 [.b true, .b false, vN 96] .e n0 kEnd = some (.b true) := by kernel_rfl
theorem c6_96_f_t : cfY 200 6 [.b false, .b true, vN 96] .e n0 kEnd = some (.b true) := by kernel_rfl
theorem c6_96_f_f : cfY 200 6 [.b false, .b false, vN 96] .e n0 kEnd = some (.b true) := by kernel_rfl
theorem c6_97_t_t : cfY 200 6 [.b true, .b true, vN 97] .e n0 kEnd = some (.b true) := by kernel_rfl
theorem c6_97_t_f : cfY 200 6 [.b true, .b false, vN 97] .e n0 kEnd = some (.b true) := by kernel_rfl
theorem c6_97_f_t : cfY 200 6 [.b false, .b true, vN 97] .e n0 kEnd = some (.b true) := by kernel_rfl
theorem c6_97_f_f : cfY 200 6 [.b false, .b false, vN 97] .e n0 kEnd = some (.b true) := by kernel_rfl
theorem c6_98_t_t : cfY 200 6 [.b true, .b true, vN 98] .e n0 kEnd = some (.b true) := by kernel_rfl
theorem c6_98_t_f : cfY 200 6 [.b true, .b false, vN 98] .e n0 kEnd = some (.b true) := by kernel_rfl
theorem c6_98_f_t : cfY 200 6 [.b false, .b true, vN 98] .e n0 kEnd = some (.b true) := by kernel_rfl
theorem c6_98_f_f : cfY 200 6 [.b false, .b false, vN 98] .e n0 kEnd = some (.b true) := by kernel_rfl
theorem c6_99_t_t : cfY 200 6 [.b true, .b true, vN 99] .e n0 kEnd = some (.b true) := by kernel_rfl
theorem c6_99_t_f : cfY 200 6 [.b true, .b false, vN 99] .e n0 kEnd = some (.b true) := by kernel_rfl
theorem c6_99_f_t : cfY 200 6 [.b false, .b true, vN 99] .e n0 kEnd = some (.b true) := by kernel_rfl
theorem c6_99_f_f : cfY 200 6 [.b false, .b false, vN 99] .e n0 kEnd = some (.b true) := by kernel_rfl
end Go.Proofs.Nw.X
end
