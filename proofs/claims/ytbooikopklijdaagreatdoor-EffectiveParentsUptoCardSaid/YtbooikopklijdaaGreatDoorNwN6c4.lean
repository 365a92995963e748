/- Bundle: NwX6D4. -/
import Derived.Test.YtbooikopklijdaaGreatDoorNwN13
set_option linter.constructorNameAsVariable false
set_option linter.unusedVariables false
set_option linter.unusedSimpArgs false
set_option linter.unusedSectionVars false
section
/- printed by xl.py: cases of function 6, 4. -/
open Go Go.RowKit Go.Proofs
set_option maxRecDepth 100000
namespace Go.Proofs.Nw.X
open Go.Proofs.Nw.K
theorem c6_15_t_t : cfY 200 6 [.b true, .b true, vN 15] .e n0 kEnd = some (.b true) := by kernel_rfl
theorem c6_15_t_f : cfY 200 6 [.b true, .b false, vN 15] .e n0 kEnd = some (.b true) := by kernel_rfl
theorem c6_15_f_t : cfY 200 6 [.b false, .b true, vN 15] .e n0 kEnd = some (.b true) := by kernel_rfl
theorem c6_15_f_f : cfY 200 6 [.b false, .b false, vN 15] .e n0 kEnd = some (.b true) := by kernel_rfl
theorem c6_16_t_t : cfY 200 6 [.b true, .b true, vN 16] .e n0 kEnd = some (.b true) := by kernel_rfl
theorem c6_16_t_f : cfY 200 6 [.b true, .b false, vN 16] .e n0 kEnd = some (.b true) := by kernel_rfl
theorem c6_16_f_t : cfY 200 6 [.b false, .b true, vN 16] .e n0 kEnd = some (.b true) := by kernel_rfl
theorem c6_16_f_f : cfY 200 6 [.b false, .b false, vN 16] .e n0 kEnd = some (.b true) := by kernel_rfl
theorem c6_17_t_t : cfY 200 6 [.b true, .b true, vN 17] .e n0 kEnd = some (.b true) := by kernel_rfl
theorem c6_17_t_f : cfY 200 6 [.b true, .b false, vN 17] .e n0 kEnd = some (.b true) := by kernel_rfl
theorem c6_17_f_t : cfY 200 6 [.b false, .b true, vN 17] .e n0 kEnd = some (.b true) := by kernel_rfl
theorem c6_17_f_f : cfY 200 6 [.b false, .b false, vN 17] .e n0 kEnd = some (.b true) := by kernel_rfl
theorem c6_18_t_t : cfY 200 6 [.b true, .b true, vN 18] .e n0 kEnd = some (.b true) := by kernel_rfl
theorem c6_18_t_f : cfY 200 6 [.b true, .b false, vN 18] .e n0 kEnd = some (.b true) := by kernel_rfl
theorem c6_18_f_t : cfY 200 6 [.b false, .b true, vN 18] .e n0 kEnd = some (.b true) := by kernel_rfl
theorem c6_18_f_f : cfY 200 6 [.b false, .b false, vN 18] .e n0 kEnd = some (.b true) := by kernel_rfl
theorem c6_19_t_t : cfY 200 6 [.b true, .b true, vN 19] .e n0 kEnd = some (.b true) := by kernel_rfl
theorem c6_19_t_f : cfY 200 6 [.b true, .b false, vN 19] .e n0 kEnd = some (.b true) := by kernel_rfl
theorem c6_19_f_t : cfY 200 6 [.b false, .b true, vN 19] .e n0 kEnd = some (.b true) := by kernel_rfl
theorem c6_19_f_f : cfY 200 6 [.b false, .b false, vN 19] .e n0 kEnd = some (.b true) := by kernel_rfl
end Go.Proofs.Nw.X
end
