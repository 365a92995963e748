/- Bundle: NwX6D13. -/
import Derived.Test.YtbooikopklijdaaGreatDoorNwN13
set_option linter.constructorNameAsVariable false
set_option linter.unusedVariables false
set_option linter.unusedSimpArgs false
set_option linter.unusedSectionVars false
section
/- printed by xl.py: cases of function 6, 13. -/
open Go Go.RowKit Go.Proofs
set_option maxRecDepth 100000
namespace Go.Proofs.Nw.X
open Go.Proofs.Nw.K
theorem c6_60_t_t : cfY 200 6 [.b true, .b true, vN 60] .e n0 kEnd = some (.b true) := by kernel_rfl
theorem c6_60_t_f : cfY 200 6 [.b true, .b false, vN 60] .e n0 kEnd = some (.b true) := by kernel_rfl
theorem c6_60_f_t : cfY 200 6 [.b false, .b true, vN 60] .e n0 kEnd = some (.b true) := by kernel_rfl
theorem c6_60_f_f : cfY 200 6 [.b false, .b false, vN 60] .e n0 kEnd = some (.b true) := by kernel_rfl
theorem c6_61_t_t : cfY 200 6 [.b true, .b true, vN 61] .e n0 kEnd = some (.b true) := by kernel_rfl
theorem c6_61_t_f : cfY 200 6 [.b true, .b false, vN 61] .e n0 kEnd = some (.b true) := by kernel_rfl
theorem c6_61_f_t : cfY 200 6 [.b false, .b true, vN 61] .e n0 kEnd = some (.b true) := by kernel_rfl
theorem c6_61_f_f : cfY 200 6 [.b false, .b false, vN 61] .e n0 kEnd = some (.b true) := by kernel_rfl
theorem c6_62_t_t : cfY 200 6 [.b true, .b true, vN 62] .e n0 kEnd = some (.b true) := by kernel_rfl
theorem c6_62_t_f : cfY 200 6 [.b true, .b false, vN 62] .e n0 kEnd = some (.b true) := by kernel_rfl
theorem c6_62_f_t : cfY 200 6 [.b false, .b true, vN 62] .e n0 kEnd = some (.b true) := by kernel_rfl
theorem c6_62_f_f : cfY 200 6 [.b false, .b false, vN 62] .e n0 kEnd = some (.b true) := by kernel_rfl
theorem c6_63_t_t : cfY 200 6 [.b true, .b true, vN 63] .e n0 kEnd = some (.b true) := by kernel_rfl
theorem c6_63_t_f : cfY 200 6 [.b true, .b false, vN 63] .e n0 kEnd = some (.b true) := by kernel_rfl
theorem c6_63_f_t : cfY 200 6 [.b false, .b true, vN 63] .e n0 kEnd = some (.b true) := by kernel_rfl
theorem c6_63_f_f : cfY 200 6 [.b false, .b false, vN 63] .e n0 kEnd = some (.b true) := by kernel_rfl
theorem c6_64_t_t : cfY 200 6 [.b true, .b true, vN 64] .e n0 kEnd = some (.b true) := by kernel_rfl
theorem c6_64_t_f : cfY 200 6 [.b true, .b false, vN 64] .e n0 kEnd = some (.b true) := by kernel_rfl
theorem c6_64_f_t : cfY 200 6 [.b false, .b true, vN 64] .e n0 kEnd = some (.b true) := by kernel_rfl
theorem c6_64_f_f : cfY 200 6 [.b false, .b false, vN 64] .e n0 kEnd = some (.b true) := by kernel_rfl
end Go.Proofs.Nw.X
end
