/- Bundle: NwX6D19. -/
import Derived.Test.YtbooikopklijdaaGreatDoorNwN13
set_option linter.constructorNameAsVariable false
set_option linter.unusedVariables false
set_option linter.unusedSimpArgs false
set_option linter.unusedSectionVars false
section
/- printed by xl.py: cases of function 6, 19. -/
open Go Go.RowKit Go.Proofs
set_option maxRecDepth 100000
namespace Go.Proofs.Nw.X
open Go.Proofs.Nw.K
theorem c6_90_t_t : cfY 200 6 [.b true, .b true, vN 90] .e n0 kEnd = some (.b true) := by kernel_rfl
theorem c6_90_t_f : cfY 200 6 [.b true, .b false, vN 90] .e n0 kEnd = some (.b true) := by kernel_rfl
theorem c6_90_f_t : cfY 200 6 [.b false, .b true, vN 90] .e n0 kEnd = some (.b true) := by kernel_rfl
theorem c6_90_f_f : cfY 200 6 [.b false, .b false, vN 90] .e n0 kEnd = some (.b true) := by kernel_rfl
theorem c6_91_t_t : cfY 200 6 [.b true, .b true, vN 91] .e n0 kEnd = some (.b true) := by kernel_rfl
theorem c6_91_t_f : cfY 200 6 [.b true, .b false, vN 91] .e n0 kEnd = some (.b true) := by kernel_rfl
theorem c6_91_f_t : cfY 200 6 [.b false, .b true, vN 91] .e n0 kEnd = some (.b true) := by kernel_rfl
theorem c6_91_f_f : cfY 200 6 [.b false, .b false, vN 91] .e n0 kEnd = some (.b true) := by kernel_rfl
theorem c6_92_t_t : cfY 200 6 [.b true, .b true, vN 92] .e n0 kEnd = some (.b true) := by kernel_rfl
theorem c6_92_t_f : cfY 200 6 [.b true, .b false, vN 92] .e n0 kEnd = some (.b true) := by kernel_rfl
theorem c6_92_f_t : cfY 200 6 [.b false, .b true, vN 92] .e n0 kEnd = some (.b true) := by kernel_rfl
theorem c6_92_f_f : cfY 200 6 [.b false, .b false, vN 92] .e n0 kEnd = some (.b true) := by kernel_rfl
theorem c6_93_t_t : cfY 200 6 [.b true, .b true, vN 93] .e n0 kEnd = some (.b true) := by kernel_rfl
theorem c6_93_t_f : cfY 200 6 [.b true, .b false, vN 93] .e n0 kEnd = some (.b true) := by kernel_rfl
theorem c6_93_f_t : cfY 200 6 [.b false, .b true, vN 93] .e n0 kEnd = some (.b true) := by kernel_rfl
theorem c6_93_f_f : cfY 200 6 [.b false, .b false, vN 93] .e n0 kEnd = some (.b true) := by kernel_rfl
theorem c6_94_t_t : cfY 200 6 [.b true, .b true, vN 94] .e n0 kEnd = some (.b true) := by kernel_rfl
theorem c6_94_t_f : cfY 200 6 [.b true, .b false, vN 94] .e n0 kEnd = some (.b true) := by kernel_rfl
theorem c6_94_f_t : cfY 200 6 [.b false, .b true, vN 94] .e n0 kEnd = some (.b true) := by kernel_rfl
theorem c6_94_f_f : cfY 200 6 [.b false, .b false, vN 94] .e n0 kEnd = some (.b true) := by kernel_rfl
end Go.Proofs.Nw.X
end
