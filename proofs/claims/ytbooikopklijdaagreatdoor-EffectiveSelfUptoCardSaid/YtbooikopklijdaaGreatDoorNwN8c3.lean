/- Bundle: NwX8D7, NwX8D8. -/
import Derived.Test.YtbooikopklijdaaGreatDoorNwN13
set_option linter.constructorNameAsVariable false
set_option linter.unusedVariables false
set_option linter.unusedSimpArgs false
set_option linter.unusedSectionVars false
section
/- printed by xl.py: cases of function 8, 7. -/
open Go Go.RowKit Go.Proofs
set_option maxRecDepth 100000
namespace Go.Proofs.Nw.X
open Go.Proofs.Nw.K
theorem c8_75_t : cfY 200 8 [vN 75, .b true] .e n0 kEnd = some (.b true) := by kernel_rfl
theorem c8_75_f : cfY 200 8 [vN 75, .b false] .e n0 kEnd = some (.b true) := by kernel_rfl
theorem c8_76_t : cfY 200 8 [vN 76, .b true] .e n0 kEnd = some (.b true) := by kernel_rfl
theorem c8_76_f : cfY 200 8 [vN 76, .b false] .e n0 kEnd = some (.b true) := by kernel_rfl
theorem c8_77_t : cfY 200 8 [vN 77, .b true] .e n0 kEnd = some (.b true) := by kernel_rfl
theorem c8_77_f : cfY 200 8 [vN 77, .b false] .e n0 kEnd = some (.b true) := by kernel_rfl
theorem c8_78_t : cfY 200 8 [vN 78, .b true] .e n0 kEnd = some (.b true) := by kernel_rfl
theorem c8_78_f : cfY 200 8 [vN 78, .b false] .e n0 kEnd = some (.b true) := by kernel_rfl
theorem c8_79_t : cfY 200 8 [vN 79, .b true] .e n0 kEnd = some (.b true) := by kernel_rfl
theorem c8_79_f : cfY 200 8 [vN 79, .b false] .e n0 kEnd = some (.b true) := by kernel_rfl
theorem c8_80_t : cfY 200 8 [vN 80, .b true] .e n0 kEnd = some (.b true) := by kernel_rfl
theorem c8_80_f : cfY 200 8 [vN 80, .b false] .e n0 kEnd = some (.b true) := by kernel_rfl
theorem c8_81_t : cfY 200 8 [vN 81, .b true] .e n0 kEnd = some (.b true) := by kernel_rfl
theorem c8_81_f : cfY 200 8 [vN 81, .b false] .e n0 kEnd = some (.b true) := by kernel_rfl
theorem c8_82_t : cfY 200 8 [vN 82, .b true] .e n0 kEnd = some (.b true) := by kernel_rfl
theorem c8_82_f : cfY 200 8 [vN 82, .b false] .e n0 kEnd = some (.b true) := by kernel_rfl
theorem c8_83_t : cfY 200 8 [vN 83, .b true] .e n0 kEnd = some (.b true) := by kernel_rfl
theorem c8_83_f : cfY 200 8 [vN 83, .b false] .e n0 kEnd = some (.b true) := by kernel_rfl
theorem c8_84_t : cfY 200 8 [vN 84, .b true] .e n0 kEnd = some (.b true) := by kernel_rfl
theorem c8_84_f : cfY 200 8 [vN 84, .b false] .e n0 kEnd = some (.b true) := by kernel_rfl
theorem c8_85_t : cfY 200 8 [vN 85, .b true] .e n0 kEnd = some (.b true) := by kernel_rfl
theorem c8_85_f : cfY 200 8 [vN 85, .b false] .e n0 kEnd = some (.b true) := by kernel_rfl
theorem c8_86_t : cfY 200 8 [vN 86, .b true] .e n0 kEnd = some (.b true) := by kernel_rfl
theorem c8_86_f : cfY 200 8 [vN 86, .b false] .e n0 kEnd = some (.b true) := by kernel_rfl
theorem c8_87_t : cfY 200 8 [vN 87, .b true] .e n0 kEnd = some (.b true) := by kernel_rfl
end Go.Proofs.Nw.X
end
section
/- printed by xl.py: cases of function 8, 8. -/
open Go Go.RowKit Go.Proofs
set_option maxRecDepth 100000
namespace Go.Proofs.Nw.X
open Go.Proofs.Nw.K
theorem c8_87_f : cfY 200 8 [vN 87, .b false] .e n0 kEnd = some (.b true) := by kernel_rfl
theorem c8_88_t : cfY 200 8 [vN 88, .b true] .e n0 kEnd = some (.b true) := by kernel_rfl
theorem c8_88_f : cfY 200 8 [vN 88, .b false] .e n0 kEnd = some (.b true) := by kernel_rfl
theorem c8_89_t : cfY 200 8 [vN 89, .b true] .e n0 kEnd = some (.b true) := by kernel_rfl
theorem c8_89_f : cfY 200 8 [vN 89, .b false] .e n0 kEnd = some (.b true) := by kernel_rfl
theorem c8_90_t : cfY 200 8 [vN 90, .b true] .e n0 kEnd = some (.b true) := by kernel_rfl
theorem c8_90_f : cfY 200 8 [vN 90, .b false] .e n0 kEnd = some (.b true) := by kernel_rfl
theorem c8_91_t : cfY 200 8 [vN 91, .b true] .e n0 kEnd = some (.b true) := by kernel_rfl
theorem c8_91_f : cfY 200 8 [vN 91, .b false] .e n0 kEnd = some (.b true) := by kernel_rfl
theorem c8_92_t : cfY 200 8 [vN 92, .b true] .e n0 kEnd = some (.b true) := by kernel_rfl
theorem c8_92_f : cfY 200 8 [vN 92, .b false] .e n0 kEnd = some (.b true) := by kernel_rfl
theorem c8_93_t : cfY 200 8 [vN 93, .b true] .e n0 kEnd = some (.b true) := by kernel_rfl
theorem c8_93_f : cfY 200 8 [vN 93, .b false] .e n0 kEnd = some (.b true) := by kernel_rfl
theorem c8_94_t : cfY 200 8 [vN 94, .b true] .e n0 kEnd = some (.b true) := by kernel_rfl
theorem c8_94_f : cfY 200 8 [vN 94, .b false] .e n0 kEnd = some (.b true) := by kernel_rfl
theorem c8_95_t : cfY 200 8 [vN 95, .b true] .e n0 kEnd = some (.b true) := by kernel_rfl
theorem c8_95_f : cfY 200 8 [vN 95, .b false] .e n0 kEnd = some (.b true) := by kernel_rfl
theorem c8_96_t : cfY 200 8 [vN 96, .b true] .e n0 kEnd = some (.b true) := by kernel_rfl
theorem c8_96_f : cfY 200 8 [vN 96, .b false] .e n0 kEnd = some (.b true) := by kernel_rfl
theorem c8_97_t : cfY 200 8 [vN 97, .b true] .e n0 kEnd = some (.b true) := by kernel_rfl
theorem c8_97_f : cfY 200 8 [vN 97, .b false] .e n0 kEnd = some (.b true) := by kernel_rfl
theorem c8_98_t : cfY 200 8 [vN 98, .b true] .e n0 kEnd = some (.b true) := by kernel_rfl
theorem c8_98_f : cfY 200 8 [vN 98, .b false] .e n0 kEnd = some (.b true) := by kernel_rfl
theorem c8_99_t : cfY 200 8 [vN 99, .b true] .e n0 kEnd = some (.b true) := by kernel_rfl
theorem c8_99_f : cfY 200 8 [vN 99, .b false] .e n0 kEnd = some (.b true) := by kernel_rfl
end Go.Proofs.Nw.X
end
