/- Bundle: NwX8D4, NwX8D5, NwX8D6. -/
import Derived.Test.YtbooikopklijdaaGreatDoorNwN13
set_option linter.constructorNameAsVariable false
set_option linter.unusedVariables false
set_option linter.unusedSimpArgs false
set_option linter.unusedSectionVars false
section
/- printed by xl.py: cases of function 8, 4. -/
open Go Go.RowKit Go.Proofs
set_option maxRecDepth 100000
namespace Go.Proofs.Nw.X
open Go.Proofs.Nw.K
theorem c8_37_f : cfY 200 8 [vN 37, .b false] .e n0 kEnd = some (.b true) := by kernel_rfl
theorem c8_38_t : cfY 200 8 [vN 38, .b true] .e n0 kEnd = some (.b true) := by kernel_rfl
theorem c8_38_f : cfY 200 8 [vN 38, .b false] .e n0 kEnd = some (.b true) := by kernel_rfl
theorem c8_39_t : cfY 200 8 [vN 39, .b true] .e n0 kEnd = some (.b true) := by kernel_rfl
theorem c8_39_f : cfY 200 8 [vN 39, .b false] .e n0 kEnd = some (.b true) := by kernel_rfl
theorem c8_40_t : cfY 200 8 [vN 40, .b true] .e n0 kEnd = some (.b true) := by kernel_rfl
theorem c8_40_f : cfY 200 8 [vN 40, .b false] .e n0 kEnd = some (.b true) := by kernel_rfl
theorem c8_41_t : cfY 200 8 [vN 41, .b true] .e n0 kEnd = some (.b true) := by kernel_rfl
theorem c8_41_f : cfY 200 8 [vN 41, .b false] .e n0 kEnd = some (.b true) := by kernel_rfl
theorem c8_42_t : cfY 200 8 [vN 42, .b true] .e n0 kEnd = some (.b true) := by kernel_rfl
theorem c8_42_f : cfY 200 8 [vN 42, .b false] .e n0 kEnd = some (.b true) := by kernel_rfl
theorem c8_43_t : cfY 200 8 [vN 43, .b true] .e n0 kEnd = some (.b true) := by kernel_rfl
theorem c8_43_f : cfY 200 8 [vN 43, .b false] .e n0 kEnd = some (.b true) := by kernel_rfl
theorem c8_44_t : cfY 200 8 [vN 44, .b true] .e n0 kEnd = some (.b true) := by kernel_rfl
theorem c8_44_f : cfY 200 8 [vN 44, .b false] .e n0 kEnd = some (.b true) := by kernel_rfl
theorem c8_45_t : cfY 200 8 [vN 45, .b true] .e n0 kEnd = some (.b true) := by kernel_rfl
theorem c8_45_f : cfY 200 8 [vN 45, .b false] .e n0 kEnd = some (.b true) := by kernel_rfl
theorem c8_46_t : cfY 200 8 [vN 46, .b true] .e n0 kEnd = some (.b true) := by kernel_rfl
theorem c8_46_f : cfY 200 8 [vN 46, .b false] .e n0 kEnd = some (.b true) := by kernel_rfl
theorem c8_47_t : cfY 200 8 [vN 47, .b true] .e n0 kEnd = some (.b true) := by kernel_rfl
theorem c8_47_f : cfY 200 8 [vN 47, .b false] .e n0 kEnd = some (.b true) := by kernel_rfl
theorem c8_48_t : cfY 200 8 [vN 48, .b true] .e n0 kEnd = some (.b true) := by kernel_rfl
theorem c8_48_f : cfY 200 8 [vN 48, .b false] .e n0 kEnd = some (.b true) := by kernel_rfl
theorem c8_49_t : cfY 200 8 [vN 49, .b true] .e n0 kEnd = some (.b true) := by kernel_rfl
theorem c8_49_f : cfY 200 8 [vN 49, .b false] .e n0 kEnd = some (.b true) := by kernel_rfl
end Go.Proofs.Nw.X
end
section
/- printed by xl.py: cases of function 8, 5. -/
open Go Go.RowKit Go.Proofs
set_option maxRecDepth 100000
namespace Go.Proofs.Nw.X
open Go.Proofs.Nw.K
theorem c8_50_t : cfY 200 8 [vN 50, .b true] .e n0 kEnd = some (.b true) := by kernel_rfl
theorem c8_50_f : cfY 200 8 [vN 50, .b false] .e n0 kEnd = some (.b true) := by kernel_rfl
theorem c8_51_t : cfY 200 8 [vN 51, .b true] .e n0 kEnd = some (.b true) := by kernel_rfl
theorem c8_51_f : cfY 200 8 [vN 51, .b false] .e n0 kEnd = some (.b true) := by kernel_rfl
theorem c8_52_t : cfY 200 8 [vN 52, .b true] .e n0 kEnd = some (.b true) := by kernel_rfl
theorem c8_52_f : cfY 200 8 [vN 52, .b false] .e n0 kEnd = some (.b true) := by kernel_rfl
theorem c8_53_t : cfY 200 8 [vN 53, .b true] .e n0 kEnd = some (.b true) := by kernel_rfl
theorem c8_53_f : cfY 200 8 [vN 53, .b false] .e n0 kEnd = some (.b true) := by kernel_rfl
theorem c8_54_t : cfY 200 8 [vN 54, .b true] .e n0 kEnd = some (.b true) := by kernel_rfl
theorem c8_54_f : cfY 200 8 [vN 54, .b false] .e n0 kEnd = some (.b true) := by kernel_rfl
theorem c8_55_t : cfY 200 8 [vN 55, .b true] .e n0 kEnd = some (.b true) := by kernel_rfl
theorem c8_55_f : cfY 200 8 [vN 55, .b false] .e n0 kEnd = some (.b true) := by kernel_rfl
theorem c8_56_t : cfY 200 8 [vN 56, .b true] .e n0 kEnd = some (.b true) := by kernel_rfl
theorem c8_56_f : cfY 200 8 [vN 56, .b false] .e n0 kEnd = some (.b true) := by kernel_rfl
theorem c8_57_t : cfY 200 8 [vN 57, .b true] .e n0 kEnd = some (.b true) := by kernel_rfl
theorem c8_57_f : cfY 200 8 [vN 57, .b false] .e n0 kEnd = some (.b true) := by kernel_rfl
theorem c8_58_t : cfY 200 8 [vN 58, .b true] .e n0 kEnd = some (.b true) := by kernel_rfl
theorem c8_58_f : cfY 200 8 [vN 58, .b false] .e n0 kEnd = some (.b true) := by kernel_rfl
theorem c8_59_t : cfY 200 8 [vN 59, .b true] .e n0 kEnd = some (.b true) := by kernel_rfl
theorem c8_59_f : cfY 200 8 [vN 59, .b false] .e n0 kEnd = some (.b true) := by kernel_rfl
theorem c8_60_t : cfY 200 8 [vN 60, .b true] .e n0 kEnd = some (.b true) := by kernel_rfl
theorem c8_60_f : cfY 200 8 [vN 60, .b false] .e n0 kEnd = some (.b true) := by kernel_rfl
theorem c8_61_t : cfY 200 8 [vN 61, .b true] .e n0 kEnd = some (.b true) := by kernel_rfl
theorem c8_61_f : cfY 200 8 [vN 61, .b false] .e n0 kEnd = some (.b true) := by kernel_rfl
theorem c8_62_t : cfY 200 8 [vN 62, .b true] .e n0 kEnd = some (.b true) := by kernel_rfl
end Go.Proofs.Nw.X
end
section
/- printed by xl.py: cases of function 8, 6. -/
open Go Go.RowKit Go.Proofs
set_option maxRecDepth 100000
namespace Go.Proofs.Nw.X
open Go.Proofs.Nw.K
theorem c8_62_f : cfY 200 8 [vN 62, .b false] .e n0 kEnd = some (.b true) := by kernel_rfl
theorem c8_63_t : cfY 200 8 [vN 63, .b true] .e n0 kEnd = some (.b true) := by kernel_rfl
theorem c8_63_f : cfY 200 8 [vN 63, .b false] .e n0 kEnd = some (.b true) := by kernel_rfl
theorem c8_64_t : cfY 200 8 [vN 64, .b true] .e n0 kEnd = some (.b true) := by kernel_rfl
theorem c8_64_f : cfY 200 8 [vN 64, .b false] .e n0 kEnd = some (.b true) := by kernel_rfl
theorem c8_65_t : cfY 200 8 [vN 65, .b true] .e n0 kEnd = some (.b true) := by kernel_rfl
theorem c8_65_f : cfY 200 8 [vN 65, .b false] .e n0 kEnd = some (.b true) := by kernel_rfl
theorem c8_66_t : cfY 200 8 [vN 66, .b true] .e n0 kEnd = some (.b true) := by kernel_rfl
theorem c8_66_f : cfY 200 8 [vN 66, .b false] .e n0 kEnd = some (.b true) := by kernel_rfl
theorem c8_67_t : cfY 200 8 [vN 67, .b true] .e n0 kEnd = some (.b true) := by kernel_rfl
theorem c8_67_f : cfY 200 8 [vN 67, .b false] .e n0 kEnd = some (.b true) := by kernel_rfl
theorem c8_68_t : cfY 200 8 [vN 68, .b true] .e n0 kEnd = some (.b true) := by kernel_rfl
theorem c8_68_f : cfY 200 8 [vN 68, .b false] .e n0 kEnd = some (.b true) := by kernel_rfl
theorem c8_69_t : cfY 200 8 [vN 69, .b true] .e n0 kEnd = some (.b true) := by kernel_rfl
theorem c8_69_f : cfY 200 8 [vN 69, .b false] .e n0 kEnd = some (.b true) := by kernel_rfl
theorem c8_70_t : cfY 200 8 [vN 70, .b true] .e n0 kEnd = some (.b true) := by kernel_rfl
theorem c8_70_f : cfY 200 8 [vN 70, .b false] .e n0 kEnd = some (.b true) := by kernel_rfl
theorem c8_71_t : cfY 200 8 [vN 71, .b true] .e n0 kEnd = some (.b true) := by kernel_rfl
theorem c8_71_f : cfY 200 8 [vN 71, .b false] .e n0 kEnd = some (.b true) := by kernel_rfl
theorem c8_72_t : cfY 200 8 [vN 72, .b true] .e n0 kEnd = some (.b true) := by kernel_rfl
theorem c8_72_f : cfY 200 8 [vN 72, .b false] .e n0 kEnd = some (.b true) := by kernel_rfl
theorem c8_73_t : cfY 200 8 [vN 73, .b true] .e n0 kEnd = some (.b true) := by kernel_rfl
theorem c8_73_f : cfY 200 8 [vN 73, .b false] .e n0 kEnd = some (.b true) := by kernel_rfl
theorem c8_74_t : cfY 200 8 [vN 74, .b true] .e n0 kEnd = some (.b true) := by kernel_rfl
theorem c8_74_f : cfY 200 8 [vN 74, .b false] .e n0 kEnd = some (.b true) := by kernel_rfl
end Go.Proofs.Nw.X
end
