/- Bundle: NwX8D1, NwX8D2, NwX8D3. -/
import Derived.Test.YtbooikopklijdaaGreatDoorNwN13
set_option linter.constructorNameAsVariable false
set_option linter.unusedVariables false
set_option linter.unusedSimpArgs false
set_option linter.unusedSectionVars false
section
/- printed by xl.py: cases of function 8, 1. -/
open Go Go.RowKit Go.Proofs
set_option maxRecDepth 100000
namespace Go.Proofs.Nw.X
open Go.Proofs.Nw.K
theorem c8_0_t : cfY 200 8 [vN 0, .b true] .e n0 kEnd = some (.b true) := by kernel_rfl
theorem c8_0_f : cfY 200 8 [vN 0, .b false] .e n0 kEnd = some (.b true) := by kernel_rfl
theorem c8_1_t : cfY 200 8 [vN 1, .b true] .e n0 kEnd = some (.b true) := by kernel_rfl
theorem c8_1_f : cfY 200 8 [vN 1, .b false] .e n0 kEnd = some (.b true) := by kernel_rfl
theorem c8_2_t : cfY 200 8 [vN 2, .b true] .e n0 kEnd = some (.b true) := by kernel_rfl
theorem c8_2_f : cfY 200 8 [vN 2, .b false] .e n0 kEnd = some (.b true) := by kernel_rfl
theorem c8_3_t : cfY 200 8 [vN 3, .b true] .e n0 kEnd = some (.b true) := by kernel_rfl
theorem c8_3_f : cfY 200 8 [vN 3, .b false] .e n0 kEnd = some (.b true) := by kernel_rfl
theorem c8_4_t : cfY 200 8 [vN 4, .b true] .e n0 kEnd = some (.b true) := by kernel_rfl
theorem c8_4_f : cfY 200 8 [vN 4, .b false] .e n0 kEnd = some (.b true) := by kernel_rfl
theorem c8_5_t : cfY 200 8 [vN 5, .b true] .e n0 kEnd = some (.b true) := by kernel_rfl
theorem c8_5_f : cfY 200 8 [vN 5, .b false] .e n0 kEnd = some (.b true) := by kernel_rfl
theorem c8_6_t : cfY 200 8 [vN 6, .b true] .e n0 kEnd = some (.b true) := by kernel_rfl
theorem c8_6_f : cfY 200 8 [vN 6, .b false] .e n0 kEnd = some (.b true) := by kernel_rfl
theorem c8_7_t : cfY 200 8 [vN 7, .b true] .e n0 kEnd = some (.b true) := by kernel_rfl
theorem c8_7_f : cfY 200 8 [vN 7, .b false] .e n0 kEnd = some (.b true) := by kernel_rfl
theorem c8_8_t : cfY 200 8 [vN 8, .b true] .e n0 kEnd = some (.b true) := by kernel_rfl
theorem c8_8_f : cfY 200 8 [vN 8, .b false] .e n0 kEnd = some (.b true) := by kernel_rfl
theorem c8_9_t : cfY 200 8 [vN 9, .b true] .e n0 kEnd = some (.b true) := by kernel_rfl
theorem c8_9_f : cfY 200 8 [vN 9, .b false] .e n0 kEnd = some (.b true) := by kernel_rfl
theorem c8_10_t : cfY 200 8 [vN 10, .b true] .e n0 kEnd = some (.b true) := by kernel_rfl
theorem c8_10_f : cfY 200 8 [vN 10, .b false] .e n0 kEnd = some (.b true) := by kernel_rfl
theorem c8_11_t : cfY 200 8 [vN 11, .b true] .e n0 kEnd = some (.b true) := by kernel_rfl
theorem c8_11_f : cfY 200 8 [vN 11, .b false] .e n0 kEnd = some (.b true) := by kernel_rfl
theorem c8_12_t : cfY 200 8 [vN 12, .b true] .e n0 kEnd = some (.b true) := by kernel_rfl
end Go.Proofs.Nw.X
end
section
/- printed by xl.py: cases of function 8, 2. -/
open Go Go.RowKit Go.Proofs
set_option maxRecDepth 100000
namespace Go.Proofs.Nw.X
open Go.Proofs.Nw.K
theorem c8_12_f : cfY 200 8 [vN 12, .b false] .e n0 kEnd = some (.b true) := by kernel_rfl
theorem c8_13_t : cfY 200 8 [vN 13, .b true] .e n0 kEnd = some (.b true) := by kernel_rfl
theorem c8_13_f : cfY 200 8 [vN 13, .b false] .e n0 kEnd = some (.b true) := by kernel_rfl
theorem c8_14_t : cfY 200 8 [vN 14, .b true] .e n0 kEnd = some (.b true) := by kernel_rfl
theorem c8_14_f : cfY 200 8 [vN 14, .b false] .e n0 kEnd = some (.b true) := by kernel_rfl
theorem c8_15_t : cfY 200 8 [vN 15, .b true] .e n0 kEnd = some (.b true) := by kernel_rfl
theorem c8_15_f : cfY 200 8 [vN 15, .b false] .e n0 kEnd = some (.b true) := by kernel_rfl
theorem c8_16_t : cfY 200 8 [vN 16, .b true] .e n0 kEnd = some (.b true) := by kernel_rfl
theorem c8_16_f : cfY 200 8 [vN 16, .b false] .e n0 kEnd = some (.b true) := by kernel_rfl
theorem c8_17_t : cfY 200 8 [vN 17, .b true] .e n0 kEnd = some (.b true) := by kernel_rfl
theorem c8_17_f : cfY 200 8 [vN 17, .b false] .e n0 kEnd = some (.b true) := by kernel_rfl
theorem c8_18_t : cfY 200 8 [vN 18, .b true] .e n0 kEnd = some (.b true) := by kernel_rfl
theorem c8_18_f : cfY 200 8 [vN 18, .b false] .e n0 kEnd = some (.b true) := by kernel_rfl
theorem c8_19_t : cfY 200 8 [vN 19, .b true] .e n0 kEnd = some (.b true) := by kernel_rfl
theorem c8_19_f : cfY 200 8 [vN 19, .b false] .e n0 kEnd = some (.b true) := by kernel_rfl
theorem c8_20_t : cfY 200 8 [vN 20, .b true] .e n0 kEnd = some (.b true) := by kernel_rfl
theorem c8_20_f : cfY 200 8 [vN 20, .b false] .e n0 kEnd = some (.b true) := by kernel_rfl
theorem c8_21_t : cfY 200 8 [vN 21, .b true] .e n0 kEnd = some (.b true) := by kernel_rfl
theorem c8_21_f : cfY 200 8 [vN 21, .b false] .e n0 kEnd = some (.b true) := by kernel_rfl
theorem c8_22_t : cfY 200 8 [vN 22, .b true] .e n0 kEnd = some (.b true) := by kernel_rfl
theorem c8_22_f : cfY 200 8 [vN 22, .b false] .e n0 kEnd = some (.b true) := by kernel_rfl
theorem c8_23_t : cfY 200 8 [vN 23, .b true] .e n0 kEnd = some (.b true) := by kernel_rfl
theorem c8_23_f : cfY 200 8 [vN 23, .b false] .e n0 kEnd = some (.b true) := by kernel_rfl
theorem c8_24_t : cfY 200 8 [vN 24, .b true] .e n0 kEnd = some (.b true) := by kernel_rfl
theorem c8_24_f : cfY 200 8 [vN 24, .b false] .e n0 kEnd = some (.b true) := by kernel_rfl
end Go.Proofs.Nw.X
end
section
/- printed by xl.py: cases of function 8, 3. -/
open Go Go.RowKit Go.Proofs
set_option maxRecDepth 100000
namespace Go.Proofs.Nw.X
open Go.Proofs.Nw.K
theorem c8_25_t : cfY 200 8 [vN 25, .b true] .e n0 kEnd = some (.b true) := by kernel_rfl
theorem c8_25_f : cfY 200 8 [vN 25, .b false] .e n0 kEnd = some (.b true) := by kernel_rfl
theorem c8_26_t : cfY 200 8 [vN 26, .b true] .e n0 kEnd = some (.b true) := by kernel_rfl
theorem c8_26_f : cfY 200 8 [vN 26, .b false] .e n0 kEnd = some (.b true) := by kernel_rfl
theorem c8_27_t : cfY 200 8 [vN 27, .b true] .e n0 kEnd = some (.b true) := by kernel_rfl
theorem c8_27_f : cfY 200 8 [vN 27, .b false] .e n0 kEnd = some (.b true) := by kernel_rfl
theorem c8_28_t : cfY 200 8 [vN 28, .b true] .e n0 kEnd = some (.b true) := by kernel_rfl
theorem c8_28_f : cfY 200 8 [vN 28, .b false] .e n0 kEnd = some (.b true) := by kernel_rfl
theorem c8_29_t : cfY 200 8 [vN 29, .b true] .e n0 kEnd = some (.b true) := by kernel_rfl
theorem c8_29_f : cfY 200 8 [vN 29, .b false] .e n0 kEnd = some (.b true) := by kernel_rfl
theorem c8_30_t : cfY 200 8 [vN 30, .b true] .e n0 kEnd = some (.b true) := by kernel_rfl
theorem c8_30_f : cfY 200 8 [vN 30, .b false] .e n0 kEnd = some (.b true) := by kernel_rfl
theorem c8_31_t : cfY 200 8 [vN 31, .b true] .e n0 kEnd = some (.b true) := by kernel_rfl
theorem c8_31_f : cfY 200 8 [vN 31, .b false] .e n0 kEnd = some (.b true) := by kernel_rfl
theorem c8_32_t : cfY 200 8 [vN 32, .b true] .e n0 kEnd = some (.b true) := by kernel_rfl
theorem c8_32_f : cfY 200 8 [vN 32, .b false] .e n0 kEnd = some (.b true) := by kernel_rfl
theorem c8_33_t : cfY 200 8 [vN 33, .b true] .e n0 kEnd = some (.b true) := by kernel_rfl
theorem c8_33_f : cfY 200 8 [vN 33, .b false] .e n0 kEnd = some (.b true) := by kernel_rfl
theorem c8_34_t : cfY 200 8 [vN 34, .b true] .e n0 kEnd = some (.b true) := by kernel_rfl
theorem c8_34_f : cfY 200 8 [vN 34, .b false] .e n0 kEnd = some (.b true) := by kernel_rfl
theorem c8_35_t : cfY 200 8 [vN 35, .b true] .e n0 kEnd = some (.b true) := by kernel_rfl
theorem c8_35_f : cfY 200 8 [vN 35, .b false] .e n0 kEnd = some (.b true) := by kernel_rfl
theorem c8_36_t : cfY 200 8 [vN 36, .b true] .e n0 kEnd = some (.b true) := by kernel_rfl
theorem c8_36_f : cfY 200 8 [vN 36, .b false] .e n0 kEnd = some (.b true) := by kernel_rfl
theorem c8_37_t : cfY 200 8 [vN 37, .b true] .e n0 kEnd = some (.b true) := by kernel_rfl
end Go.Proofs.Nw.X
end
