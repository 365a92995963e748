/- B4: what slices.SortFunc is handed by inherit.props, walked. -/
import Derived.Test.YtjfpnnmagnljnaaNwSort1
import Derived.Test.YtjfpnnmagnljnaaNwS1
import Derived.Shelf.Strings.Builder1
import Derived.Sort.Grow
set_option linter.unusedVariables false
set_option linter.unusedSimpArgs false
namespace Go.Proofs.Nw.K
open Go Go.Proofs Go.Shelf Go.Lib Go.Sort Go.RowKit

def strCmp (a b : ByteArray) : Int := if Op.bytesLess a.toList b.toList then -1 else if Op.bytesLess a.toList b.toList || a.toList == b.toList then 0 else 1

theorem isNaN90 (x : ByteArray) (W : World) : Calls Try.prog 90 #[.string x] W fun e w' => e = .returned (.bool false) ∧ w' = W := by
  go_enter Try.func90, Try.ntmps90
  go_wp2
  go_ret
  exact ⟨by simp, rfl⟩

set_option maxHeartbeats 1000000 in
theorem Compare75 (x y : ByteArray) (W : World) : Calls Try.prog 75 #[.string x, .string y] W fun e w' => e = .returned (.int .i64 (strCmp x y)) ∧ w' = W := by
  have hg : ∀ W, (binOp BinOp.gtr 9 (.string x) (.string y)).run Try.prog W = .ok (.bool (!(Op.bytesLess x.toList y.toList || x.toList == y.toList))) W := fun W => by
    simp [binOp, Op.stringOp]
  go_enter Try.func75, Try.ntmps75
  go_wp2_with (go_at_call 90; refine (isNaN90 _ _).mono ?_; rintro e w' ⟨rfl, hw⟩; rw [hw])
  all_goals (refine ⟨rfl, _, results_tmp (t := 4) rfl _ _ _, ?_, rfl⟩)
  all_goals simp [strCmp, *]
  all_goals simp_all

set_option maxHeartbeats 1000000 in
theorem closure74 (a b c d : ByteArray) (W : World) : Calls Try.prog 74 #[.agg #[.string a, .string b], .agg #[.string c, .string d]] W fun e w' => e = .returned (.int .i64 (strCmp a c)) ∧ ∃ q os', w' = grow (W.drewN q) os' := by
  have hcon := fun W' => Compare75 a c W'
  generalize strCmp a c = r at hcon ⊢
  go_enter Try.func74, Try.ntmps74
  go_wp2_with (go_at_call 75; refine (hcon _).mono ?_; rintro e w' ⟨rfl, rfl⟩)
  refine ⟨rfl, _, results_tmp (t := 4) rfl _ _ _, rfl, 0, #[.cells #[.string a, .string b] 66, .cells #[.string c, .string d] 66], ?_⟩
  rw [alloc_eq_grow, alloc_eq_grow, grow_grow]; rfl
end Go.Proofs.Nw.K
