import Derived.Test.YtjfpnnmagnljnaaNwC8
import Derived.Test.YtjfpnnmagnljnaaNwK21
open Go Go.RowKit Go.Proofs
set_option linter.unusedVariables false
set_option linter.unusedSimpArgs false
namespace Go.Proofs.Nw.K

def digB (v : Int) : Str := ⟨([IntKind.u8.wrap (48 + v)].map fun n => UInt8.ofNat n.toNat).toArray⟩

theorem Digits_one (v : Int) (h0 : 0 ≤ v) (h1 : v < 10) : Impl Try.prog 20 [.one (dint v)] [.one (dstr (digB v))] := by
  refine impl_vc tabOk Try.func20 rfl rfl (by exact Nat.le_of_ble_eq_true rfl) (vc_sound tabOk (by kernel_rfl) ?_)
  refine And.intro rfl (And.intro (fun h => ?_) (fun h => ?_))
  · refine And.intro rfl (And.intro ⟨by omega, by omega⟩ ?_)
    refine And.intro rfl ?_
    refine And.intro rfl (And.intro (by decide) (And.intro (by decide) (And.intro rfl (Or.inl ?_))))
    refine And.intro rfl (And.intro rfl (Exists.intro [IntKind.u8.wrap (48 + v)] (And.intro rfl ?_)))
    exact And.intro (DLe.refl _) trivial
  · have h : decide (v < 10) = false := h
    exact absurd (of_decide_eq_false h) (by omega)

def digitsOf (v : Int) : Str := if v < 10 then digB v else digB (v.tdiv 10) ++ digB (v.tmod 10)
theorem digitsOf_size (v : Int) : (digitsOf v).size ≤ 2 := by
  unfold digitsOf
  split
  · exact Nat.le_succ 1
  · rw [ByteArray.size_append]; exact Nat.le_refl 2

theorem Digits_impl (v : Int) (h0 : 0 ≤ v) (h1 : v < 100) : Impl Try.prog 20 [.one (dint v)] [.one (dstr (digitsOf v))] := by
  by_cases hv : v < 10
  · have := Digits_one v h0 hv
    unfold digitsOf; rw [if_pos hv]; exact this
  unfold digitsOf; rw [if_neg hv]
  have hq : 0 ≤ v.tdiv 10 ∧ v.tdiv 10 < 10 := by
    rw [Int.tdiv_eq_ediv_of_nonneg h0]; omega
  have hr : 0 ≤ v.tmod 10 ∧ v.tmod 10 < 10 := by
    rw [Int.tmod_eq_emod_of_nonneg h0]; omega
  refine impl_vc tabOk Try.func20 rfl rfl (by exact Nat.le_of_ble_eq_true rfl) (vc_sound tabOk (by kernel_rfl) ?_)
  refine And.intro rfl (And.intro (fun h => ?_) (fun h => ?_))
  · have h : decide (v < 10) = true := h
    exact absurd (of_decide_eq_true h) hv
  · refine And.intro rfl ?_
    refine And.intro rfl (And.intro (by decide) (And.intro ⟨by omega, by omega⟩ (And.intro rfl ?_)))
    refine And.intro rfl (Exists.intro _ (Exists.intro _ (And.intro (Digits_one (v.tdiv 10) hq.1 hq.2) (And.intro (AsLe.refl _) (And.intro rfl ?_)))))
    refine And.intro rfl ?_
    refine And.intro rfl (And.intro (by decide) (And.intro rfl ?_))
    refine And.intro rfl (And.intro ⟨by omega, by omega⟩ (And.intro rfl ?_))
    refine And.intro rfl (And.intro rfl ?_)
    refine And.intro rfl (And.intro (by decide) (And.intro (by decide) (And.intro rfl (Or.inl (And.intro rfl ?_)))))
    refine And.intro rfl (And.intro rfl (Exists.intro [IntKind.u8.wrap (48 + v.tmod 10)] (And.intro rfl (And.intro rfl ?_))))
    refine And.intro (Nat.le_of_ble_eq_true rfl) (And.intro rfl ?_)
    refine And.intro rfl ?_
    exact And.intro (DLe.refl _) trivial

/-- a number's rest by four, as the law takes it -/
def m4 (n : Int) : Int := IntKind.i64.wrap ((IntKind.u64.wrap n).tmod 4)
theorem m4_ok (n : Int) : 0 ≤ m4 n ∧ m4 n < 4 := by
  have hu : 0 ≤ IntKind.u64.wrap n := by
    simp only [IntKind.wrap, IntKind.signed, IntKind.bits]
    simp
    omega
  have h1 : 0 ≤ (IntKind.u64.wrap n).tmod 4 ∧ (IntKind.u64.wrap n).tmod 4 < 4 := by
    rw [Int.tmod_eq_emod_of_nonneg hu]; omega
  unfold m4
  generalize (IntKind.u64.wrap n).tmod 4 = x at h1
  have : x = 0 ∨ x = 1 ∨ x = 2 ∨ x = 3 := by omega
  rcases this with rfl | rfl | rfl | rfl <;> decide
end Go.Proofs.Nw.K
