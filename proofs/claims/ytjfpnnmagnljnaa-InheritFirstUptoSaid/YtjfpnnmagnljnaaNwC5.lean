import Derived.Test.YtjfpnnmagnljnaaNwC4
open Go Go.RowKit Go.Proofs
set_option linter.unusedVariables false
set_option linter.unusedSimpArgs false
namespace Go.Proofs.Nw.K

def dep0 : Dep := ⟨⟨#[103]⟩, ⟨#[97]⟩, ⟨#[49]⟩, emp, emp, sCompile, false, []⟩
def res0 : Resolved := ⟨zCoord, [⟨-1, 0, dep0, 1⟩]⟩
theorem of0 : ofOf 2 res0.nodes = [dep0] := by kernel_rfl
theorem lines0 : (linesOf [dep0]).toList = (⟨#[103, 58, 97, 58, 106, 97, 114, 58, 49, 58, 99, 111, 109, 112, 105, 108, 101, 10]⟩ : Str).toList := by decide +kernel

theorem awake_impl : Impl Try.prog 12 [] [.one (dbool true)] := by
  refine impl_vc tabOk Try.func12 rfl rfl (by exact Nat.le_of_ble_eq_true rfl) (vc_sound tabOk (by kernel_rfl) ?_)
  refine And.intro rfl (And.intro (Nat.le_of_ble_eq_true rfl) ?_)
  refine And.intro rfl ?_
  refine And.intro rfl (And.intro (by decide) (And.intro (by decide) (And.intro rfl (Or.inl ?_))))
  have hof := Of_impl res0 2 (by decide) (by intro n hn; simp [res0] at hn; subst hn; simp [dep0])
  rw [if_pos (show goodKind 2 = true by decide), if_pos (show goodKind 2 = true by decide), of0] at hof
  refine And.intro rfl (Exists.intro _ (Exists.intro _ (And.intro hof (And.intro ?_ ?_))))
  · refine And.intro (DLe.agg ?_) (And.intro (DLe.refl _) trivial)
    refine And.intro (DLe.refl _) (And.intro (DLe.refl _) (And.intro (DLe.refl _) (And.intro (DLe.tlr _ ?_) trivial)))
    refine And.intro ?_ trivial
    refine ⟨DLe.refl _, DLe.refl _, DLe.refl _, DLe.refl _, DLe.refl _, DLe.refl _, DLe.refl _, DLe.refl _, DLe.refl _, DLe.nils _, DLe.refl _, trivial⟩
  have lt : ∀ {a b : Nat}, Nat.ble (a + 1) b = true → a < b := fun h => Nat.le_of_ble_eq_true h
  refine And.intro rfl ?_
  refine And.intro (lt rfl) (And.intro (fun _ => ?_) (fun h => absurd (by rfl) h))
  refine And.intro (lt rfl) (And.intro (fun _ => ?_) (fun h => absurd (by rfl) h))
  refine And.intro (lt rfl) (And.intro (fun _ => And.intro rfl ?_) (fun h => absurd (by rfl) h))
  refine And.intro (fun _ => ?_) (fun h => by cases h)
  refine And.intro (lt rfl) (And.intro (fun _ => ?_) (fun h => absurd (by rfl) h))
  refine And.intro (lt rfl) (And.intro (fun _ => ?_) (fun h => absurd (by rfl) h))
  refine And.intro rfl (Exists.intro _ (Exists.intro _ (And.intro (Lines_impl [dep0] (by decide)) (And.intro (AsLe.refl _) ?_))))
  refine And.intro (lt rfl) (And.intro (fun _ => ?_) (fun h => absurd (by rfl) h))
  refine And.intro (fun _ => ?_) (fun h => by cases h)
  refine And.intro (DLe.of_eq ?_) trivial
  show DV.one (.sc (.bool ((linesOf [dep0]).toList == _))) = _
  rw [lines0]
  simp
end Go.Proofs.Nw.K
