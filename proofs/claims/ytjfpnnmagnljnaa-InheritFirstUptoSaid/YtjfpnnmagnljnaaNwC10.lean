import Derived.Test.YtjfpnnmagnljnaaNwC9
import Derived.Test.YtjfpnnmagnljnaaNwK22
open Go Go.RowKit Go.Proofs
set_option linter.unusedVariables false
set_option linter.unusedSimpArgs false
namespace Go.Proofs.Nw.K

theorem keyOf_size (d : Dep) : (keyOf d).size ≤ d.wt := by
  have := tyOf_size d
  have h1 : colon.size = 1 := rfl
  simp only [keyOf, app_size, Dep.wt]; omega

theorem coordKey_impl (d : Dep) (h : d.wt ≤ 4194304) : Impl Try.prog 52 [.agg (encDep d)] [.one (dstr (keyOf d))] := by
  have ht := tyOf_size d
  have hw : d.group.size + d.name.size + d.version.size + d.type.size + d.classifier.size + d.scope.size + 9 ≤ 4194304 := by unfold Dep.wt at h; omega
  have h1 : colon.size = 1 := rfl
  refine impl_vc tabOk Try.func52 rfl rfl (by exact Nat.le_of_ble_eq_true rfl) (vc_sound tabOk (by kernel_rfl) ?_)
  repeat refine And.intro rfl ?_
  refine And.intro (by show d.group.size + colon.size ≤ _; omega) ?_
  repeat refine And.intro rfl ?_
  refine And.intro (by show (d.group ++ colon).size + d.name.size ≤ _; rw [app_size]; omega) (And.intro rfl ?_)
  refine And.intro (by show (d.group ++ colon ++ d.name).size + colon.size ≤ _; simp only [app_size]; omega) ?_
  repeat refine And.intro rfl ?_
  refine And.intro (by decide) (And.intro (by decide) (And.intro rfl (Or.inl (And.intro rfl ?_))))
  refine And.intro rfl (Exists.intro _ (Exists.intro _ (And.intro (Or_impl [d.type, jar] (Nat.le_of_ble_eq_true rfl)) (And.intro (And.intro (DLe.tl emp rfl) trivial) (And.intro rfl ?_)))))
  rw [tyOf_or]
  refine And.intro (by show (d.group ++ colon ++ d.name ++ colon).size + (tyOf d).size ≤ _; simp only [app_size]; omega) ?_
  repeat refine And.intro rfl ?_
  refine And.intro (by show (d.group ++ colon ++ d.name ++ colon ++ tyOf d).size + colon.size ≤ _; simp only [app_size]; omega) ?_
  repeat refine And.intro rfl ?_
  refine And.intro (by show (d.group ++ colon ++ d.name ++ colon ++ tyOf d ++ colon).size + d.classifier.size ≤ _; simp only [app_size]; omega) ?_
  repeat refine And.intro rfl ?_
  exact And.intro (DLe.refl _) trivial

theorem refKey05_impl (d : Dep) (h : d.wt ≤ 4194304) : Impl Try.prog 35 [.agg (encDep d)] [.one (dstr (keyOf d))] := by
  have ht := tyOf_size d
  have hw : d.group.size + d.name.size + d.version.size + d.type.size + d.classifier.size + d.scope.size + 9 ≤ 4194304 := by unfold Dep.wt at h; omega
  have h1 : colon.size = 1 := rfl
  refine impl_vc tabOk Try.func35 rfl rfl (by exact Nat.le_of_ble_eq_true rfl) (vc_sound tabOk (by kernel_rfl) ?_)
  repeat refine And.intro rfl ?_
  refine And.intro (by show d.group.size + colon.size ≤ _; omega) ?_
  repeat refine And.intro rfl ?_
  refine And.intro (by show (d.group ++ colon).size + d.name.size ≤ _; rw [app_size]; omega) (And.intro rfl ?_)
  refine And.intro (by show (d.group ++ colon ++ d.name).size + colon.size ≤ _; simp only [app_size]; omega) ?_
  repeat refine And.intro rfl ?_
  refine Exists.intro _ (Exists.intro _ (And.intro (Type_impl d) (And.intro (AsLe.refl _) (And.intro rfl ?_))))
  refine And.intro (by show (d.group ++ colon ++ d.name ++ colon).size + (tyOf d).size ≤ _; simp only [app_size]; omega) ?_
  repeat refine And.intro rfl ?_
  refine And.intro (by show (d.group ++ colon ++ d.name ++ colon ++ tyOf d).size + colon.size ≤ _; simp only [app_size]; omega) ?_
  repeat refine And.intro rfl ?_
  refine And.intro (by show (d.group ++ colon ++ d.name ++ colon ++ tyOf d ++ colon).size + d.classifier.size ≤ _; simp only [app_size]; omega) ?_
  repeat refine And.intro rfl ?_
  exact And.intro (DLe.refl _) trivial

def sImport : Str := ⟨#[105, 109, 112, 111, 114, 116]⟩
def cImport : Str := ⟨#[58, 105, 109, 112, 111, 114, 116]⟩
def ikeyOf (d : Dep) : Str := if d.scope.toList == sImport.toList then keyOf d ++ cImport else keyOf d
theorem ikeyOf_size (d : Dep) : (ikeyOf d).size ≤ d.wt + 7 := by
  have := keyOf_size d
  have h1 : cImport.size = 7 := rfl
  unfold ikeyOf; split
  · rw [app_size]; omega
  · omega

theorem Key_impl (d : Dep) (h : d.wt ≤ 4194304) : Impl Try.prog 28 [.agg (encDep d)] [.one (dstr (ikeyOf d))] := by
  have hk := keyOf_size d
  have h1 : cImport.size = 7 := rfl
  refine impl_vc tabOk Try.func28 rfl rfl (by exact Nat.le_of_ble_eq_true rfl) (vc_sound tabOk (by kernel_rfl) ?_)
  refine And.intro rfl ?_
  refine And.intro rfl (Exists.intro _ (Exists.intro _ (And.intro (coordKey_impl d h) (And.intro (AsLe.refl _) ?_))))
  refine And.intro (fun hb => ?_) (fun hb => ?_)
  · have hb : (d.scope.toList == sImport.toList) = true := hb
    refine And.intro (by show (keyOf d).size + cImport.size ≤ _; omega) ?_
    refine And.intro (DLe.of_eq ?_) trivial
    simp only [ikeyOf, if_pos hb]; rfl
  · have hb : (d.scope.toList == sImport.toList) = false := hb
    refine And.intro (DLe.of_eq ?_) trivial
    simp only [ikeyOf, if_neg (show ¬ (d.scope.toList == sImport.toList) = true by rw [hb]; decide)]

theorem refKey_impl (d : Dep) (h : d.wt ≤ 4194304) : Impl Try.prog 29 [.agg (encDep d)] [.one (dstr (ikeyOf d))] := by
  have hk := keyOf_size d
  have h1 : cImport.size = 7 := rfl
  refine impl_vc tabOk Try.func29 rfl rfl (by exact Nat.le_of_ble_eq_true rfl) (vc_sound tabOk (by kernel_rfl) ?_)
  refine And.intro (fun hb => ?_) (fun hb => ?_)
  · have hb : (d.scope.toList == sImport.toList) = true := hb
    refine And.intro rfl ?_
    refine And.intro rfl (Exists.intro _ (Exists.intro _ (And.intro (refKey05_impl d h) (And.intro (AsLe.refl _) ?_))))
    refine And.intro (by show (keyOf d).size + cImport.size ≤ _; omega) ?_
    refine And.intro (DLe.of_eq ?_) trivial
    simp only [ikeyOf, if_pos hb]; rfl
  · have hb : (d.scope.toList == sImport.toList) = false := hb
    refine And.intro rfl ?_
    refine And.intro rfl (Exists.intro _ (Exists.intro _ (And.intro (refKey05_impl d h) (And.intro (AsLe.refl _) ?_))))
    refine And.intro (DLe.of_eq ?_) trivial
    simp only [ikeyOf, if_neg (show ¬ (d.scope.toList == sImport.toList) = true by rw [hb]; decide)]
end Go.Proofs.Nw.K
