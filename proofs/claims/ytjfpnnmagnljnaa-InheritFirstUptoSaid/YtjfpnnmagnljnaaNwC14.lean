import Derived.Test.YtjfpnnmagnljnaaNwC13
open Go Go.RowKit Go.Proofs
set_option linter.unusedVariables false
set_option linter.unusedSimpArgs false
namespace Go.Proofs.Nw.K

def awC : Coord := ⟨⟨#[103]⟩, emp, ⟨#[49]⟩⟩
def awD : Dep := ⟨emp, ⟨#[98]⟩, emp, emp, emp, emp, false, []⟩
def awP : Pom := ⟨zCoord, emp, ⟨#[97]⟩, emp, emp, [], [], [awD]⟩
def awK : Dep := ⟨emp, emp, emp, emp, emp, sImport, false, []⟩
theorem awMerged : merged awC [awP] = ⟨zCoord, ⟨#[103]⟩, ⟨#[97]⟩, ⟨#[49]⟩, jar, [], [], [awD]⟩ := by
  have h1 : propsOf (propsIn [awP]) = [] := sortP_nil
  have h2 : packTo [awP] 1 = jar := by kernel_rfl
  have h3 : firstOf (depsIn [awP]) = [awD] := by kernel_rfl
  unfold merged
  rw [h1, show ([awP] : List Pom).length = 1 from rfl, h2, h3]
  rfl
theorem awMerge : mergeOf awC [awP] = ⟨zCoord, ⟨#[103]⟩, ⟨#[97]⟩, ⟨#[49]⟩, jar, [], [], [awD]⟩ ∧ mergeErr awC [awP] = 0 := by
  have hb : ¬ mergeBig (merged awC [awP]) = true := by rw [awMerged]; decide
  rw [mergeOf, mergeErr, if_neg hb, if_neg hb]
  exact ⟨awMerged, rfl⟩
theorem awKey : (ikeyOf awK).toList = (⟨#[58, 58, 106, 97, 114, 58, 58, 105, 109, 112, 111, 114, 116]⟩ : Str).toList := by decide +kernel

theorem awake25_impl : Impl Try.prog 25 [] [.one (dbool true)] := by
  have hM := Merge_impl awC [awP] (by decide) (by decide) (by decide) (by simp [managedIn, awP]) (by decide) (by intro d hd; simp [depsIn, awP] at hd; subst hd; decide)
  rw [awMerge.1, awMerge.2] at hM
  refine impl_vc tabOk Try.func25 rfl rfl (by exact Nat.le_of_ble_eq_true rfl) ?_
  refine WP_seq (vc_sound tabOk (by kernel_rfl) ?_)
  refine WP_seq (vc_sound tabOk (by kernel_rfl) ?_)
  refine And.intro rfl (And.intro (by decide) (And.intro (by decide) (And.intro rfl (Or.inl ?_))))
  refine And.intro rfl (And.intro (by decide) (And.intro (by decide) (And.intro rfl (Or.inl ?_))))
  refine And.intro rfl (Exists.intro _ (Exists.intro _ (And.intro hM (And.intro ?_ ?_))))
  · refine And.intro (DLe.refl _) (And.intro (DLe.tlr _ ?_) trivial)
    refine And.intro ?_ trivial
    refine ⟨DLe.refl _, DLe.refl _, DLe.refl _, DLe.refl _, DLe.refl _, DLe.refl _, DLe.refl _, DLe.nils _, DLe.nils _, DLe.tlr _ ?_, trivial⟩
    refine And.intro ?_ trivial
    exact ⟨DLe.refl _, DLe.refl _, DLe.refl _, DLe.refl _, DLe.refl _, DLe.refl _, DLe.refl _, DLe.nils _, trivial⟩
  refine And.intro rfl (And.intro (Nat.le_of_ble_eq_true rfl) ?_)
  refine vc_sound tabOk (by kernel_rfl) ?_
  refine And.intro rfl ?_
  have run3 : True := trivial
  apply And.intro
  · exact ltb rfl
  refine And.intro (fun _ => ?_) (fun h => absurd rfl h)
  apply And.intro
  · exact ltb rfl
  refine And.intro (fun _ => ?_) (fun h => absurd rfl h)
  apply And.intro
  · exact ltb rfl
  refine And.intro (fun _ => ?_) (fun h => absurd rfl h)
  refine And.intro (fun _ => ?_) (fun h => by cases h)
  have q1 : ((⟨#[97]⟩ : Str).toList == (⟨#[97]⟩ : Str).toList) = true := self_str _
  apply And.intro
  · exact ltb rfl
  refine And.intro (fun _ => ?_) (fun h => absurd q1 h)
  apply And.intro
  · exact ltb rfl
  refine And.intro (fun _ => ?_) (fun h => absurd q1 h)
  apply And.intro
  · exact ltb rfl
  refine And.intro (fun _ => ?_) (fun h => absurd q1 h)
  refine And.intro (fun _ => ?_) (fun h => absurd (q1.symm.trans h) (by decide))
  have q2 : (jar.toList == jar.toList) = true := self_str _
  apply And.intro
  · exact ltb rfl
  refine And.intro (fun _ => ?_) (fun h => absurd q2 h)
  apply And.intro
  · exact ltb rfl
  refine And.intro (fun _ => ?_) (fun h => absurd q2 h)
  apply And.intro
  · exact ltb rfl
  refine And.intro (fun _ => ?_) (fun h => absurd q2 h)
  apply And.intro
  · exact ltb rfl
  refine And.intro (fun _ => And.intro rfl ?_) (fun h => absurd q2 h)
  refine And.intro (fun _ => ?_) (fun h => absurd (q2.symm.trans h) (by decide))
  apply And.intro
  · exact ltb rfl
  refine And.intro (fun _ => ?_) (fun h => absurd rfl h)
  apply And.intro
  · exact ltb rfl
  refine And.intro (fun _ => ?_) (fun h => absurd rfl h)
  refine And.intro rfl (Exists.intro _ (Exists.intro _ (And.intro (Key_impl awK (by decide)) (And.intro ?_ ?_))))
  · refine And.intro (DLe.agg ?_) trivial
    exact ⟨DLe.refl _, DLe.refl _, DLe.refl _, DLe.refl _, DLe.refl _, DLe.refl _, DLe.refl _, DLe.nils _, trivial⟩
  apply And.intro
  · exact ltb rfl
  refine And.intro (fun _ => ?_) (fun h => absurd rfl h)
  refine And.intro (fun _ => ?_) (fun h => by cases h)
  refine And.intro (DLe.of_eq ?_) trivial
  show DV.one (.sc (.bool ((ikeyOf awK).toList == _))) = _
  rw [awKey]
  simp
end Go.Proofs.Nw.K
