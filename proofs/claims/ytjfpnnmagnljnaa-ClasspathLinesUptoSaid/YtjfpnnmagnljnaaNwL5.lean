/- L5: the law ClasspathLines. -/
import Derived.Test.YtjfpnnmagnljnaaNwC5
import Derived.Test.YtjfpnnmagnljnaaNwO1
open Go Go.RowKit Go.Proofs
set_option linter.unusedVariables false
set_option linter.unusedSimpArgs false
namespace Go.Proofs.Nw.K

theorem ClasspathLines_impl (a b : List Dep) (d : Dep) (_ : a.length ≤ maxLen ∧ ∀ s ∈ a, True) (_ : b.length ≤ maxLen ∧ ∀ s ∈ b, True) (_ : True) (h : (a.map Dep.wt).sum + 1 + ((b.map Dep.wt).sum + 1) + d.wt ≤ 1048576) :
    Impl Try.prog 5 [.one (dDeps a), .one (dDeps b), .agg (encDep d)] [.one (.sc (.bool true))] := by
  have lt : ∀ {a b : Nat}, Nat.ble (a + 1) b = true → a < b := fun h => Nat.le_of_ble_eq_true h
  have ha := len_le_wt a
  have hb := len_le_wt b
  refine impl_vc tabOk Try.func5 rfl rfl (by exact Nat.le_of_ble_eq_true rfl) ?_
  refine WP_seq (vc_sound tabOk (by kernel_rfl) ?_)
  refine WP_seq (vc_sound tabOk (by kernel_rfl) ?_)
  refine And.intro rfl ?_
  by_cases hga : decide ((a.length : Int) > 30) = false
  · refine And.intro (lt rfl) (And.intro (fun _ => ?_) (fun h => absurd hga h))
    refine And.intro (lt rfl) (And.intro (fun _ => ?_) (fun h => absurd hga h))
    refine And.intro (lt rfl) (And.intro (fun _ => And.intro rfl ?_) (fun h => absurd hga h))
    refine And.intro (fun h => absurd (hga.symm.trans h) (by decide)) (fun _ => ?_)
    refine And.intro (fun hgb => ?_) (fun hgb => ?_)
    · refine And.intro rfl (Exists.intro _ (Exists.intro _ (And.intro awake_impl (And.intro (AsLe.refl _) ?_))))
      exact And.intro (DLe.refl _) trivial
    have hla : a.length ≤ 30 := by have := of_decide_eq_false hga; omega
    have hlb : b.length ≤ 30 := by
      have hgb : decide ((b.length : Int) > 30) = false := hgb
      have := of_decide_eq_false hgb; omega
    refine WP_sub (Sub.ofL [(0, .d (dDeps a)), (1, .d (dDeps b)), (5, .ptr 0 0)] [.box 35 ((encDep d).map AV.d)] (Nat.zero_le _) ⟨rfl, rfl, rfl, rfl, rfl, rfl, trivial⟩ rfl rfl) ?_
    refine WP_seq (vc_sound tabOk (by kernel_rfl) ?_)
    refine And.intro rfl (And.intro rfl (And.intro ?_ (And.intro ?_ ?_)))
    · simp only [List.length_map]; omega
    · simp only [List.length_map, maxLen]; omega
    refine And.intro rfl (And.intro ⟨rfl, rfl, rfl, rfl⟩ (And.intro rfl (And.intro ?_ (And.intro ?_ ?_))))
    · simp only [List.length_map]; omega
    · simp only [List.length_map, maxLen]; omega
    refine WP_sub (Sub.ofL [(0, .d (dDeps a)), (1, .d (dDeps b)), (5, .ptr 0 0), (7, .h 1 1 0 (a ++ b).length)] [.box 35 ((encDep d).map AV.d), .row 1 35 8 ((a ++ b).map encDep)] (Nat.zero_le _) ⟨rfl, rfl, rfl, rfl, rfl, rfl, ?_, rfl, trivial⟩ ?_ rfl) ?_
    · show AV.h 1 1 0 ((a.map encDep).length + (b.map encDep).length) = _
      simp
    · show [AO.box 35 ((encDep d).map AV.d), AO.row 1 35 8 ((a.map encDep).take (a.map encDep).length ++ b.map encDep)] = _
      rw [List.take_length, List.map_append]
    refine WP_seq (vc_sound tabOk (by kernel_rfl) ?_)
    refine And.intro rfl (And.intro rfl (And.intro (Nat.le_of_ble_eq_true rfl) ?_))
    refine WP_seq (vc_sound tabOk (by kernel_rfl) ?_)
    refine And.intro rfl (And.intro (Nat.le_of_ble_eq_true rfl) ?_)
    refine WP_sub (Sub.ofL [(0, .d (dDeps a)), (1, .d (dDeps b)), (5, .ptr 0 0), (7, .h 1 1 0 (a ++ b).length), (8, .ptr 2 0)] [.box 35 ((encDep d).map AV.d), .row 1 35 8 ((a ++ b).map encDep), .box 35 ((encDep { d with type := emp }).map AV.d)] (Nat.zero_le _) ⟨rfl, rfl, rfl, rfl, rfl, rfl, rfl, rfl, rfl, rfl, trivial⟩ rfl rfl) ?_
    refine WP_seq (vc_sound tabOk (by kernel_rfl) ?_)
    refine And.intro rfl (And.intro rfl (And.intro (Nat.le_of_ble_eq_true rfl) ?_))
    refine WP_seq (vc_sound tabOk (by kernel_rfl) ?_)
    refine And.intro rfl (And.intro (Nat.le_of_ble_eq_true rfl) ?_)
    refine WP_sub (Sub.ofL [(0, .d (dDeps a)), (1, .d (dDeps b)), (7, .h 1 1 0 (a ++ b).length), (8, .ptr 2 0), (9, .ptr 3 0)] [.box 35 ((encDep d).map AV.d), .row 1 35 8 ((a ++ b).map encDep), .box 35 ((encDep { d with type := emp }).map AV.d), .box 35 ((encDep { d with type := jar }).map AV.d)] (Nat.zero_le _) ⟨rfl, rfl, rfl, rfl, rfl, rfl, rfl, rfl, rfl, rfl, trivial⟩ rfl rfl) ?_
    have hab : ((a ++ b).map Dep.wt).sum ≤ 4194304 := by rw [List.map_append, List.sum_append]; omega
    have hsa := linesOf_size a
    have hsb := linesOf_size b
    have he : ([({ d with type := emp } : Dep)].map Dep.wt).sum ≤ 4194304 := by
      simp only [List.map_cons, List.map_nil, List.sum_cons, List.sum_nil, Dep.wt] at h ⊢
      have : emp.size = 0 := rfl
      omega
    have hj : ([({ d with type := jar } : Dep)].map Dep.wt).sum ≤ 4194304 := by
      simp only [List.map_cons, List.map_nil, List.sum_cons, List.sum_nil, Dep.wt] at h ⊢
      have : jar.size = 3 := rfl
      omega
    refine WP_seq (vc_sound tabOk (by kernel_rfl) ?_)
    refine And.intro rfl (Exists.intro _ (Exists.intro _ (And.intro awake_impl (And.intro (AsLe.refl _) (And.intro rfl ?_)))))
    refine And.intro rfl ?_
    refine And.intro (lt rfl) (And.intro (fun _ => And.intro rfl ?_) (fun h => absurd (by rfl) h))
    refine And.intro (lt rfl) (And.intro (fun _ => ?_) (fun h => absurd (by rfl) h))
    refine And.intro rfl (Or.inr (Or.inr (And.intro ⟨rfl, rfl, (List.length_map _).symm⟩ (Exists.intro _ (Exists.intro _ (And.intro (Lines_impl (a ++ b) hab) (And.intro (And.intro (DLe.tl _ rfl) trivial) (And.intro rfl (And.intro rfl ?_)))))))))
    refine And.intro (lt rfl) (And.intro (fun _ => And.intro rfl ?_) (fun h => absurd (by rfl) h))
    refine And.intro (lt rfl) (And.intro (fun _ => ?_) (fun h => absurd (by rfl) h))
    refine And.intro rfl (Exists.intro _ (Exists.intro _ (And.intro (Lines_impl a (by omega)) (And.intro (AsLe.refl _) (And.intro rfl ?_)))))
    refine And.intro (lt rfl) (And.intro (fun _ => And.intro rfl ?_) (fun h => absurd (by rfl) h))
    refine And.intro (lt rfl) (And.intro (fun _ => ?_) (fun h => absurd (by rfl) h))
    refine And.intro rfl (Exists.intro _ (Exists.intro _ (And.intro (Lines_impl b (by omega)) (And.intro (AsLe.refl _) (And.intro rfl ?_)))))
    refine And.intro (lt rfl) (And.intro (fun _ => And.intro ?_ (And.intro rfl ?_)) (fun h => absurd (by rfl) h))
    · show (linesOf a).size + (linesOf b).size ≤ _; omega
    refine And.intro (lt rfl) (And.intro (fun _ => And.intro rfl ?_) (fun h => absurd (by rfl) h))
    have hq : ((linesOf (a ++ b)).toList == (linesOf a ++ linesOf b).toList) = true := by rw [linesOf_append]; simp
    refine And.intro (fun _ => And.intro rfl ?_) (fun h => by cases h)
    refine And.intro rfl ?_
    refine And.intro (lt rfl) (And.intro (fun _ => And.intro rfl (And.intro rfl ?_)) (fun h => absurd hq h))
    refine And.intro (lt rfl) (And.intro (fun _ => ?_) (fun h => absurd hq h))
    refine And.intro rfl (And.intro (by decide) (And.intro (by decide) (And.intro rfl (Or.inl (And.intro rfl ?_)))))
    refine And.intro (lt rfl) (And.intro (fun _ => ?_) (fun h => absurd hq h))
    refine And.intro rfl (Exists.intro _ (Exists.intro _ (And.intro (Lines_impl [{ d with type := emp }] he) (And.intro (And.intro (DLe.tl _ rfl) trivial) (And.intro rfl ?_)))))
    refine And.intro (lt rfl) (And.intro (fun _ => And.intro rfl (And.intro rfl ?_)) (fun h => absurd hq h))
    refine And.intro (lt rfl) (And.intro (fun _ => ?_) (fun h => absurd hq h))
    refine And.intro rfl (And.intro (by decide) (And.intro (by decide) (And.intro rfl (Or.inl (And.intro rfl ?_)))))
    refine And.intro (lt rfl) (And.intro (fun _ => ?_) (fun h => absurd hq h))
    refine And.intro rfl (Exists.intro _ (Exists.intro _ (And.intro (Lines_impl [{ d with type := jar }] hj) (And.intro (And.intro (DLe.tl _ rfl) trivial) (And.intro rfl ?_)))))
    refine And.intro (lt rfl) (And.intro (fun _ => And.intro rfl ?_) (fun h => absurd hq h))
    have ht : tyOf { d with type := emp } = tyOf { d with type := jar } := by
      simp only [tyOf]
      rw [if_pos (by simp), if_neg (by rw [str_beq]; decide)]
    have hl : lineOf { d with type := emp } = lineOf { d with type := jar } := by simp only [lineOf, ht]
    have hr : ((linesOf [{ d with type := emp }]).toList == (linesOf [{ d with type := jar }]).toList) = true := by simp only [linesOf, hl]; simp
    refine And.intro (fun _ => And.intro rfl ?_) (fun h => absurd (hq.symm.trans h) (by decide))
    refine And.intro rfl ?_
    refine And.intro (lt rfl) (And.intro (fun _ => ?_) (fun h => absurd hr h))
    refine And.intro rfl (Exists.intro _ (Exists.intro _ (And.intro (Lines_impl [] (by decide)) (And.intro (And.intro (DLe.nils _) trivial) (And.intro rfl ?_)))))
    refine And.intro (lt rfl) (And.intro (fun _ => And.intro rfl ?_) (fun h => absurd hr h))
    refine And.intro (fun _ => And.intro rfl ?_) (fun h => absurd (hr.symm.trans h) (by decide))
    refine And.intro rfl ?_
    refine WP_ret ?_
    refine And.intro (DLe.of_eq ?_) trivial
    show DV.one (.sc (.bool ((linesOf []).toList == (⟨#[]⟩ : Str).toList))) = _
    simp [linesOf, emp]
  · have hga : decide ((a.length : Int) > 30) = true := by simpa using hga
    refine And.intro (lt rfl) (And.intro (fun h => absurd (hga.symm.trans h) (by decide)) (fun _ => ?_))
    refine And.intro (lt rfl) (And.intro (fun h => absurd (hga.symm.trans h) (by decide)) (fun _ => ?_))
    refine And.intro (lt rfl) (And.intro (fun h => absurd (hga.symm.trans h) (by decide)) (fun _ => ?_))
    refine And.intro (fun _ => ?_) (fun h => absurd (hga.symm.trans h) (by decide))
    refine And.intro (fun hgb => ?_) (fun hgb => by cases hgb)
    refine And.intro rfl (Exists.intro _ (Exists.intro _ (And.intro awake_impl (And.intro (AsLe.refl _) ?_))))
    exact And.intro (DLe.refl _) trivial
end Go.Proofs.Nw.K
