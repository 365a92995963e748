import Derived.Test.YtjfpnnmagnljnaaNwC5
open Go Go.RowKit Go.Proofs
set_option linter.unusedVariables false
set_option linter.unusedSimpArgs false
namespace Go.Proofs.Nw.K

theorem ltb {a b : Nat} (h : Nat.ble (a + 1) b = true) : a < b := Nat.le_of_ble_eq_true h
theorem self_str (s : Str) : (s.toList == s.toList) = true := by simp
theorem self_bool (s : Bool) : (s == s) = true := by simp

theorem eqStrs_self : ∀ l : List ByteArray, eqStrs l l = true
  | [] => by simp [eqStrs]
  | a :: r => by simp [eqStrs, eqStrs_self r]

theorem PlainFn_self (x : Excluded) : Impl Try.prog 63 [.agg (encExcluded x), .agg (encExcluded x)] [.one (dbool true)] := by
  refine impl_vc tabOk Try.func63 rfl rfl (by exact Nat.le_of_ble_eq_true rfl) (vc_sound tabOk (by kernel_rfl) ?_)
  refine And.intro rfl (And.intro rfl ?_)
  refine And.intro rfl (And.intro rfl ?_)
  refine And.intro (DLe.of_eq ?_) trivial
  show DV.one (.sc (.bool (eqStrs [x.group, x.name] [x.group, x.name]))) = _
  rw [eqStrs_self]

theorem SameExcluded_self (l : List Excluded) (h : l.length ≤ 4194304) : Impl Try.prog 62 [.one (dExcludeds l), .one (dExcludeds l), .one (.sc (.func (.func 63) #[] #[]))] [.one (dbool true)] := by
  refine impl_vc tabOk Try.func62 rfl rfl (by exact Nat.le_of_ble_eq_true rfl) ?_
  refine WP_seq (vc_sound tabOk (by kernel_rfl) ?_)
  refine WP_seq (vc_sound tabOk (by kernel_rfl) ?_)
  refine And.intro rfl (And.intro (fun h => absurd h (by simp)) (fun _ => ?_))
  refine WP_seq (WP_seq (vc_sound tabOk (by kernel_rfl) ?_))
  refine WP_block (WP_loop (α := {i : Nat // i ≤ l.length}) (fun i => ofL [(0, .d (dExcludeds l)), (1, .d (dExcludeds l)), (2, .sc (.func (.func 63) #[] #[])), (7, .int (i.1 : Int))]) (fun _ => []) (fun i => l.length - i.1) ⟨0, by simp⟩ ?_ ?_)
  · exact Sub.ofL _ _ (Nat.le_refl _) ⟨rfl, rfl, rfl, rfl, rfl, rfl, rfl, rfl, trivial⟩ rfl rfl
  rintro ⟨i, hi⟩
  refine vc_sound tabOk (by kernel_rfl) ?_
  refine And.intro rfl (And.intro (fun h => ?_) (fun h => ?_))
  · have hlt : i < l.length := by simpa using h
    have hix : ((i : Int) : Int).toNat < l.length := by simpa using hlt
    repeat refine And.intro rfl ?_
    refine And.intro (Int.natCast_nonneg _) (And.intro (by show (i : Int) < (l.length : Int); omega) (And.intro rfl ?_))
    refine And.intro (Nat.le_of_ble_eq_true rfl) ?_
    repeat refine And.intro rfl ?_
    refine And.intro (Int.natCast_nonneg _) (And.intro (by show (i : Int) < (l.length : Int); omega) (And.intro rfl ?_))
    refine And.intro (Nat.le_of_ble_eq_true rfl) ?_
    repeat refine And.intro rfl ?_
    refine Exists.intro _ (Exists.intro _ (And.intro (PlainFn_self (l.getD ((i : Int)).toNat zExcluded)) (And.intro (AsLe.refl _) (And.intro rfl ?_))))
    refine And.intro rfl ?_
    refine And.intro (fun h => by cases h) (fun _ => ?_)
    refine And.intro rfl (And.intro ⟨by omega, by show (i : Int) + 1 ≤ _; omega⟩ ?_)
    exact ⟨⟨i + 1, hlt⟩, by simp; omega, Sub.ofL _ _ (Nat.zero_le _) ⟨rfl, rfl, rfl, rfl, rfl, rfl, rfl, rfl, trivial⟩ rfl rfl⟩
  · refine vc_sound tabOk (by kernel_rfl) ?_
    exact And.intro (DLe.refl _) trivial

theorem Plain_self (l : List Excluded) (h : l.length ≤ 4194304) : Impl Try.prog 38 [.one (dExcludeds l), .one (dExcludeds l)] [.one (dbool true)] := by
  refine impl_vc tabOk Try.func38 rfl rfl (by exact Nat.le_of_ble_eq_true rfl) (vc_sound tabOk (by kernel_rfl) ?_)
  refine And.intro rfl (Exists.intro _ (Exists.intro _ (And.intro (SameExcluded_self l h) (And.intro (AsLe.refl _) ?_))))
  exact And.intro (DLe.refl _) trivial

theorem Dep_self (d : Dep) (h : d.excluded.length ≤ 4194304) : Impl Try.prog 16 [.agg (encDep d), .agg (encDep d)] [.one (dbool true)] := by
  refine impl_vc tabOk Try.func16 rfl rfl (by exact Nat.le_of_ble_eq_true rfl) ?_
  refine WP_seq (vc_sound tabOk (by kernel_rfl) ?_)
  refine WP_sub (Sub.ofL [(2, .ptr 0 0), (3, .ptr 1 0)] [.box 35 ((encDep d).map AV.d), .box 35 ((encDep d).map AV.d)] (Nat.zero_le _) ⟨rfl, rfl, rfl, rfl, trivial⟩ rfl rfl) ?_
  refine WP_seq (vc_sound tabOk (by kernel_rfl) ?_)
  apply And.intro
  · exact ltb rfl
  refine And.intro (fun _ => ?_) (fun h => absurd (self_str d.group) h)
  apply And.intro
  · exact ltb rfl
  refine And.intro (fun _ => ?_) (fun h => absurd (self_str d.group) h)
  apply And.intro
  · exact ltb rfl
  refine And.intro (fun _ => ?_) (fun h => absurd (self_str d.group) h)
  apply And.intro
  · exact ltb rfl
  refine And.intro (fun _ => ?_) (fun h => absurd (self_str d.group) h)
  apply And.intro
  · exact ltb rfl
  refine And.intro (fun _ => ?_) (fun h => absurd (self_str d.group) h)
  refine And.intro (fun _ => ?_) (fun h => absurd ((self_str d.group).symm.trans h) (by decide))
  apply And.intro
  · exact ltb rfl
  refine And.intro (fun _ => ?_) (fun h => absurd (self_str d.name) h)
  apply And.intro
  · exact ltb rfl
  refine And.intro (fun _ => ?_) (fun h => absurd (self_str d.name) h)
  apply And.intro
  · exact ltb rfl
  refine And.intro (fun _ => ?_) (fun h => absurd (self_str d.name) h)
  apply And.intro
  · exact ltb rfl
  refine And.intro (fun _ => ?_) (fun h => absurd (self_str d.name) h)
  apply And.intro
  · exact ltb rfl
  refine And.intro (fun _ => ?_) (fun h => absurd (self_str d.name) h)
  refine And.intro (fun _ => ?_) (fun h => absurd ((self_str d.name).symm.trans h) (by decide))
  apply And.intro
  · exact ltb rfl
  refine And.intro (fun _ => ?_) (fun h => absurd (self_str d.version) h)
  apply And.intro
  · exact ltb rfl
  refine And.intro (fun _ => ?_) (fun h => absurd (self_str d.version) h)
  apply And.intro
  · exact ltb rfl
  refine And.intro (fun _ => ?_) (fun h => absurd (self_str d.version) h)
  apply And.intro
  · exact ltb rfl
  refine And.intro (fun _ => ?_) (fun h => absurd (self_str d.version) h)
  apply And.intro
  · exact ltb rfl
  refine And.intro (fun _ => ?_) (fun h => absurd (self_str d.version) h)
  refine And.intro (fun _ => ?_) (fun h => absurd ((self_str d.version).symm.trans h) (by decide))
  apply And.intro
  · exact ltb rfl
  refine And.intro (fun _ => ?_) (fun h => absurd (self_str d.type) h)
  apply And.intro
  · exact ltb rfl
  refine And.intro (fun _ => ?_) (fun h => absurd (self_str d.type) h)
  apply And.intro
  · exact ltb rfl
  refine And.intro (fun _ => ?_) (fun h => absurd (self_str d.type) h)
  apply And.intro
  · exact ltb rfl
  refine And.intro (fun _ => ?_) (fun h => absurd (self_str d.type) h)
  apply And.intro
  · exact ltb rfl
  refine And.intro (fun _ => ?_) (fun h => absurd (self_str d.type) h)
  refine And.intro (fun _ => ?_) (fun h => absurd ((self_str d.type).symm.trans h) (by decide))
  apply And.intro
  · exact ltb rfl
  refine And.intro (fun _ => ?_) (fun h => absurd (self_str d.classifier) h)
  apply And.intro
  · exact ltb rfl
  refine And.intro (fun _ => ?_) (fun h => absurd (self_str d.classifier) h)
  apply And.intro
  · exact ltb rfl
  refine And.intro (fun _ => ?_) (fun h => absurd (self_str d.classifier) h)
  apply And.intro
  · exact ltb rfl
  refine And.intro (fun _ => ?_) (fun h => absurd (self_str d.classifier) h)
  apply And.intro
  · exact ltb rfl
  refine And.intro (fun _ => ?_) (fun h => absurd (self_str d.classifier) h)
  refine And.intro (fun _ => ?_) (fun h => absurd ((self_str d.classifier).symm.trans h) (by decide))
  apply And.intro
  · exact ltb rfl
  refine And.intro (fun _ => ?_) (fun h => absurd (self_str d.scope) h)
  apply And.intro
  · exact ltb rfl
  refine And.intro (fun _ => ?_) (fun h => absurd (self_str d.scope) h)
  apply And.intro
  · exact ltb rfl
  refine And.intro (fun _ => ?_) (fun h => absurd (self_str d.scope) h)
  apply And.intro
  · exact ltb rfl
  refine And.intro (fun _ => ?_) (fun h => absurd (self_str d.scope) h)
  apply And.intro
  · exact ltb rfl
  refine And.intro (fun _ => ?_) (fun h => absurd (self_str d.scope) h)
  refine And.intro rfl ?_
  refine And.intro (fun _ => ?_) (fun h => absurd ((self_str d.scope).symm.trans h) (by decide))
  apply And.intro
  · exact ltb rfl
  refine And.intro (fun _ => ?_) (fun h => absurd (self_bool d.optional) h)
  apply And.intro
  · exact ltb rfl
  refine And.intro (fun _ => ?_) (fun h => absurd (self_bool d.optional) h)
  apply And.intro
  · exact ltb rfl
  refine And.intro (fun _ => ?_) (fun h => absurd (self_bool d.optional) h)
  apply And.intro
  · exact ltb rfl
  refine And.intro (fun _ => ?_) (fun h => absurd (self_bool d.optional) h)
  apply And.intro
  · exact ltb rfl
  refine And.intro (fun _ => ?_) (fun h => absurd (self_bool d.optional) h)
  refine And.intro rfl (Exists.intro _ (Exists.intro _ (And.intro (Plain_self d.excluded h) (And.intro (AsLe.refl _) ?_))))
  refine And.intro (fun _ => ?_) (fun h => absurd ((self_bool d.optional).symm.trans h) (by decide))
  refine WP_ret ?_
  exact And.intro (DLe.refl _) trivial

theorem SameDep_self (l : List Dep) (h : l.length ≤ 4194304) (he : ∀ d ∈ l, d.excluded.length ≤ 4194304) : Impl Try.prog 15 [.one (dDeps l), .one (dDeps l), .one (.sc (.func (.func 16) #[] #[]))] [.one (dbool true)] := by
  refine impl_vc tabOk Try.func15 rfl rfl (by exact Nat.le_of_ble_eq_true rfl) ?_
  refine WP_seq (vc_sound tabOk (by kernel_rfl) ?_)
  refine WP_seq (vc_sound tabOk (by kernel_rfl) ?_)
  refine And.intro rfl (And.intro (fun h => absurd h (by simp)) (fun _ => ?_))
  refine WP_seq (WP_seq (vc_sound tabOk (by kernel_rfl) ?_))
  refine WP_block (WP_loop (α := {i : Nat // i ≤ l.length}) (fun i => ofL [(0, .d (dDeps l)), (1, .d (dDeps l)), (2, .sc (.func (.func 16) #[] #[])), (7, .int (i.1 : Int))]) (fun _ => []) (fun i => l.length - i.1) ⟨0, by simp⟩ ?_ ?_)
  · exact Sub.ofL _ _ (Nat.le_refl _) ⟨rfl, rfl, rfl, rfl, rfl, rfl, rfl, rfl, trivial⟩ rfl rfl
  rintro ⟨i, hi⟩
  refine vc_sound tabOk (by kernel_rfl) ?_
  refine And.intro rfl (And.intro (fun h => ?_) (fun h => ?_))
  · have hlt : i < l.length := by simpa using h
    have hix : ((i : Int) : Int).toNat < l.length := by simpa using hlt
    repeat refine And.intro rfl ?_
    refine And.intro (Int.natCast_nonneg _) (And.intro (by show (i : Int) < (l.length : Int); omega) (And.intro rfl ?_))
    refine And.intro (Nat.le_of_ble_eq_true rfl) ?_
    repeat refine And.intro rfl ?_
    refine And.intro (Int.natCast_nonneg _) (And.intro (by show (i : Int) < (l.length : Int); omega) (And.intro rfl ?_))
    refine And.intro (Nat.le_of_ble_eq_true rfl) ?_
    repeat refine And.intro rfl ?_
    refine Exists.intro _ (Exists.intro _ (And.intro (Dep_self (l.getD ((i : Int)).toNat zDep) (by rw [show l.getD ((i : Int)).toNat zDep = l[i] by simp [List.getD, hlt]]; exact he _ (List.getElem_mem hlt))) (And.intro (AsLe.refl _) (And.intro rfl ?_))))
    refine And.intro rfl ?_
    refine And.intro (fun h => by cases h) (fun _ => ?_)
    refine And.intro rfl (And.intro ⟨by omega, by show (i : Int) + 1 ≤ _; omega⟩ ?_)
    exact ⟨⟨i + 1, hlt⟩, by simp; omega, Sub.ofL _ _ (Nat.zero_le _) ⟨rfl, rfl, rfl, rfl, rfl, rfl, rfl, rfl, trivial⟩ rfl rfl⟩
  · refine vc_sound tabOk (by kernel_rfl) ?_
    exact And.intro (DLe.refl _) trivial

end Go.Proofs.Nw.K
