/- L3: the law ClasspathTells. -/
import Derived.Test.YtjfpnnmagnljnaaNwC8
import Derived.Test.YtjfpnnmagnljnaaNwO1
open Go Go.RowKit Go.Proofs
set_option linter.unusedVariables false
set_option linter.unusedSimpArgs false
namespace Go.Proofs.Nw.K

theorem len_le_sum {α : Type} (f : α → Nat) (h : ∀ a, 1 ≤ f a) : ∀ l : List α, l.length ≤ (l.map f).sum
  | [] => by simp
  | a :: r => by have := len_le_sum f h r; have := h a; simp; omega

theorem nodes_ok (r : Resolved) (h : r.wt ≤ 1048576) : r.nodes.length ≤ 4194304 ∧ ∀ n ∈ r.nodes, n.dep.excluded.length ≤ 4194304 := by
  unfold Resolved.wt at h
  have h1 := len_le_sum Found.wt (fun a => by unfold Found.wt; omega) r.nodes
  refine ⟨by omega, fun n hn => ?_⟩
  have h2 := le_sum_of_mem (l := r.nodes.map Found.wt) (a := n.wt) (List.mem_map_of_mem hn)
  have h3 := len_le_sum Excluded.wt (fun a => by unfold Excluded.wt; omega) n.dep.excluded
  have h4 : n.wt = n.dep.wt + 4 := rfl
  unfold Dep.wt at h4
  omega

theorem ofOf_mem (kind : Int) : ∀ (l : List Found) (d : Dep), d ∈ ofOf kind l → ∃ n ∈ l, n.dep = d
  | n :: r, d, h => by
    simp only [ofOf] at h
    split at h
    · rcases List.mem_cons.1 h with rfl | h
      · exact ⟨n, by simp, rfl⟩
      · obtain ⟨m, h1, h2⟩ := ofOf_mem kind r d h; exact ⟨m, by simp [h1], h2⟩
    · obtain ⟨m, h1, h2⟩ := ofOf_mem kind r d h; exact ⟨m, by simp [h1], h2⟩

theorem ClasspathTells_impl (r : Resolved) (kind : Int) (l : List Dep) (_ : r.Ok) (_ : isInt kind) (_ : l.length ≤ maxLen ∧ ∀ s ∈ l, True) (h : r.wt + 1 + ((l.map Dep.wt).sum + 1) ≤ 1048576) :
    Impl Try.prog 3 [.agg (encResolved r), .one (dint kind), .one (dDeps l)] [.one (.sc (.bool true))] := by
  obtain ⟨hn, he⟩ := nodes_ok r (by omega)
  generalize ho : (if goodKind kind then ofOf kind r.nodes else []) = o
  generalize hx : (if goodKind kind then (0 : Int) else 20) = x
  have hol : o.length ≤ 4194304 := by
    subst ho
    split
    · have := ofOf_length kind r.nodes; omega
    · exact Nat.zero_le _
  have hoe : ∀ d ∈ o, d.excluded.length ≤ 4194304 := fun d hd => by
    subst ho
    split at hd
    · obtain ⟨n, h1, rfl⟩ := ofOf_mem kind _ _ hd; exact he n h1
    · simp at hd
  have hOf := Of_impl r kind hn he
  have hCp := refClasspath_impl r kind hn he
  rw [ho, hx] at hOf hCp
  refine impl_vc tabOk Try.func3 rfl rfl (by exact Nat.le_of_ble_eq_true rfl) ?_
  refine WP_seq (vc_sound tabOk (by kernel_rfl) ?_)
  refine WP_seq (vc_sound tabOk (by kernel_rfl) ?_)
  refine And.intro rfl ?_
  cases hlo : decide ((r.nodes.length : Int) > 100) with
  | true =>
    apply And.intro
    · exact ltb rfl
    refine And.intro (fun h => by cases h) (fun _ => ?_)
    apply And.intro
    · exact ltb rfl
    refine And.intro (fun h => by cases h) (fun _ => ?_)
    apply And.intro
    · exact ltb rfl
    refine And.intro (fun h => by cases h) (fun _ => ?_)
    refine And.intro (fun _ => ?_) (fun h => by cases h)
    refine And.intro (fun _ => ?_) (fun h => by cases h)
    refine And.intro rfl (Exists.intro _ (Exists.intro _ (And.intro awake_impl (And.intro (AsLe.refl _) ?_))))
    exact And.intro (DLe.refl _) trivial
  | false =>
    apply And.intro
    · exact ltb rfl
    refine And.intro (fun _ => ?_) (fun h => absurd rfl h)
    apply And.intro
    · exact ltb rfl
    refine And.intro (fun _ => ?_) (fun h => absurd rfl h)
    apply And.intro
    · exact ltb rfl
    refine And.intro (fun _ => And.intro rfl ?_) (fun h => absurd rfl h)
    refine And.intro (fun h => by cases h) (fun _ => ?_)
    refine And.intro (fun h => ?_) (fun hhi => ?_)
    · refine And.intro rfl (Exists.intro _ (Exists.intro _ (And.intro awake_impl (And.intro (AsLe.refl _) ?_))))
      exact And.intro (DLe.refl _) trivial
    refine WP_seq (vc_sound tabOk (by kernel_rfl) ?_)
    refine And.intro rfl ?_
    refine And.intro rfl (Exists.intro _ (Exists.intro _ (And.intro hOf (And.intro (AsLe.refl _) ?_))))
    refine WP_seq (vc_sound tabOk (by kernel_rfl) ?_)
    refine And.intro rfl ?_
    refine And.intro rfl (Exists.intro _ (Exists.intro _ (And.intro hCp (And.intro (AsLe.refl _) ?_))))
    refine WP_sub (Sub.ofL [(2, .d (dDeps l)), (7, .d (dDeps o)), (8, .int x), (9, .d (dDeps o)), (10, .int x)] [] (Nat.zero_le _) ⟨rfl, rfl, rfl, rfl, rfl, rfl, rfl, rfl, rfl, rfl, trivial⟩ rfl rfl) ?_
    refine WP_seq (vc_sound tabOk (by kernel_rfl) ?_)
    refine And.intro rfl (Exists.intro _ (Exists.intro _ (And.intro awake_impl (And.intro (AsLe.refl _) ?_))))
    apply And.intro
    · exact ltb rfl
    refine And.intro (fun _ => ?_) (fun h => absurd rfl h)
    apply And.intro
    · exact ltb rfl
    refine And.intro (fun _ => ?_) (fun h => absurd rfl h)
    apply And.intro
    · exact ltb rfl
    refine And.intro (fun _ => ?_) (fun h => absurd rfl h)
    refine And.intro rfl (Exists.intro _ (Exists.intro _ (And.intro (SameDep_self o hol hoe) (And.intro (AsLe.refl _) ?_))))
    refine And.intro (fun _ => ?_) (fun h => by cases h)
    apply And.intro
    · exact ltb rfl
    refine And.intro (fun _ => ?_) (fun h => absurd rfl h)
    apply And.intro
    · exact ltb rfl
    refine And.intro (fun _ => ?_) (fun h => absurd rfl h)
    apply And.intro
    · exact ltb rfl
    refine And.intro (fun _ => And.intro rfl ?_) (fun h => absurd rfl h)
    refine And.intro (fun _ => ?_) (fun h => by cases h)
    have hxx : (x == x) = true := by simp
    apply And.intro
    · exact ltb rfl
    refine And.intro (fun _ => ?_) (fun h => absurd hxx h)
    apply And.intro
    · exact ltb rfl
    refine And.intro (fun _ => ?_) (fun h => absurd hxx h)
    refine And.intro rfl (Exists.intro _ (Exists.intro _ (And.intro (Lines_impl l (by omega)) (And.intro (AsLe.refl _) ?_))))
    apply And.intro
    · exact ltb rfl
    refine And.intro (fun _ => ?_) (fun h => absurd hxx h)
    apply And.intro
    · exact ltb rfl
    refine And.intro (fun _ => ?_) (fun h => absurd hxx h)
    refine And.intro rfl (Exists.intro _ (Exists.intro _ (And.intro (refLines_impl l (by omega)) (And.intro (AsLe.refl _) ?_))))
    apply And.intro
    · exact ltb rfl
    refine And.intro (fun _ => ?_) (fun h => absurd hxx h)
    refine And.intro (fun _ => ?_) (fun h => absurd (hxx.symm.trans h) (by decide))
    refine WP_ret ?_
    refine And.intro (DLe.of_eq ?_) trivial
    show DV.one (.sc (.bool ((linesOf l).toList == (linesOf l).toList))) = _
    rw [self_str]
end Go.Proofs.Nw.K
