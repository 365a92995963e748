import Derived.Test.YtjfpnnmagnljnaaNwC1
open Go Go.RowKit Go.Proofs
set_option linter.unusedVariables false
set_option linter.unusedSimpArgs false
namespace Go.Proofs.Nw.K

theorem Clone_impl (l : List Excluded) (h : l.length ≤ 4194304) : Impl Try.prog 37 [.one (dExcludeds l)] [.one (dExcludeds l)] := by
  refine impl_vc tabOk Try.func37 rfl rfl (by exact Nat.le_of_ble_eq_true rfl) (vc_sound tabOk (by kernel_rfl) ?_)
  refine And.intro (fun e => ?_) ?_
  · refine And.intro (fun _ => And.intro ?_ trivial) (fun h => by cases h)
    subst e
    exact DLe.nils _
  refine And.intro (fun h => by cases h) (fun _ => ?_)
  refine And.intro rfl (And.intro ⟨rfl, rfl, rfl, rfl⟩ (And.intro rfl (And.intro ?_ (And.intro ?_ ?_))))
  · simp only [List.length_map]; omega
  · simp only [List.length_map, maxLen]; omega
  refine And.intro ⟨rfl, rfl, by simp⟩ (And.intro (DLe.tl _ ?_) trivial)
  simp

theorem Type_impl (d : Dep) : Impl Try.prog 59 [.agg (encDep d)] [.one (dstr (tyOf d))] := by
  refine impl_vc tabOk Try.func59 rfl rfl (by exact Nat.le_of_ble_eq_true rfl) (vc_sound tabOk (by kernel_rfl) ?_)
  refine And.intro (fun h => ?_) (fun h => ?_)
  · refine And.intro (DLe.of_eq ?_) trivial
    have h : (d.type.toList == emp.toList) = true := h
    simp only [tyOf, if_pos h]; rfl
  · refine And.intro (DLe.of_eq ?_) trivial
    have h : (d.type.toList == emp.toList) = false := h
    have h' : ¬ (d.type.toList == emp.toList) = true := by rw [h]; decide
    simp only [tyOf, if_neg h']

theorem line_impl (d : Dep) (h : d.wt ≤ 4194304) : Impl Try.prog 42 [.agg (encDep d)] [.one (dstr (lineOf d))] := by
  have hsz := lineOf_size d
  have ht := tyOf_size d
  have hw : d.group.size + d.name.size + d.version.size + d.type.size + d.classifier.size + d.scope.size + 9 ≤ 4194304 := by unfold Dep.wt at h; omega
  have h1 : colon.size = 1 := rfl
  refine impl_vc tabOk Try.func42 rfl rfl (by exact Nat.le_of_ble_eq_true rfl) (vc_sound tabOk (by kernel_rfl) ?_)
  repeat refine And.intro rfl ?_
  refine And.intro (by show d.group.size + colon.size ≤ _; omega) ?_
  repeat refine And.intro rfl ?_
  refine And.intro (by show (d.group ++ colon).size + d.name.size ≤ _; rw [app_size]; omega) (And.intro rfl ?_)
  refine And.intro (by show (d.group ++ colon ++ d.name).size + colon.size ≤ _; simp only [app_size]; omega) ?_
  repeat refine And.intro rfl ?_
  refine Exists.intro _ (Exists.intro _ (And.intro (Type_impl d) (And.intro (AsLe.refl _) (And.intro rfl ?_))))
  refine And.intro (by show (d.group ++ colon ++ d.name ++ colon).size + (tyOf d).size ≤ _; simp only [app_size]; omega) ?_
  repeat refine And.intro rfl ?_
  refine And.intro (fun h => ?_) (fun h => ?_)
  · have hc : (d.classifier.toList == emp.toList) = false := not_true_eq h
    refine And.intro (by show (d.group ++ colon ++ d.name ++ colon ++ tyOf d).size + colon.size ≤ _; simp only [app_size]; omega) ?_
    refine And.intro (by show (d.group ++ colon ++ d.name ++ colon ++ tyOf d ++ colon).size + d.classifier.size ≤ _; simp only [app_size]; omega) ?_
    refine And.intro (by show (d.group ++ colon ++ d.name ++ colon ++ tyOf d ++ colon ++ d.classifier).size + colon.size ≤ _; simp only [app_size]; omega) ?_
    refine And.intro (by show (d.group ++ colon ++ d.name ++ colon ++ tyOf d ++ colon ++ d.classifier ++ colon).size + d.version.size ≤ _; simp only [app_size]; omega) ?_
    refine And.intro (by show (d.group ++ colon ++ d.name ++ colon ++ tyOf d ++ colon ++ d.classifier ++ colon ++ d.version).size + colon.size ≤ _; simp only [app_size]; omega) ?_
    refine And.intro (by show (d.group ++ colon ++ d.name ++ colon ++ tyOf d ++ colon ++ d.classifier ++ colon ++ d.version ++ colon).size + d.scope.size ≤ _; simp only [app_size]; omega) ?_
    refine And.intro (DLe.of_eq ?_) trivial
    simp only [lineOf, if_neg (show ¬ (d.classifier.toList == emp.toList) = true by rw [hc]; decide)]
    rfl
  · have hc : (d.classifier.toList == emp.toList) = true := not_false_eq h
    refine And.intro (by show (d.group ++ colon ++ d.name ++ colon ++ tyOf d).size + colon.size ≤ _; simp only [app_size]; omega) ?_
    refine And.intro (by show (d.group ++ colon ++ d.name ++ colon ++ tyOf d ++ colon).size + d.version.size ≤ _; simp only [app_size]; omega) ?_
    refine And.intro (by show (d.group ++ colon ++ d.name ++ colon ++ tyOf d ++ colon ++ d.version).size + colon.size ≤ _; simp only [app_size]; omega) ?_
    refine And.intro (by show (d.group ++ colon ++ d.name ++ colon ++ tyOf d ++ colon ++ d.version ++ colon).size + d.scope.size ≤ _; simp only [app_size]; omega) ?_
    refine And.intro (DLe.of_eq ?_) trivial
    simp only [lineOf, if_pos hc]
    rfl

theorem refLines_impl (l : List Dep) (h : (l.map Dep.wt).sum ≤ 4194304) : Impl Try.prog 18 [.one (dDeps l)] [.one (dstr (linesOf l))] := by
  have hlen := len_le_wt l
  have hwt : ∀ i (hi : i < l.length), l[i].wt ≤ 4194304 := fun i hi => by
    have := le_sum_of_mem (l := l.map Dep.wt) (a := l[i].wt) (List.mem_map_of_mem (List.getElem_mem hi))
    omega
  have hpre : ∀ i, (linesOf (l.take i)).size ≤ 2 * 4194304 := fun i => by
    have h1 := linesOf_size (l.take i)
    have h2 := sum_take Dep.wt l i
    have h3 : (l.take i).length ≤ l.length := by rw [List.length_take]; omega
    omega
  refine impl_vc tabOk Try.func18 rfl rfl (by exact Nat.le_of_ble_eq_true rfl) (vc_sound tabOk (by kernel_rfl) ?_)
  refine WP_loop (α := {i : Nat // i ≤ l.length}) (fun i => ofL [(0, .d (dDeps l)), (2, .str emp), (3, .str (linesOf (l.take i.1))), (4, .int (i.1 : Int))]) (fun i => []) (fun i => l.length - i.1) ⟨0, by simp⟩ ?_ ?_
  · exact Sub.ofL _ _ (Nat.zero_le _) ⟨rfl, rfl, rfl, rfl, rfl, rfl, rfl, rfl, trivial⟩ rfl rfl
  rintro ⟨i, hi⟩
  refine vc_sound tabOk (by kernel_rfl) ?_
  refine And.intro rfl (And.intro (fun h => ?_) (fun h => ?_))
  · have hlt : i < l.length := by simpa using h
    have hg : l.getD i zDep = l[i] := by simp [List.getD, hlt]
    have hls := lineOf_size (l.getD i zDep)
    have hw0 := hwt i hlt
    rw [← hg] at hw0
    have hp := hpre i
    have h1 : nl.size = 1 := rfl
    refine And.intro rfl (And.intro (Int.natCast_nonneg _) (And.intro (by simpa using hlt) ?_))
    refine And.intro (Nat.le_of_ble_eq_true rfl) ?_
    refine And.intro rfl (Exists.intro _ (Exists.intro _ (And.intro (line_impl (l.getD i zDep) hw0) (And.intro (AsLe.refl _) ?_))))
    refine And.intro (by show (linesOf (l.take i)).size + (lineOf (l.getD i zDep)).size ≤ _; omega) ?_
    refine And.intro (by show (linesOf (l.take i) ++ lineOf (l.getD i zDep)).size + nl.size ≤ _; rw [app_size]; omega) ?_
    refine And.intro rfl (And.intro ⟨by omega, by show (i : Int) + 1 ≤ _; omega⟩ ?_)
    refine ⟨⟨i + 1, hlt⟩, by simp; omega, Sub.ofL _ _ (Nat.zero_le _) ⟨rfl, rfl, rfl, rfl, ?_, rfl, rfl, rfl, trivial⟩ rfl rfl⟩
    show AV.str (linesOf (l.take i) ++ lineOf (l.getD i zDep) ++ nl) = AV.str (linesOf (l.take (i + 1)))
    rw [linesOf_snoc l i hlt, hg, app_assoc]
  · have h0 : l.take i = l := List.take_of_length_le (by have : ¬ i < l.length := by simpa using h
                                                         omega)
    refine And.intro (DLe.of_eq ?_) trivial
    show DV.one (dstr (linesOf (l.take i))) = _
    rw [h0]
end Go.Proofs.Nw.K
