/- Bundle 6: NwC7, NwC8, NwK21, NwC9, NwK22, NwC10, NwL3, NwC11, NwB5, NwC12. -/
import Derived.Test.YtjfpnnmagnljnaaNwA5
import Derived.Shelf.SlSortCmp.WholeK
import Derived.Sort.Walk0
section
open Go Go.RowKit Go.Proofs
set_option linter.unusedVariables false
set_option linter.unusedSimpArgs false
namespace Go.Proofs.Nw.K

theorem beq_sym (a b : Str) : (a.toList == b.toList) = (b.toList == a.toList) := by rw [str_beq, str_beq]; simp only [eq_comm]

theorem IsScope_impl (s : Str) : Impl Try.prog 43 [.one (dstr s)] [.one (dbool (amongOf s [sCompile, sRuntime, sProvided, sTest]))] := by
  have hA : amongOf s [sCompile, sRuntime, sProvided, sTest] = ((s.toList == sCompile.toList) || ((s.toList == sRuntime.toList) || ((s.toList == sProvided.toList) || (s.toList == sTest.toList)))) := by
    simp only [amongOf, List.any_cons, List.any_nil, Bool.or_false]
    rw [beq_sym sCompile, beq_sym sRuntime, beq_sym sProvided, beq_sym sTest]
  rw [hA]
  refine impl_vc tabOk Try.func43 rfl rfl (by exact Nat.le_of_ble_eq_true rfl) (vc_sound tabOk (by kernel_rfl) ?_)
  cases h1 : (s.toList == sCompile.toList) with
  | true =>
    apply And.intro
    · exact ltb rfl
    refine And.intro (fun h => absurd (h1.symm.trans h) (by decide)) (fun _ => ?_)
    apply And.intro
    · exact ltb rfl
    refine And.intro (fun h => absurd (h1.symm.trans h) (by decide)) (fun _ => ?_)
    refine And.intro (fun _ => ?_) (fun h => absurd (h1.symm.trans h) (by decide))
    apply And.intro
    · exact ltb rfl
    refine And.intro (fun h => by cases h) (fun _ => ?_)
    apply And.intro
    · exact ltb rfl
    refine And.intro (fun h => by cases h) (fun _ => ?_)
    refine And.intro (fun _ => ?_) (fun h => by cases h)
    apply And.intro
    · exact ltb rfl
    refine And.intro (fun h => by cases h) (fun _ => ?_)
    apply And.intro
    · exact ltb rfl
    refine And.intro (fun h => by cases h) (fun _ => ?_)
    refine And.intro (fun _ => ?_) (fun h => by cases h)
    refine And.intro (DLe.of_eq ?_) trivial
    rfl
  | false =>
    cases h2 : (s.toList == sRuntime.toList) with
    | true =>
      apply And.intro
      · exact ltb rfl
      refine And.intro (fun _ => ?_) (fun h => absurd h1 h)
      apply And.intro
      · exact ltb rfl
      refine And.intro (fun _ => ?_) (fun h => absurd h1 h)
      refine And.intro (fun h => absurd (h1.symm.trans h) (by decide)) (fun _ => ?_)
      apply And.intro
      · exact ltb rfl
      refine And.intro (fun h => absurd (h2.symm.trans h) (by decide)) (fun _ => ?_)
      apply And.intro
      · exact ltb rfl
      refine And.intro (fun h => absurd (h2.symm.trans h) (by decide)) (fun _ => ?_)
      refine And.intro (fun _ => ?_) (fun h => absurd (h2.symm.trans h) (by decide))
      apply And.intro
      · exact ltb rfl
      refine And.intro (fun h => by cases h) (fun _ => ?_)
      apply And.intro
      · exact ltb rfl
      refine And.intro (fun h => by cases h) (fun _ => ?_)
      refine And.intro (fun _ => ?_) (fun h => by cases h)
      refine And.intro (DLe.of_eq ?_) trivial
      rfl
    | false =>
      cases h3 : (s.toList == sProvided.toList) with
      | true =>
        apply And.intro
        · exact ltb rfl
        refine And.intro (fun _ => ?_) (fun h => absurd h1 h)
        apply And.intro
        · exact ltb rfl
        refine And.intro (fun _ => ?_) (fun h => absurd h1 h)
        refine And.intro (fun h => absurd (h1.symm.trans h) (by decide)) (fun _ => ?_)
        apply And.intro
        · exact ltb rfl
        refine And.intro (fun _ => ?_) (fun h => absurd h2 h)
        apply And.intro
        · exact ltb rfl
        refine And.intro (fun _ => ?_) (fun h => absurd h2 h)
        refine And.intro (fun h => absurd (h2.symm.trans h) (by decide)) (fun _ => ?_)
        apply And.intro
        · exact ltb rfl
        refine And.intro (fun h => absurd (h3.symm.trans h) (by decide)) (fun _ => ?_)
        apply And.intro
        · exact ltb rfl
        refine And.intro (fun h => absurd (h3.symm.trans h) (by decide)) (fun _ => ?_)
        refine And.intro (fun _ => ?_) (fun h => absurd (h3.symm.trans h) (by decide))
        refine And.intro (DLe.of_eq ?_) trivial
        rfl
      | false =>
        cases h4 : (s.toList == sTest.toList) with
        | true =>
          apply And.intro
          · exact ltb rfl
          refine And.intro (fun _ => ?_) (fun h => absurd h1 h)
          apply And.intro
          · exact ltb rfl
          refine And.intro (fun _ => ?_) (fun h => absurd h1 h)
          refine And.intro (fun h => absurd (h1.symm.trans h) (by decide)) (fun _ => ?_)
          apply And.intro
          · exact ltb rfl
          refine And.intro (fun _ => ?_) (fun h => absurd h2 h)
          apply And.intro
          · exact ltb rfl
          refine And.intro (fun _ => ?_) (fun h => absurd h2 h)
          refine And.intro (fun h => absurd (h2.symm.trans h) (by decide)) (fun _ => ?_)
          apply And.intro
          · exact ltb rfl
          refine And.intro (fun _ => ?_) (fun h => absurd h3 h)
          apply And.intro
          · exact ltb rfl
          refine And.intro (fun _ => ?_) (fun h => absurd h3 h)
          refine And.intro (fun h => absurd (h3.symm.trans h) (by decide)) (fun _ => ?_)
          refine And.intro (DLe.of_eq ?_) trivial
          exact congrArg (fun b => DV.one (dbool b)) h4
        | false =>
          apply And.intro
          · exact ltb rfl
          refine And.intro (fun _ => ?_) (fun h => absurd h1 h)
          apply And.intro
          · exact ltb rfl
          refine And.intro (fun _ => ?_) (fun h => absurd h1 h)
          refine And.intro (fun h => absurd (h1.symm.trans h) (by decide)) (fun _ => ?_)
          apply And.intro
          · exact ltb rfl
          refine And.intro (fun _ => ?_) (fun h => absurd h2 h)
          apply And.intro
          · exact ltb rfl
          refine And.intro (fun _ => ?_) (fun h => absurd h2 h)
          refine And.intro (fun h => absurd (h2.symm.trans h) (by decide)) (fun _ => ?_)
          apply And.intro
          · exact ltb rfl
          refine And.intro (fun _ => ?_) (fun h => absurd h3 h)
          apply And.intro
          · exact ltb rfl
          refine And.intro (fun _ => ?_) (fun h => absurd h3 h)
          refine And.intro (fun h => absurd (h3.symm.trans h) (by decide)) (fun _ => ?_)
          refine And.intro (DLe.of_eq ?_) trivial
          exact congrArg (fun b => DV.one (dbool b)) h4

theorem refIn_impl (kind : Int) (s : Str) : Impl Try.prog 19 [.one (dint kind), .one (dstr s)] [.one (dbool (inScope kind s))] := by
  have h2c : ∀ a b : Str, amongOf s [a, b] = ((s.toList == a.toList) || (s.toList == b.toList)) := fun a b => by
    simp only [amongOf, List.any_cons, List.any_nil, Bool.or_false]
    rw [beq_sym a, beq_sym b]
  refine impl_vc tabOk Try.func19 rfl rfl (by exact Nat.le_of_ble_eq_true rfl) (vc_sound tabOk (by kernel_rfl) ?_)
  refine And.intro rfl (And.intro (fun h => ?_) (fun h2 => ?_))
  · have h : (kind == 2) = true := h
    cases q1 : (s.toList == sCompile.toList) with
    | true =>
      apply And.intro
      · exact ltb rfl
      refine And.intro (fun h => absurd (q1.symm.trans h) (by decide)) (fun _ => ?_)
      apply And.intro
      · exact ltb rfl
      refine And.intro (fun h => absurd (q1.symm.trans h) (by decide)) (fun _ => ?_)
      refine And.intro (fun _ => ?_) (fun h => absurd (q1.symm.trans h) (by decide))
      refine And.intro (DLe.of_eq ?_) trivial
      simp only [inScope, if_pos h, h2c, q1]; rfl
    | false =>
      apply And.intro
      · exact ltb rfl
      refine And.intro (fun _ => ?_) (fun h => absurd q1 h)
      apply And.intro
      · exact ltb rfl
      refine And.intro (fun _ => ?_) (fun h => absurd q1 h)
      refine And.intro (fun h => absurd (q1.symm.trans h) (by decide)) (fun _ => ?_)
      refine And.intro (DLe.of_eq ?_) trivial
      simp only [inScope, if_pos h, h2c, q1]; rfl
  have h2 : ¬ (kind == 2) = true := by have h2 : (kind == 2) = false := h2; rw [h2]; decide
  refine And.intro rfl (And.intro (fun h => ?_) (fun h3 => ?_))
  · have h : (kind == 3) = true := h
    cases q1 : (s.toList == sCompile.toList) with
    | true =>
      apply And.intro
      · exact ltb rfl
      refine And.intro (fun h => absurd (q1.symm.trans h) (by decide)) (fun _ => ?_)
      apply And.intro
      · exact ltb rfl
      refine And.intro (fun h => absurd (q1.symm.trans h) (by decide)) (fun _ => ?_)
      refine And.intro (fun _ => ?_) (fun h => absurd (q1.symm.trans h) (by decide))
      refine And.intro (DLe.of_eq ?_) trivial
      simp only [inScope, if_neg h2, if_pos h, h2c, q1]; rfl
    | false =>
      apply And.intro
      · exact ltb rfl
      refine And.intro (fun _ => ?_) (fun h => absurd q1 h)
      apply And.intro
      · exact ltb rfl
      refine And.intro (fun _ => ?_) (fun h => absurd q1 h)
      refine And.intro (fun h => absurd (q1.symm.trans h) (by decide)) (fun _ => ?_)
      refine And.intro (DLe.of_eq ?_) trivial
      simp only [inScope, if_neg h2, if_pos h, h2c, q1]; rfl
  have h3 : ¬ (kind == 3) = true := by have h3 : (kind == 3) = false := h3; rw [h3]; decide
  refine And.intro rfl (And.intro (fun h => ?_) (fun h4 => ?_))
  · refine And.intro rfl (Exists.intro _ (Exists.intro _ (And.intro (IsScope_impl s) (And.intro (AsLe.refl _) ?_))))
    refine And.intro (DLe.of_eq ?_) trivial
    have h : (kind == 4) = true := h
    simp only [inScope, if_neg h2, if_neg h3, if_pos h]
  have h4 : ¬ (kind == 4) = true := by have h4 : (kind == 4) = false := h4; rw [h4]; decide
  refine And.intro rfl (And.intro (fun h => ?_) (fun h5 => ?_))
  · refine And.intro (DLe.of_eq ?_) trivial
    have h : (kind == 5) = true := h
    simp only [inScope, if_neg h2, if_neg h3, if_neg h4, if_pos h]
    rfl
  · have h5 : ¬ (kind == 5) = true := by have h5 : (kind == 5) = false := h5; rw [h5]; decide
    refine And.intro (DLe.of_eq ?_) trivial
    simp only [inScope, if_neg h2, if_neg h3, if_neg h4, if_neg h5]
    try rfl

end Go.Proofs.Nw.K
end
section
open Go Go.RowKit Go.Proofs
set_option linter.unusedVariables false
set_option linter.unusedSimpArgs false
namespace Go.Proofs.Nw.K

/-- a row of one's own, seen with weaker cells -/
theorem Sub.row {N : Fm} {env : Env} {st : List AO} {s k e sz : Nat} {xs ys : List (List D)} (hst : st[s]? = some (.row k e sz xs)) (h : LsLe xs ys) : Sub N env st env (st.set s (.row k e sz ys)) := by
  intro w0 σ0 I a w ⟨hs, hd, hI, σ, gh, hb, hk, he⟩
  have hlt : s < gh.length := by rw [hb.len]; exact (List.getElem?_eq_some_iff.1 hst).1
  obtain ⟨g, hg⟩ : ∃ g, gh[s]? = some g := ⟨gh[s], List.getElem?_eq_getElem hlt⟩
  have keep : ∀ v a, RepA σ gh st v a → RepA σ gh (st.set s (.row k e sz ys)) v a := fun v a h' => h'.set hst _ (fun k' e' sz' xs' heq => by cases heq; exact ⟨e, xs, rfl, h.length⟩)
  obtain ⟨vals, hown, hsz, hval, huns, hone⟩ := hb.obj s _ _ hst hg
  have := hb.turn (w' := w) hst hg (by simp) ⟨rfl, rfl, rfl, Nat.le_refl _, fun _ _ _ => rfl⟩ g (.row k e sz ys) (fun b hb' => .inl hb')
    ⟨vals, by rw [← h.length]; exact hown, fun i y hy => by obtain ⟨x, hx, hc⟩ := h.get hy; rw [← hc.length]; exact hsz i x hx, fun i j y d hy hd => by
      obtain ⟨x, hx, hc⟩ := h.get hy
      obtain ⟨d0, hd0, hle⟩ := hc.get hd
      obtain ⟨v, h1, h2⟩ := hval i j x d0 hx hd0
      exact ⟨v, h1, hle σ v h2⟩, huns, hone⟩ (by rw [set_self hg]; exact keep)
  rw [set_self hg] at this
  exact ⟨hs, hd, hI, σ, gh, this.base, fun v a ha => this.keep _ _ (hk v a ha), fun t => this.keep _ _ (he t)⟩

theorem good_iff (kind : Int) : goodKind kind = true ↔ 2 ≤ kind ∧ kind ≤ 5 := by
  simp only [goodKind, Bool.or_eq_true, beq_iff_eq]
  omega

theorem refClasspath_impl (r : Resolved) (kind : Int) (hn : r.nodes.length ≤ 4194304) (he : ∀ n ∈ r.nodes, n.dep.excluded.length ≤ 4194304) :
    Impl Try.prog 14 [.agg (encResolved r), .one (dint kind)] [.one (dDeps (if goodKind kind then ofOf kind r.nodes else [])), .one (dint (if goodKind kind then 0 else 20))] := by
  refine impl_vc tabOk Try.func14 rfl rfl (by exact Nat.le_of_ble_eq_true rfl) ?_
  refine WP_seq (vc_sound tabOk (by kernel_rfl) ?_)
  refine WP_seq (vc_sound tabOk (by kernel_rfl) ?_)
  refine And.intro rfl ?_
  cases hlo : decide (kind < 2) with
  | true =>
    have hk : ¬ goodKind kind = true := fun h => by have := (good_iff kind).1 h; have := of_decide_eq_true hlo; omega
    apply And.intro
    · exact ltb rfl
    refine And.intro (fun h => by cases h) (fun _ => ?_)
    apply And.intro
    · exact ltb rfl
    refine And.intro (fun h => by cases h) (fun _ => ?_)
    refine And.intro (fun _ => ?_) (fun h => by cases h)
    refine And.intro (fun _ => ?_) (fun h => by cases h)
    refine And.intro ?_ (And.intro (DLe.of_eq ?_) trivial)
    · rw [if_neg hk]; exact DLe.nils _
    · rw [if_neg hk]
  | false =>
    apply And.intro
    · exact ltb rfl
    refine And.intro (fun _ => ?_) (fun h => absurd rfl h)
    apply And.intro
    · exact ltb rfl
    refine And.intro (fun _ => And.intro rfl ?_) (fun h => absurd rfl h)
    refine And.intro (fun h => by cases h) (fun _ => ?_)
    refine And.intro (fun h => ?_) (fun hhi => ?_)
    · have h : decide (kind > 5) = true := h
      have hk : ¬ goodKind kind = true := fun h' => by have := (good_iff kind).1 h'; have := of_decide_eq_true h; omega
      refine And.intro ?_ (And.intro (DLe.of_eq ?_) trivial)
      · rw [if_neg hk]; exact DLe.nils _
      · rw [if_neg hk]
    have hk : goodKind kind = true := (good_iff kind).2 (by
      have hhi : decide (kind > 5) = false := hhi
      have := of_decide_eq_false hhi
      have := of_decide_eq_false hlo
      omega)
    rw [if_pos hk, if_pos hk]
    refine WP_seq (vc_sound tabOk (by kernel_rfl) ?_)
    refine WP_seq (WP_seq (vc_sound tabOk (by kernel_rfl) ?_))
    refine WP_block (WP_loop (α := {i : Nat // i ≤ r.nodes.length}) (fun i => ofL [(1, .int kind), (2, .ptr 0 0), (4, .nils), (5, .int 0), (6, .h 1 (ofOf kind (r.nodes.take i.1)).length 0 (ofOf kind (r.nodes.take i.1)).length), (7, .int (i.1 : Int))])
      (fun i => [.box 26 ((encResolved r).map AV.d), .row (ofOf kind (r.nodes.take i.1)).length 35 8 ((ofOf kind (r.nodes.take i.1)).map encDep)]) (fun i => r.nodes.length - i.1) ⟨0, Nat.zero_le _⟩ ?_ ?_)
    · exact (Sub.nilsRow 6 35 8 rfl).trans (Sub.ofL _ _ (Nat.zero_le _) ⟨rfl, rfl, rfl, rfl, rfl, rfl, rfl, rfl, rfl, rfl, rfl, rfl, trivial⟩ rfl rfl)
    rintro ⟨i, hi⟩
    refine vc_sound tabOk (by kernel_rfl) ?_
    refine And.intro rfl (And.intro (fun h => ?_) (fun h => ?_))
    · have hlt : i < r.nodes.length := by simpa using h
      have hg : r.nodes.getD ((i : Int)).toNat zFound = r.nodes[i] := by simp [List.getD, hlt]
      refine And.intro rfl (And.intro (Int.natCast_nonneg _) (And.intro (by show (i : Int) < (r.nodes.length : Int); omega) ?_))
      refine And.intro (Nat.le_of_ble_eq_true rfl) ?_
      refine And.intro rfl (And.intro (Nat.le_of_ble_eq_true rfl) ?_)
      refine And.intro rfl ?_
      have htk : r.nodes.take (i + 1) = r.nodes.take i ++ [r.nodes[i]] := List.take_succ_eq_append_getElem hlt
      have stp : ∀ (d : Bool), d = ((r.nodes[i].kind == 1) && inScope kind r.nodes[i].dep.scope) → ofOf kind (r.nodes.take (i + 1)) = ofOf kind (r.nodes.take i) ++ (if d then [r.nodes[i].dep] else []) := fun d hd => by
        rw [htk, ofOf_append, hd]
        congr 1
      by_cases hb : (r.nodes[i].kind == 1) = true
      · have hb' : ((r.nodes.getD ((i : Int)).toNat zFound).kind == 1) = true := by rw [hg]; exact hb
        apply And.intro
        · exact ltb rfl
        refine And.intro (fun _ => ?_) (fun h => absurd hb' h)
        apply And.intro
        · exact ltb rfl
        refine And.intro (fun _ => ?_) (fun h => absurd hb' h)
        apply And.intro
        · exact ltb rfl
        refine And.intro (fun _ => ?_) (fun h => absurd hb' h)
        apply And.intro
        · exact ltb rfl
        refine And.intro (fun _ => ?_) (fun h => absurd hb' h)
        apply And.intro
        · exact ltb rfl
        refine And.intro (fun _ => ?_) (fun h => absurd hb' h)
        refine And.intro rfl (Exists.intro _ (Exists.intro _ (And.intro (refIn_impl kind (r.nodes.getD ((i : Int)).toNat zFound).dep.scope) (And.intro (AsLe.refl _) ?_))))
        refine And.intro (fun _ => ?_) (fun h => absurd hb' (by rw [h]; decide))
        refine And.intro (fun hs => ?_) (fun hs => ?_)
        · have hs : inScope kind r.nodes[i].dep.scope = true := by rw [← hg]; exact hs
          have st1 := stp true (by rw [hb, hs]; rfl)
          simp only [if_pos] at st1
          have hex : (r.nodes.getD ((i : Int)).toNat zFound).dep.excluded.length ≤ 4194304 := by rw [hg]; exact he _ (List.getElem_mem hlt)
          have hol := ofOf_length kind (r.nodes.take i)
          have htl : (r.nodes.take i).length ≤ r.nodes.length := by rw [List.length_take]; omega
          have e1 : (ofOf kind (r.nodes.take (i + 1))).length = (ofOf kind (r.nodes.take i)).length + 1 := by rw [st1]; simp
          refine And.intro rfl ?_
          refine And.intro rfl (And.intro (Nat.le_of_ble_eq_true rfl) ?_)
          refine And.intro rfl (And.intro rfl (And.intro ?_ (And.intro ?_ ?_)))
          · simp only [List.length_map]; omega
          · simp only [List.length_map, maxLen]; omega
          refine Or.inr (And.intro ⟨rfl, rfl, rfl⟩ (And.intro rfl (And.intro (Nat.le_of_ble_eq_true rfl) ?_)))
          refine And.intro rfl ?_
          refine And.intro rfl (And.intro (by decide) (And.intro (by decide) (And.intro rfl (Or.inl ?_))))
          refine And.intro rfl (And.intro ⟨rfl, rfl, rfl, rfl⟩ (And.intro rfl (And.intro ?_ (And.intro ?_ ?_))))
          · show ((ofOf kind (r.nodes.take i)).length + 1) * 128 ≤ _; omega
          · show (ofOf kind (r.nodes.take i)).length + 1 ≤ _; simp only [maxLen]; omega
          refine And.intro rfl (And.intro ⟨by omega, by show (i : Int) + 1 ≤ _; omega⟩ ?_)
          have e2 : ((ofOf kind (r.nodes.take i)).map encDep).take (ofOf kind (r.nodes.take i)).length = (ofOf kind (r.nodes.take i)).map encDep := List.take_of_length_le (by rw [List.length_map]; exact Nat.le_refl _)
          refine ⟨⟨i + 1, hlt⟩, by simp; omega, (Sub.ofL [(1, .int kind), (2, .ptr 0 0), (4, .nils), (5, .int 0), (6, .h 1 (ofOf kind (r.nodes.take (i + 1))).length 0 (ofOf kind (r.nodes.take (i + 1))).length), (7, .int ((i + 1 : Nat) : Int))]
            [.box 26 ((encResolved r).map AV.d), .row (ofOf kind (r.nodes.take (i + 1))).length 35 8 ((ofOf kind (r.nodes.take i)).map encDep ++ [[dstr r.nodes[i].dep.group, dstr r.nodes[i].dep.name, dstr r.nodes[i].dep.version, dstr r.nodes[i].dep.type, dstr r.nodes[i].dep.classifier, dstr r.nodes[i].dep.scope, dbool r.nodes[i].dep.optional, .list 2 (r.nodes[i].dep.excluded.map encExcluded)]])]
            (Nat.zero_le _) ⟨rfl, rfl, rfl, rfl, rfl, rfl, rfl, rfl, ?_, rfl, rfl, rfl, trivial⟩ ?_ rfl).trans ((Sub.row (s := 1) (ys := (ofOf kind (r.nodes.take (i + 1))).map encDep) rfl ?_).trans (Sub.ofL _ _ (Nat.zero_le _) ⟨rfl, rfl, rfl, rfl, rfl, rfl, rfl, rfl, rfl, rfl, rfl, rfl, trivial⟩ rfl rfl))⟩
          · show AV.h 1 ((ofOf kind (r.nodes.take i)).length + 1) 0 ((ofOf kind (r.nodes.take i)).length + 1) = _
            rw [← e1]
          · rw [e1, ← hg]
            show [AO.box 26 ((encResolved r).map AV.d), AO.row ((ofOf kind (r.nodes.take i)).length + 1) 35 8 (((ofOf kind (r.nodes.take i)).map encDep).take (ofOf kind (r.nodes.take i)).length ++ _)] = _
            rw [e2]; rfl
          · rw [st1, List.map_append]
            refine LsLe.app (LsLe.refl _) (And.intro ?_ trivial)
            exact ⟨DLe.refl _, DLe.refl _, DLe.refl _, DLe.refl _, DLe.refl _, DLe.refl _, DLe.refl _, DLe.tl _ rfl, trivial⟩
        · have hs : inScope kind r.nodes[i].dep.scope = false := by rw [← hg]; exact hs
          have st1 := stp false (by rw [hb, hs]; rfl)
          simp only [if_neg (show ¬ (false = true) by decide), List.append_nil] at st1
          refine And.intro rfl (And.intro ⟨by omega, by show (i : Int) + 1 ≤ _; omega⟩ ?_)
          refine ⟨⟨i + 1, hlt⟩, by simp; omega, Sub.ofL _ _ (Nat.zero_le _) ⟨rfl, rfl, rfl, rfl, rfl, rfl, rfl, rfl, ?_, rfl, rfl, rfl, trivial⟩ ?_ rfl⟩
          · show _ = AV.h 1 (ofOf kind (r.nodes.take (i + 1))).length 0 (ofOf kind (r.nodes.take (i + 1))).length
            rw [st1]; rfl
          · show _ = [AO.box 26 ((encResolved r).map AV.d), AO.row (ofOf kind (r.nodes.take (i + 1))).length 35 8 ((ofOf kind (r.nodes.take (i + 1))).map encDep)]
            rw [st1]; rfl
      · have hb' : ¬ ((r.nodes.getD ((i : Int)).toNat zFound).kind == 1) = true := by rw [hg]; exact hb
        apply And.intro
        · exact ltb rfl
        refine And.intro (fun h => absurd h hb') (fun _ => ?_)
        apply And.intro
        · exact ltb rfl
        refine And.intro (fun h => absurd h hb') (fun _ => ?_)
        apply And.intro
        · exact ltb rfl
        refine And.intro (fun h => absurd h hb') (fun _ => ?_)
        apply And.intro
        · exact ltb rfl
        refine And.intro (fun h => absurd h hb') (fun _ => ?_)
        apply And.intro
        · exact ltb rfl
        refine And.intro (fun h => absurd h hb') (fun _ => ?_)
        refine And.intro (fun h => absurd h hb') (fun _ => ?_)
        refine And.intro (fun h => by cases h) (fun _ => ?_)
        have st1 := stp false (by rw [show (r.nodes[i].kind == 1) = false by simpa using hb]; rfl)
        simp only [if_neg (show ¬ (false = true) by decide), List.append_nil] at st1
        refine And.intro rfl (And.intro ⟨by omega, by show (i : Int) + 1 ≤ _; omega⟩ ?_)
        refine ⟨⟨i + 1, hlt⟩, by simp; omega, Sub.ofL _ _ (Nat.zero_le _) ⟨rfl, rfl, rfl, rfl, rfl, rfl, rfl, rfl, ?_, rfl, rfl, rfl, trivial⟩ ?_ rfl⟩
        · show _ = AV.h 1 (ofOf kind (r.nodes.take (i + 1))).length 0 (ofOf kind (r.nodes.take (i + 1))).length
          rw [st1]; rfl
        · show _ = [AO.box 26 ((encResolved r).map AV.d), AO.row (ofOf kind (r.nodes.take (i + 1))).length 35 8 ((ofOf kind (r.nodes.take (i + 1))).map encDep)]
          rw [st1]; rfl
    · have h0 : r.nodes.take i = r.nodes := List.take_of_length_le (by
        have : ¬ i < r.nodes.length := by simpa using h
        omega)
      refine vc_sound tabOk (by kernel_rfl) ?_
      refine And.intro ⟨rfl, rfl, (List.length_map _).symm⟩ (And.intro (DLe.tl _ ?_) (And.intro (DLe.refl _) trivial))
      show List.map encDep (ofOf kind (r.nodes.take i)) = _
      rw [h0]
end Go.Proofs.Nw.K
end
section
/- K21: regions whose order is open and that end with operations that come after all others: these may turn own things. -/
open Go Go.RowKit
set_option linter.unusedVariables false
set_option linter.unusedSimpArgs false
namespace Go.Proofs.Nw.K

/-- what stands, step by step, ahead of these -/
def downS (md : Region.Mode) (ops : List Oper) : Nat → List Nat → List Nat
  | 0, S => S
  | k + 1, S => downS md ops k (match S.contains k with
    | true => (match ops[k]? with
      | some o => ((o.after.toList.filter (Region.binds md)).map (·.on)) ++ S
      | none => S)
    | false => S)

/-- all earlier ones stand ahead of this one -/
def soloAt (md : Region.Mode) (ops : List Oper) (j : Nat) : Bool :=
  match ops[j]? with
  | some o => let S := downS md ops j ((o.after.toList.filter (Region.binds md)).map (·.on)); (List.range j).all S.contains
  | none => true

def backAt (md : Region.Mode) (ops : List Oper) (j : Nat) : Bool :=
  match ops[j]? with
  | some o => (o.after.toList.filter (Region.binds md)).all fun e => decide (e.on < j)
  | none => true

def splitB (N : Fm) (m : Nat) (ops : Array Oper) : Bool :=
  ops.all (fun o => match o.dst with | some d => decide (d < N.n) | none => true) && Region.lexB .any (ops.toList.take m).toArray &&
    decide (m ≤ ops.size) && (List.range ops.size).all (backAt .any ops.toList) && ((List.range ops.size).drop m).all (soloAt .any ops.toList)

section
variable {P : Program} {N : Fm} {md : Region.Mode}

def Closed (md : Region.Mode) (l : List Oper) (listed : Array Bool) : Prop :=
  ∀ (i : Nat) (o : Oper), l[i]? = some o → listed.getD i false = true → ∀ e ∈ o.after, Region.binds md e = true → listed.getD e.on false = true

theorem downS_sound {l : List Oper} {listed : Array Bool} (hc : Closed md l listed) : ∀ (k : Nat) (S : List Nat), (∀ x ∈ S, listed.getD x false = true) → ∀ x ∈ downS md l k S, listed.getD x false = true
  | 0, S, h, x, hx => h x hx
  | k + 1, S, h, x, hx => by
    refine downS_sound hc k _ ?_ x hx
    intro y hy
    split at hy
    · rename_i hk
      split at hy
      · rename_i o ho
        rcases List.mem_append.1 hy with h1 | h1
        · obtain ⟨e, he, rfl⟩ := List.mem_map.1 h1
          obtain ⟨he1, he2⟩ := List.mem_filter.1 he
          exact hc k o ho (h k (by simpa using hk)) e (by simpa using he1) he2
        · exact h y h1
      · exact h y hy
    · exact h y hy

theorem solo_all {l : List Oper} {listed : Array Bool} (hc : Closed md l listed) {j : Nat} {o : Oper} (ho : l[j]? = some o) (hs : soloAt md l j = true)
    (ha : ∀ e ∈ o.after, Region.binds md e = true → listed.getD e.on false = true) : ∀ i, i < j → listed.getD i false = true := by
  intro i hi
  unfold soloAt at hs
  simp only [ho] at hs
  have := List.all_eq_true.1 hs i (List.mem_range.2 hi)
  refine downS_sound hc j _ ?_ i (by simpa using this)
  intro x hx
  obtain ⟨e, he, rfl⟩ := List.mem_map.1 hx
  obtain ⟨he1, he2⟩ := List.mem_filter.1 he
  exact ha e (by simpa using he1) he2

theorem closed_set {l : List Oper} {listed : Array Bool} (hc : Closed md l listed) {i : Nat} (hi : i ∈ Region.ready md l.toArray listed) : Closed md l (listed.setIfInBounds i true) := by
  obtain ⟨h0, o, ho, hall⟩ := mem_ready.1 hi
  intro j oj hoj hj e he hb
  refine getD_set_true ?_
  by_cases hij : i = j
  · subst hij
    have : o = oj := by
      have h1 : l[i]? = some o := by simpa using ho
      rw [h1] at hoj; exact Option.some.inj hoj
    subst this
    exact hall e he hb
  · refine hc j oj hoj ?_ e he hb
    simpa [Array.getElem?_setIfInBounds_ne hij] using hj

theorem WQ_mono {ops : Array Oper} {st : List AO} {K K' : Env → Prop} (hk : ∀ e, K e → K' e) : ∀ {l : List Oper} {env : Env}, WQ P N ops st K l env → WQ P N ops st K' l env
  | [], _, h => hk _ h
  | _ :: _, _, ⟨v, hy, h⟩ => ⟨v, hy, WQ_mono hk h⟩

/-- operations one by one, the last ones -/
def GQ (P : Program) (N : Fm) (ops : Array Oper) : List Oper → Env → List AO → (Env → List AO → Prop) → Prop
  | [], env, st, K => K env st
  | o :: rest, env, st, K => (∀ d, o.dst = some d → d < N.n) ∧ ((guardE (N := N) ops o env true ∧ OpN P o.op (evalE env) st fun v st' => GQ P N ops rest (updO env o.dst v) st' K) ∨
      (guardE (N := N) ops o env false ∧ GQ P N ops rest (updO env o.dst .junk) st K))

theorem list_getD_unlisted {listed : Array Bool} {i : Nat} (h : listed.getD i true = false) : listed.getD i false = false := by
  simp only [Array.getD_eq_getD_getElem?] at *
  cases hx : listed[i]? with
  | none => rfl
  | some b => simpa [hx] using h

theorem runB {l : List Oper} {w0 : World} {σ0 : Sig} {I : Ini} {Q' : Exit → Act → World → Prop} {K : Env → List AO → Prop}
    (hQ : ∀ env st a w, Rel N w0 σ0 I env st a w → K env st → Q' .normal a w)
    (hback : ∀ j, j < l.length → backAt md l j = true) :
    ∀ (r : List Oper) (k f : Nat) (listed : Array Bool) (env : Env) (st : List AO) (a : Act) (w : World), (∀ j, r[j]? = l[k + j]?) → (∀ j, k ≤ j → j < l.length → soloAt md l j = true) → r.length ≤ f → listed.size = l.length → Closed md l listed →
      (∀ i, i < k → listed.getD i false = true) → (∀ i, k ≤ i → i < l.length → listed.getD i true = false) → k ≤ l.length →
      Rel N w0 σ0 I env st a w → GQ P N l.toArray r env st K → wpAny P md l.toArray Q' f listed a w
  | [], k, f, listed, env, st, a, w, hr, hs, hf, hsz, hc, hl, hu, hkl, hrel, h => by
    have hkn : l.length ≤ k := by
      have := (hr 0).symm
      simp only [List.getElem?_nil, Nat.add_zero, List.getElem?_eq_none_iff] at this
      exact this
    have h0 : Region.ready md l.toArray listed = [] := by
      refine List.eq_nil_iff_forall_not_mem.2 fun i hi => ?_
      obtain ⟨h1, o, ho, _⟩ := mem_ready.1 hi
      have hil : i < l.length := by
        have : l[i]? = some o := by simpa using ho
        exact (List.getElem?_eq_some_iff.1 this).1
      have := hl i (by omega)
      rw [list_getD_unlisted h1] at this
      cases this
    cases f with
    | zero => exact ⟨h0, hQ _ _ _ _ hrel h⟩
    | succ f => exact ⟨fun _ => hQ _ _ _ _ hrel h, fun i hi => by rw [h0] at hi; cases hi⟩
  | o :: r, k, f, listed, env, st, a, w, hr, hs, hf, hsz, hc, hl, hu, hkl, hrel, h => by
    have hok : l[k]? = some o := by simpa using (hr 0).symm
    have hklt : k < l.length := (List.getElem?_eq_some_iff.1 hok).1
    cases f with
    | zero => simp at hf
    | succ f =>
      have hkr : k ∈ Region.ready md l.toArray listed := mem_ready.2 ⟨hu k (Nat.le_refl _) hklt, o, by simpa using hok, fun e he hb => hl e.on (by
        have := hback k hklt
        unfold backAt at this
        simp only [hok, List.all_eq_true, List.mem_filter, decide_eq_true_eq] at this
        exact this e ⟨by simpa using he, hb⟩)⟩
      refine ⟨fun h0 => (by rw [h0] at hkr; cases hkr), fun i hi => ?_⟩
      obtain ⟨hi0, oi, hoi, hai⟩ := mem_ready.1 hi
      have hoi' : l[i]? = some oi := by simpa using hoi
      have hilt : i < l.length := (List.getElem?_eq_some_iff.1 hoi').1
      have hik : i = k := by
        by_cases hlt : i < k
        · have := hl i hlt
          rw [list_getD_unlisted hi0] at this
          cases this
        · by_cases hgt : k < i
          · have := solo_all hc hoi' (hs i (by omega) hilt) hai k hgt
            rw [list_getD_unlisted (hu k (Nat.le_refl _) hklt)] at this
            cases this
          · omega
      subst hik
      have next : ∀ (env' : Env) (st' : List AO) (a' : Act) (w' : World), Rel N w0 σ0 I env' st' a' w' → GQ P N l.toArray r env' st' K → wpAny P md l.toArray Q' f (listed.setIfInBounds i true) a' w' := fun env' st' a' w' hrel' h' => by
        refine runB hQ hback r (i + 1) f _ env' st' a' w' (fun j => by have := hr (j + 1); simpa [Nat.add_assoc, Nat.add_comm 1 j] using this) (fun j h1 h2 => hs j (by omega) h2) (by simp at hf; omega) (by simpa using hsz) (closed_set hc hi) ?_ ?_ hklt hrel' h'
        · intro j hj
          by_cases hji : i = j
          · subst hji
            have : i < listed.size := by omega
            simp [Array.getD_eq_getD_getElem?, this]
          · have := hl j (by omega)
            simpa [Array.getElem?_setIfInBounds_ne hji] using this
        · intro j h1 h2
          rw [getD_set_ne true (by omega)]
          exact hu j (by omega) h2
      obtain ⟨hd, hy⟩ := h
      unfold wpOp
      have hoa : l.toArray[i]? = some o := by simpa using hok
      simp only [hoa]
      rcases hy with ⟨hg, ho⟩ | ⟨hg, h'⟩
      · rw [guard_wanted hg hrel]
        simp only [if_true]
        exact .inl (op_wpN ho hd hrel fun v st' a' w' hV hrel' => next _ _ _ _ hrel' hV)
      · rw [guard_wanted hg hrel]
        simp only [Bool.false_eq_true, if_false]
        obtain ⟨g1, g2, hI, σ, gh, hbase, hk0, he⟩ := hrel
        exact next _ _ _ _ (rel_put g1 g2 hI hk0 hbase he o.dst hd (v := .junk) trivial) h'

theorem guardE_more {ops ops' : Array Oper} {o : Oper} {env : Env} {b : Bool} (hm : ∀ (j : Nat) (oj : Oper), ops[j]? = some oj → ops'[j]? = some oj) (h : guardE (N := N) ops o env b) : guardE (N := N) ops' o env b := by
  unfold guardE at *
  cases hg : o.guard with
  | none => simp only [hg] at h ⊢; exact h
  | some g =>
    obtain ⟨j, want⟩ := g
    simp only [hg] at h ⊢
    obtain ⟨oj, d, c, h1, h2⟩ := h
    exact ⟨oj, d, c, hm j oj h1, h2⟩

theorem eOp_more {ops ops' : Array Oper} {st : List AO} {i : Nat} {K : Env → Prop} {env : Env} (hm : ∀ (j : Nat) (oj : Oper), ops[j]? = some oj → ops'[j]? = some oj) (hi : ops[i]? ≠ none) (h : eOp P N ops st i K env) : eOp P N ops' st i K env := by
  unfold eOp at *
  cases ho : ops[i]? with
  | none => exact absurd ho hi
  | some o =>
    rw [hm i o ho]
    simp only [ho] at h
    obtain ⟨v, ⟨h1, h2⟩, h3⟩ := h
    refine ⟨v, ⟨h1, ?_⟩, h3⟩
    rcases h2 with ⟨g, h2⟩ | ⟨g, h2⟩
    · exact .inl ⟨guardE_more hm g, h2⟩
    · exact .inr ⟨guardE_more hm g, h2⟩

theorem exists_least {p : Nat → Prop} [DecidablePred p] : ∀ (m : Nat), (∃ i, i < m ∧ p i) → ∃ i, i < m ∧ p i ∧ ∀ j, j < i → ¬ p j
  | 0, ⟨i, h, _⟩ => absurd h (Nat.not_lt_zero _)
  | m + 1, ⟨i, h, hp⟩ => by
    by_cases he : ∃ i, i < m ∧ p i
    · obtain ⟨j, h1, h2⟩ := exists_least m he
      exact ⟨j, by omega, h2⟩
    · refine ⟨i, h, hp, fun j hj hpj => he ⟨j, by omega, hpj⟩⟩

theorem runA {l : List Oper} {m : Nat} {st : List AO} {w0 : World} {σ0 : Sig} {I : Ini} {Q' : Exit → Act → World → Prop} {K : Env → Prop} (hm : m ≤ l.length)
    (hB : ∀ (f : Nat) (listed : Array Bool) (env : Env) (a : Act) (w : World), l.length - m ≤ f → listed.size = l.length → Closed md l listed → (∀ i, i < m → listed.getD i false = true) → (∀ i, m ≤ i → i < l.length → listed.getD i true = false) →
      Rel N w0 σ0 I env st a w → K env → wpAny P md l.toArray Q' f listed a w)
    (hback : ∀ j, j < l.length → backAt md l j = true) (hs : ∀ j, m ≤ j → j < l.length → soloAt md l j = true) :
    ∀ (f : Nat) (listed lA : Array Bool) (env : Env) (a : Act) (w : World), listed.size = l.length → lA.size = m → (∀ i, i < m → listed[i]? = lA[i]?) → (∀ i, m ≤ i → i < l.length → listed.getD i true = false) → Closed md l listed →
      Rel N w0 σ0 I env st a w → wpAnyE P N md (l.take m).toArray st K f lA env → wpAny P md l.toArray Q' (f + (l.length - m)) listed a w := by
  intro f
  induction f with
  | zero =>
    intro listed lA env a w hsz hszA heq hu hc hrel h
    by_cases hall : ∃ i, i < m ∧ listed.getD i false = false
    · obtain ⟨i, h1, h2, h3⟩ := exists_least m hall
      exfalso
      have : i ∈ Region.ready md (l.take m).toArray lA := by
        refine mem_ready.2 ⟨?_, l[i]'(by omega), ?_, ?_⟩
        · have := heq i h1
          simp only [Array.getD_eq_getD_getElem?] at *
          rw [← this]
          have hi : i < listed.size := by omega
          simp only [Array.getElem?_eq_getElem hi, Option.getD_some] at *
          exact h2
        · have : (l.take m)[i]? = some (l[i]'(by omega)) := by rw [List.getElem?_take_of_lt h1]; exact List.getElem?_eq_getElem _
          simpa using this
        · intro e he hb
          have hlt : e.on < i := by
            have := hback i (by omega)
            unfold backAt at this
            simp only [List.getElem?_eq_getElem (show i < l.length by omega), List.all_eq_true, List.mem_filter, decide_eq_true_eq] at this
            exact this e ⟨by simpa using he, hb⟩
          have h4 := h3 e.on hlt
          simp only [Array.getD_eq_getD_getElem?] at *
          rw [← heq e.on (by omega)]
          simpa using h4
      rw [h.1] at this
      cases this
    · exact hB _ _ _ _ _ (by omega) hsz hc (fun i hi => by
        cases hx : listed.getD i false with
        | true => rfl
        | false => exact absurd ⟨i, hi, hx⟩ hall) hu hrel h.2
  | succ f ih =>
    intro listed lA env a w hsz hszA heq hu hc hrel h
    by_cases hall : ∃ i, i < m ∧ listed.getD i false = false
    · obtain ⟨i0, h1, h2, h3⟩ := exists_least m hall
      have hi0 : i0 ∈ Region.ready md l.toArray listed := by
        refine mem_ready.2 ⟨?_, l[i0]'(by omega), by simp, ?_⟩
        · have hi : i0 < listed.size := by omega
          simp only [Array.getD_eq_getD_getElem?, Array.getElem?_eq_getElem hi, Option.getD_some] at *
          exact h2
        · intro e he hb
          have hlt : e.on < i0 := by
            have := hback i0 (by omega)
            unfold backAt at this
            simp only [List.getElem?_eq_getElem (show i0 < l.length by omega), List.all_eq_true, List.mem_filter, decide_eq_true_eq] at this
            exact this e ⟨by simpa using he, hb⟩
          simpa using h3 e.on hlt
      rw [Nat.succ_add]
      refine ⟨fun h0 => (by rw [h0] at hi0; cases hi0), fun i hi => ?_⟩
      obtain ⟨hin, oi, hoi, hai⟩ := mem_ready.1 hi
      have hoi' : l[i]? = some oi := by simpa using hoi
      have hilt : i < l.length := (List.getElem?_eq_some_iff.1 hoi').1
      have him : i < m := by
        by_cases hge : m ≤ i
        · have := solo_all hc hoi' (hs i hge hilt) hai i0 (by omega)
          rw [h2] at this
          cases this
        · omega
      have htk : (l.take m)[i]? = some oi := by rw [List.getElem?_take_of_lt him]; exact hoi'
      have hiA : i ∈ Region.ready md (l.take m).toArray lA := by
        refine mem_ready.2 ⟨?_, oi, by simpa using htk, ?_⟩
        · simp only [Array.getD_eq_getD_getElem?] at *
          rw [← heq i him]; exact hin
        · intro e he hb
          have hlt : e.on < i := by
            have := hback i hilt
            unfold backAt at this
            simp only [hoi', List.all_eq_true, List.mem_filter, decide_eq_true_eq] at this
            exact this e ⟨by simpa using he, hb⟩
          have := hai e he hb
          simp only [Array.getD_eq_getD_getElem?] at *
          rw [← heq e.on (by omega)]; exact this
      have hE := eOp_more (ops' := l.toArray) (fun j oj hj => by
        have hj' : (l.take m)[j]? = some oj := by simpa using hj
        have hjm : j < (l.take m).length := (List.getElem?_eq_some_iff.1 hj').1
        rw [List.getElem?_take_of_lt (by rw [List.length_take] at hjm; omega)] at hj'
        simpa using hj') (by rw [List.getElem?_toArray, htk]; simp) (h.2 i hiA)
      refine wpOp_of_eOp hrel (fun env' a' w' hrel' hK' => ?_) hE
      refine ih (listed.setIfInBounds i true) (lA.setIfInBounds i true) env' a' w' (by simpa using hsz) (by simpa using hszA) ?_ ?_ (closed_set hc hi) hrel' hK'
      · intro j hj
        simp only [Array.getElem?_setIfInBounds, heq j hj, hsz, hszA]
        by_cases hij : i = j
        · subst hij; simp [hilt, him]
        · simp [hij]
      · intro j hj1 hj2
        rw [getD_set_ne true (by omega)]
        exact hu j hj1 hj2
    · have hrA : Region.ready md (l.take m).toArray lA = [] := by
        refine List.eq_nil_iff_forall_not_mem.2 fun i hi => ?_
        obtain ⟨hx, o, ho, _⟩ := mem_ready.1 hi
        have ho' : (l.take m)[i]? = some o := by simpa using ho
        have him : i < m := by have := (List.getElem?_eq_some_iff.1 ho').1; rw [List.length_take] at this; omega
        refine hall ⟨i, him, ?_⟩
        have := list_getD_unlisted hx
        simp only [Array.getD_eq_getD_getElem?] at *
        rw [heq i him]; exact this
      exact hB _ _ _ _ _ (by omega) hsz hc (fun i hi => by
        cases hx : listed.getD i false with
        | true => rfl
        | false => exact absurd ⟨i, hi, hx⟩ hall) hu hrel (h.1 hrA)

theorem WP_draw2 {env : Env} {st : List AO} {Q : Post} {id : Nat} {l : List Oper} (m : Nat) (hmx : P.follows .mixedOrders = true) (hB : splitB N m l.toArray = true)
    (h : WQ P N (l.take m).toArray st (fun env => GQ P N l.toArray (l.drop m) env st (Q .normal)) (l.take m) env) : WP P N (.region id l.toArray true) env st Q := by
  intro w0 σ0 I a w hr
  simp only [splitB, Bool.and_eq_true, decide_eq_true_eq, List.all_eq_true] at hB
  obtain ⟨⟨⟨⟨hdst, hlex⟩, hm⟩, hback⟩, hsolo⟩ := hB
  have hm' : m ≤ l.length := by simpa using hm
  have hbk : ∀ j, j < l.length → backAt .any l j = true := fun j hj => by simpa using hback j (by simpa using hj)
  have hsl : ∀ j, m ≤ j → j < l.length → soloAt .any l j = true := fun j h1 h2 => by
    refine hsolo j ?_
    rw [List.mem_drop_iff_getElem]
    refine ⟨j - m, by simp; omega, ?_⟩
    simp only [List.getElem_range]
    omega
  simp only [Region.lexB, Bool.and_eq_true] at hlex
  have hr' : Rel N w0 σ0 I env st a { w with drawn := w.drawn + 1 } := by
    obtain ⟨h1, h2, hI, σ, gh, hb, hk, he⟩ := hr
    exact ⟨h1, h2, hI, σ, gh, hb.grown ⟨rfl, rfl, rfl, Nat.le_refl _, fun _ _ _ => rfl⟩, hk, he⟩
  refine wp_region_any hmx ?_
  have hA := wpAnyE_lex (P := P) (N := N) (st := st) (K := fun env => GQ P N l.toArray (l.drop m) env st (Q .normal)) (md := .any) (ops := (l.take m).toArray) (l.take m) 0 (Array.replicate (l.take m).toArray.size false) env (by simp) (by simpa using hlex.2) h
  have hlt : (l.take m).length = m := by rw [List.length_take]; omega
  have hR := runA (P := P) (md := .any) (l := l) (m := m) (st := st) (w0 := w0) (σ0 := σ0) (I := I) (Q' := Lift N w0 σ0 I Q) (K := fun env => GQ P N l.toArray (l.drop m) env st (Q .normal)) hm'
    (fun f listed env a w hf hsz hc hl hu hrel hK => runB (Q' := Lift N w0 σ0 I Q) (K := Q .normal) (fun env st a w hrel hq => ⟨env, st, hrel, hq⟩) hbk (l.drop m) m f listed env st a w (fun j => by rw [List.getElem?_drop]) (fun j h1 h2 => hsl j h1 h2) (by simpa using hf) hsz hc hl hu hm' hrel hK)
    hbk hsl (l.take m).length (Array.replicate l.length false) (Array.replicate m false) env a _ (by simp) (by simp) (fun i hi => by
      rw [Array.getElem?_replicate, Array.getElem?_replicate, if_pos (by omega), if_pos hi]) (fun i h1 h2 => by simp [Array.getD_eq_getD_getElem?, Array.getElem?_replicate, h2]) (fun i o ho hi => by
      have hil : i < l.length := (List.getElem?_eq_some_iff.1 ho).1
      simp [Array.getD_eq_getD_getElem?, Array.getElem?_replicate, hil] at hi) hr' (by simpa [hlt] using hA)
  rw [hlt, Nat.add_sub_cancel' hm'] at hR
  exact hR

end

section
variable {P : Program} {T : Tab} {N : Fm} (hT : TabOk P T)
include hT

theorem vcG_sound {ops : List Oper} : ∀ {l : List Oper} {env : Env} {st : List AO} {K : Env → List AO → Prop}, dstOk N l → vcL P T N ops l env st K → GQ P N ops.toArray l env st K
  | [], env, st, K, _, h => h
  | o :: rest, env, st, K, hd, h => by
    have hd0 : ∀ d, o.dst = some d → d < N.n := hd o (by simp)
    have hdr : dstOk N rest := fun o' ho' => hd o' (by simp [ho'])
    obtain ⟨dst, op, ty, pos, after, guard⟩ := o
    refine ⟨hd0, ?_⟩
    unfold vcL at h
    split at h
    · rename_i hg
      simp only at hg
      subst hg
      exact .inl ⟨rfl, (vcOp2_sound hT h).mono fun v st' h2 => vcG_sound hdr h2⟩
    · rename_i j want hg
      simp only at hg
      subst hg
      split at h
      · rename_i oj hj
        split at h
        · rename_i d hdj
          split at h
          · rename_i b hb
            obtain ⟨hdN, h1, h2⟩ := h
            by_cases e : b = want
            · obtain ⟨v, st', h3, h4⟩ := vcOp_sound hT (h1 e)
              exact .inl ⟨⟨oj, d, b, by simpa using hj, hdj, hdN, hb, by simp [e]⟩, h3.n (vcG_sound hdr h4)⟩
            · exact .inr ⟨⟨oj, d, b, by simpa using hj, hdj, hdN, hb, by simp [e]⟩, vcG_sound hdr (h2 e)⟩
          · exact h.elim
        · exact h.elim
      · exact h.elim

/-- an open region: the first m operations turn nothing; the others come after all ahead of them -/
theorem vc_draw2 {env : Env} {st : List AO} {Q : Post} {id : Nat} {ops : Array Oper} (m : Nat) (hB : splitB N m ops = true)
    (h : vcQ P T N (ops.toList.take m) st (ops.toList.take m) env fun env => vcL P T N ops.toList (ops.toList.drop m) env st (Q .normal)) : WP P N (.region id ops true) env st Q := by
  obtain ⟨l⟩ := ops
  have hd : dstOk N l := fun o ho d hdo => by
    simp only [splitB, Bool.and_eq_true, Array.all_eq_true_iff_forall_mem] at hB
    have := hB.1.1.1.1 o (by simpa using ho)
    rw [hdo] at this
    simpa using this
  refine WP_draw2 m hT.mixed hB ?_
  have := vcQ_sound (N := N) hT (fun o ho => hd o (List.mem_of_mem_take ho)) h
  refine WQ_mono (fun env hk => ?_) this
  exact vcG_sound hT (fun o ho => hd o (List.mem_of_mem_drop ho)) hk
end
end Go.Proofs.Nw.K
end
section
open Go Go.RowKit Go.Proofs
set_option linter.unusedVariables false
set_option linter.unusedSimpArgs false
namespace Go.Proofs.Nw.K

def digB (v : Int) : Str := ⟨([IntKind.u8.wrap (48 + v)].map fun n => UInt8.ofNat n.toNat).toArray⟩

theorem Digits_one (v : Int) (h0 : 0 ≤ v) (h1 : v < 10) : Impl Try.prog 20 [.one (dint v)] [.one (dstr (digB v))] := by
  refine impl_vc tabOk Try.func20 rfl rfl (by exact Nat.le_of_ble_eq_true rfl) (vc_sound tabOk (by kernel_rfl) ?_)
  refine And.intro rfl (And.intro (fun h => ?_) (fun h => ?_))
  · refine And.intro rfl (And.intro ⟨by omega, by omega⟩ ?_)
    refine And.intro rfl ?_
    refine And.intro rfl (And.intro (by decide) (And.intro (by decide) (And.intro rfl (Or.inl ?_))))
    refine And.intro rfl (And.intro rfl (Exists.intro [IntKind.u8.wrap (48 + v)] (And.intro rfl ?_)))
    exact And.intro (DLe.refl _) trivial
  · have h : decide (v < 10) = false := h
    exact absurd (of_decide_eq_false h) (by omega)

def digitsOf (v : Int) : Str := if v < 10 then digB v else digB (v.tdiv 10) ++ digB (v.tmod 10)
theorem digitsOf_size (v : Int) : (digitsOf v).size ≤ 2 := by
  unfold digitsOf
  split
  · exact Nat.le_succ 1
  · rw [ByteArray.size_append]; exact Nat.le_refl 2

theorem Digits_impl (v : Int) (h0 : 0 ≤ v) (h1 : v < 100) : Impl Try.prog 20 [.one (dint v)] [.one (dstr (digitsOf v))] := by
  by_cases hv : v < 10
  · have := Digits_one v h0 hv
    unfold digitsOf; rw [if_pos hv]; exact this
  unfold digitsOf; rw [if_neg hv]
  have hq : 0 ≤ v.tdiv 10 ∧ v.tdiv 10 < 10 := by
    rw [Int.tdiv_eq_ediv_of_nonneg h0]; omega
  have hr : 0 ≤ v.tmod 10 ∧ v.tmod 10 < 10 := by
    rw [Int.tmod_eq_emod_of_nonneg h0]; omega
  refine impl_vc tabOk Try.func20 rfl rfl (by exact Nat.le_of_ble_eq_true rfl) (vc_sound tabOk (by kernel_rfl) ?_)
  refine And.intro rfl (And.intro (fun h => ?_) (fun h => ?_))
  · have h : decide (v < 10) = true := h
    exact absurd (of_decide_eq_true h) hv
  · refine And.intro rfl ?_
    refine And.intro rfl (And.intro (by decide) (And.intro ⟨by omega, by omega⟩ (And.intro rfl ?_)))
    refine And.intro rfl (Exists.intro _ (Exists.intro _ (And.intro (Digits_one (v.tdiv 10) hq.1 hq.2) (And.intro (AsLe.refl _) (And.intro rfl ?_)))))
    refine And.intro rfl ?_
    refine And.intro rfl (And.intro (by decide) (And.intro rfl ?_))
    refine And.intro rfl (And.intro ⟨by omega, by omega⟩ (And.intro rfl ?_))
    refine And.intro rfl (And.intro rfl ?_)
    refine And.intro rfl (And.intro (by decide) (And.intro (by decide) (And.intro rfl (Or.inl (And.intro rfl ?_)))))
    refine And.intro rfl (And.intro rfl (Exists.intro [IntKind.u8.wrap (48 + v.tmod 10)] (And.intro rfl (And.intro rfl ?_))))
    refine And.intro (Nat.le_of_ble_eq_true rfl) (And.intro rfl ?_)
    refine And.intro rfl ?_
    exact And.intro (DLe.refl _) trivial

/-- a number's rest by four, as the law takes it -/
def m4 (n : Int) : Int := IntKind.i64.wrap ((IntKind.u64.wrap n).tmod 4)
theorem m4_ok (n : Int) : 0 ≤ m4 n ∧ m4 n < 4 := by
  have hu : 0 ≤ IntKind.u64.wrap n := by
    simp only [IntKind.wrap, IntKind.signed, IntKind.bits]
    simp
    omega
  have h1 : 0 ≤ (IntKind.u64.wrap n).tmod 4 ∧ (IntKind.u64.wrap n).tmod 4 < 4 := by
    rw [Int.tmod_eq_emod_of_nonneg hu]; omega
  unfold m4
  generalize (IntKind.u64.wrap n).tmod 4 = x at h1
  have : x = 0 ∨ x = 1 ∨ x = 2 ∨ x = 3 := by omega
  rcases this with rfl | rfl | rfl | rfl <;> decide
end Go.Proofs.Nw.K
end
section
/- K22: a cell of one's own box, seen otherwise. -/
open Go Go.RowKit
set_option linter.unusedVariables false
set_option linter.unusedSimpArgs false
namespace Go.Proofs.Nw.K

theorem Sub.cell {N : Fm} {env : Env} {st st1 : List AO} {s i : Nat} {bT : TypeId} {cells : List AV} {a a' : AV} (hst : st[s]? = some (.box bT cells)) (hi : cells[i]? = some a) (hst1 : st1[s]? = some (.box bT cells))
    (h : ∀ w0 σ0 σ gh w u, Base w0 σ0 σ gh st w → RepA σ gh st u a → ∃ σ' gh', Fut w0 σ0 σ gh st σ' gh' st1 w ∧ RepA σ' gh' st1 u a' ∧ gh'[s]? = gh[s]?) :
    Sub N env st env (st1.set s (AO.box bT (cells.set i a'))) := by
  intro w0 σ0 I x w ⟨hs, hd, hI, σ, gh, hb, hk, he⟩
  have hlt : s < gh.length := by rw [hb.len]; exact (List.getElem?_eq_some_iff.1 hst).1
  obtain ⟨g, hg⟩ : ∃ g, gh[s]? = some g := ⟨gh[s], List.getElem?_eq_getElem hlt⟩
  obtain ⟨b, vals, e1, e2, e3, e4, e5, e6, e7⟩ := hb.obj s _ _ hst hg
  have hil : i < vals.size := by rw [e4]; exact (List.getElem?_eq_some_iff.1 hi).1
  have hv : vals[i]? = some vals[i] := Array.getElem?_eq_getElem hil
  obtain ⟨σ', gh', hf, hu, hgg⟩ := h w0 σ0 σ gh w _ hb (e5 i _ _ hv hi)
  have hg' : gh'[s]? = some g := by rw [hgg, hg]
  obtain ⟨b', vals', f1, f2, f3, f4, f5, f6, f7⟩ := hf.base.obj s _ _ hst1 hg'
  have hbb : b' = b := by rw [e1] at f1; simpa using f1.symm
  subst hbb
  have hvv : vals' = vals := by rw [e3] at f3; simpa using f3.symm
  subst hvv
  have keep : ∀ v a, RepA σ' gh' st1 v a → RepA σ' gh' (st1.set s (AO.box bT (cells.set i a'))) v a := fun v a h' => h'.set hst1 _ (fun k' e' sz' xs' heq => by cases heq)
  have := hf.base.turn (w' := w) hst1 hg' (by simp) ⟨rfl, rfl, rfl, Nat.le_refl _, fun _ _ _ => rfl⟩ g (.box bT (cells.set i a')) (fun b hb' => .inl hb')
    ⟨b', vals', f1, f2, f3, by simpa using f4, fun j v c hj hc => by
      rw [set_self hg']
      by_cases hij : i = j
      · subst hij
        have hic : i < cells.length := (List.getElem?_eq_some_iff.1 hi).1
        have : c = a' := by simpa [hic] using hc.symm
        subst this
        rw [hv] at hj
        cases hj
        exact keep _ _ hu
      · rw [List.getElem?_set, if_neg hij] at hc
        exact keep _ _ (f5 j v c hj hc), f6, f7⟩ (by rw [set_self hg']; exact keep)
  rw [set_self hg'] at this
  exact ⟨hs, hd, hI, σ', gh', this.base, fun v a ha => this.keep _ _ (hf.keep _ _ (hk v a ha)), fun t => this.keep _ _ (hf.keep _ _ (he t))⟩

/-- nothing, in a cell, seen as a row of one's own -/
theorem Sub.nilsCell {N : Fm} {env : Env} {st : List AO} {s i : Nat} {bT : TypeId} {cells : List AV} (e sz : Nat) (hst : st[s]? = some (.box bT cells)) (hi : cells[i]? = some .nils) :
    Sub N env st env ((st ++ [AO.row 0 e sz []]).set s (.box bT (cells.set i (.h st.length 0 0 0)))) := by
  have hlt : s < st.length := (List.getElem?_eq_some_iff.1 hst).1
  refine Sub.cell hst hi (by rw [List.getElem?_append_left hlt]; exact hst) fun w0 σ0 σ gh w u hb hu => ?_
  have hu := nils_val hu
  have hf := hb.push (w' := w) ⟨rfl, rfl, rfl, Nat.le_refl _, fun _ _ _ => rfl⟩ (.slice none 0 0) (.row 0 e sz []) (fun b h => by simp [blkOf] at h)
    ⟨[], World.ownsRow_nil w _ e sz, fun i x h => by simp at h, fun i j x d h => by simp at h, fun b h => by simp [blkOf] at h, by simp⟩
  refine ⟨σ, _, hf, ⟨.slice none 0 0, _, by rw [← hb.len]; simp, by simp; rfl, fun k' e' sz' xs' heq => ?_⟩, ?_⟩
  · cases heq
    exact ⟨Nat.le_refl _, fun _ => ⟨by simp, .inl ⟨rfl, rfl, hu⟩⟩⟩
  · rw [List.getElem?_append_left (by rw [hb.len]; exact hlt)]

/-- a row of one's own, in a cell, is given out -/
theorem Sub.shutCell {N : Fm} {env : Env} {st : List AO} {s i r k n e sz : Nat} {bT : TypeId} {cells : List AV} {xs : List (List D)} {d : D} (hst : st[s]? = some (.box bT cells)) (hi : cells[i]? = some (.h r k 0 n)) (hr : st[r]? = some (.row k e sz xs)) (hn : n = xs.length)
    (hd : DLe (.one (.list sz xs)) (.one d)) : Sub N env st env ((st.set r .gone).set s (AO.box bT (cells.set i (.d d)))) := by
  have hne : r ≠ s := fun h => by subst h; rw [hst] at hr; cases hr
  refine Sub.cell hst hi (by rw [List.getElem?_set, if_neg hne]; exact hst) fun w0 σ0 σ gh w u hb hu => ?_
  obtain ⟨g, hg, hR, A, c, hv⟩ := h_val hb hr hu
  obtain ⟨σ', hf, hrep⟩ := seal_row hb hr hg
  refine ⟨σ', gh, hf, ?_, rfl⟩
  refine hd σ' u ?_
  obtain ⟨h0, ⟨a1, a2, a3⟩ | ⟨b, m, c2, a1, a2, ⟨a3, a4, _⟩ | a3⟩⟩ := hR
  · rw [a3]; exact hrep
  · omega
  · subst hn
    obtain ⟨A', c', hgv, hc'⟩ := row_val hb hr hg
    rw [a1] at hgv
    injection hgv with e1 e2 e3
    subst e2
    have : u = g := by rw [a3, a1]; simp
    rw [this]; exact hrep

/-- what holds between two pieces of code, said anew -/
theorem WP_seq_cut {P : Program} {N : Fm} {x y : Code} {env : Env} {st : List AO} {Q : Post} {α : Type} (E : α → Env) (S : α → List AO) (h : WP P N x env st (Then (fun env st => ∃ a, Sub N env st (E a) (S a)) Q)) (k : ∀ a, WP P N y (E a) (S a) Q) : WP P N (.seq x y) env st Q :=
  WP_seq (WP_mono h fun e env st q => by
    cases e with
    | normal => obtain ⟨a, hs⟩ := q; exact WP_sub hs (k a)
    | _ => exact q)

end Go.Proofs.Nw.K
end
section
open Go Go.RowKit Go.Proofs
set_option linter.unusedVariables false
set_option linter.unusedSimpArgs false
namespace Go.Proofs.Nw.K

theorem keyOf_size (d : Dep) : (keyOf d).size ≤ d.wt := by
  have := tyOf_size d
  have h1 : colon.size = 1 := rfl
  simp only [keyOf, app_size, Dep.wt]; omega

theorem coordKey_impl (d : Dep) (h : d.wt ≤ 4194304) : Impl Try.prog 52 [.agg (encDep d)] [.one (dstr (keyOf d))] := by
  have ht := tyOf_size d
  have hw : d.group.size + d.name.size + d.version.size + d.type.size + d.classifier.size + d.scope.size + 9 ≤ 4194304 := by unfold Dep.wt at h; omega
  have h1 : colon.size = 1 := rfl
  refine impl_vc tabOk Try.func52 rfl rfl (by exact Nat.le_of_ble_eq_true rfl) (vc_sound tabOk (by kernel_rfl) ?_)
  repeat refine And.intro rfl ?_
  refine And.intro (by show d.group.size + colon.size ≤ _; omega) ?_
  repeat refine And.intro rfl ?_
  refine And.intro (by show (d.group ++ colon).size + d.name.size ≤ _; rw [app_size]; omega) (And.intro rfl ?_)
  refine And.intro (by show (d.group ++ colon ++ d.name).size + colon.size ≤ _; simp only [app_size]; omega) ?_
  repeat refine And.intro rfl ?_
  refine And.intro (by decide) (And.intro (by decide) (And.intro rfl (Or.inl (And.intro rfl ?_))))
  refine And.intro rfl (Exists.intro _ (Exists.intro _ (And.intro (Or_impl [d.type, jar] (Nat.le_of_ble_eq_true rfl)) (And.intro (And.intro (DLe.tl emp rfl) trivial) (And.intro rfl ?_)))))
  rw [tyOf_or]
  refine And.intro (by show (d.group ++ colon ++ d.name ++ colon).size + (tyOf d).size ≤ _; simp only [app_size]; omega) ?_
  repeat refine And.intro rfl ?_
  refine And.intro (by show (d.group ++ colon ++ d.name ++ colon ++ tyOf d).size + colon.size ≤ _; simp only [app_size]; omega) ?_
  repeat refine And.intro rfl ?_
  refine And.intro (by show (d.group ++ colon ++ d.name ++ colon ++ tyOf d ++ colon).size + d.classifier.size ≤ _; simp only [app_size]; omega) ?_
  repeat refine And.intro rfl ?_
  exact And.intro (DLe.refl _) trivial

theorem refKey05_impl (d : Dep) (h : d.wt ≤ 4194304) : Impl Try.prog 35 [.agg (encDep d)] [.one (dstr (keyOf d))] := by
  have ht := tyOf_size d
  have hw : d.group.size + d.name.size + d.version.size + d.type.size + d.classifier.size + d.scope.size + 9 ≤ 4194304 := by unfold Dep.wt at h; omega
  have h1 : colon.size = 1 := rfl
  refine impl_vc tabOk Try.func35 rfl rfl (by exact Nat.le_of_ble_eq_true rfl) (vc_sound tabOk (by kernel_rfl) ?_)
  repeat refine And.intro rfl ?_
  refine And.intro (by show d.group.size + colon.size ≤ _; omega) ?_
  repeat refine And.intro rfl ?_
  refine And.intro (by show (d.group ++ colon).size + d.name.size ≤ _; rw [app_size]; omega) (And.intro rfl ?_)
  refine And.intro (by show (d.group ++ colon ++ d.name).size + colon.size ≤ _; simp only [app_size]; omega) ?_
  repeat refine And.intro rfl ?_
  refine Exists.intro _ (Exists.intro _ (And.intro (Type_impl d) (And.intro (AsLe.refl _) (And.intro rfl ?_))))
  refine And.intro (by show (d.group ++ colon ++ d.name ++ colon).size + (tyOf d).size ≤ _; simp only [app_size]; omega) ?_
  repeat refine And.intro rfl ?_
  refine And.intro (by show (d.group ++ colon ++ d.name ++ colon ++ tyOf d).size + colon.size ≤ _; simp only [app_size]; omega) ?_
  repeat refine And.intro rfl ?_
  refine And.intro (by show (d.group ++ colon ++ d.name ++ colon ++ tyOf d ++ colon).size + d.classifier.size ≤ _; simp only [app_size]; omega) ?_
  repeat refine And.intro rfl ?_
  exact And.intro (DLe.refl _) trivial

def sImport : Str := ⟨#[105, 109, 112, 111, 114, 116]⟩
def cImport : Str := ⟨#[58, 105, 109, 112, 111, 114, 116]⟩
def ikeyOf (d : Dep) : Str := if d.scope.toList == sImport.toList then keyOf d ++ cImport else keyOf d
theorem ikeyOf_size (d : Dep) : (ikeyOf d).size ≤ d.wt + 7 := by
  have := keyOf_size d
  have h1 : cImport.size = 7 := rfl
  unfold ikeyOf; split
  · rw [app_size]; omega
  · omega

theorem Key_impl (d : Dep) (h : d.wt ≤ 4194304) : Impl Try.prog 28 [.agg (encDep d)] [.one (dstr (ikeyOf d))] := by
  have hk := keyOf_size d
  have h1 : cImport.size = 7 := rfl
  refine impl_vc tabOk Try.func28 rfl rfl (by exact Nat.le_of_ble_eq_true rfl) (vc_sound tabOk (by kernel_rfl) ?_)
  refine And.intro rfl ?_
  refine And.intro rfl (Exists.intro _ (Exists.intro _ (And.intro (coordKey_impl d h) (And.intro (AsLe.refl _) ?_))))
  refine And.intro (fun hb => ?_) (fun hb => ?_)
  · have hb : (d.scope.toList == sImport.toList) = true := hb
    refine And.intro (by show (keyOf d).size + cImport.size ≤ _; omega) ?_
    refine And.intro (DLe.of_eq ?_) trivial
    simp only [ikeyOf, if_pos hb]; rfl
  · have hb : (d.scope.toList == sImport.toList) = false := hb
    refine And.intro (DLe.of_eq ?_) trivial
    simp only [ikeyOf, if_neg (show ¬ (d.scope.toList == sImport.toList) = true by rw [hb]; decide)]

theorem refKey_impl (d : Dep) (h : d.wt ≤ 4194304) : Impl Try.prog 29 [.agg (encDep d)] [.one (dstr (ikeyOf d))] := by
  have hk := keyOf_size d
  have h1 : cImport.size = 7 := rfl
  refine impl_vc tabOk Try.func29 rfl rfl (by exact Nat.le_of_ble_eq_true rfl) (vc_sound tabOk (by kernel_rfl) ?_)
  refine And.intro (fun hb => ?_) (fun hb => ?_)
  · have hb : (d.scope.toList == sImport.toList) = true := hb
    refine And.intro rfl ?_
    refine And.intro rfl (Exists.intro _ (Exists.intro _ (And.intro (refKey05_impl d h) (And.intro (AsLe.refl _) ?_))))
    refine And.intro (by show (keyOf d).size + cImport.size ≤ _; omega) ?_
    refine And.intro (DLe.of_eq ?_) trivial
    simp only [ikeyOf, if_pos hb]; rfl
  · have hb : (d.scope.toList == sImport.toList) = false := hb
    refine And.intro rfl ?_
    refine And.intro rfl (Exists.intro _ (Exists.intro _ (And.intro (refKey05_impl d h) (And.intro (AsLe.refl _) ?_))))
    refine And.intro (DLe.of_eq ?_) trivial
    simp only [ikeyOf, if_neg (show ¬ (d.scope.toList == sImport.toList) = true by rw [hb]; decide)]
end Go.Proofs.Nw.K
end
section
/- L3: the law ClasspathTells. -/
open Go Go.RowKit Go.Proofs
set_option linter.unusedVariables false
set_option linter.unusedSimpArgs false
namespace Go.Proofs.Nw.K

theorem len_le_sum {α : Type} (f : α → Nat) (h : ∀ a, 1 ≤ f a) : ∀ l : List α, l.length ≤ (l.map f).sum
  | [] => by simp
  | a :: r => by have := len_le_sum f h r; have := h a; simp; omega

theorem nodes_ok (r : Resolved) (h : r.wt ≤ 1048576) : r.nodes.length ≤ 4194304 ∧ ∀ n ∈ r.nodes, n.dep.excluded.length ≤ 4194304 := by
  unfold Resolved.wt at h
  have h1 := len_le_sum Found.wt (fun a => by unfold Found.wt; omega) r.nodes
  refine ⟨by omega, fun n hn => ?_⟩
  have h2 := le_sum_of_mem (l := r.nodes.map Found.wt) (a := n.wt) (List.mem_map_of_mem hn)
  have h3 := len_le_sum Excluded.wt (fun a => by unfold Excluded.wt; omega) n.dep.excluded
  have h4 : n.wt = n.dep.wt + 4 := rfl
  unfold Dep.wt at h4
  omega

theorem ofOf_mem (kind : Int) : ∀ (l : List Found) (d : Dep), d ∈ ofOf kind l → ∃ n ∈ l, n.dep = d
  | n :: r, d, h => by
    simp only [ofOf] at h
    split at h
    · rcases List.mem_cons.1 h with rfl | h
      · exact ⟨n, by simp, rfl⟩
      · obtain ⟨m, h1, h2⟩ := ofOf_mem kind r d h; exact ⟨m, by simp [h1], h2⟩
    · obtain ⟨m, h1, h2⟩ := ofOf_mem kind r d h; exact ⟨m, by simp [h1], h2⟩

theorem ClasspathTells_impl (r : Resolved) (kind : Int) (l : List Dep) (_ : r.Ok) (_ : isInt kind) (_ : l.length ≤ maxLen ∧ ∀ s ∈ l, True) (h : r.wt + 1 + ((l.map Dep.wt).sum + 1) ≤ 1048576) :
    Impl Try.prog 3 [.agg (encResolved r), .one (dint kind), .one (dDeps l)] [.one (.sc (.bool true))] := by
  obtain ⟨hn, he⟩ := nodes_ok r (by omega)
  generalize ho : (if goodKind kind then ofOf kind r.nodes else []) = o
  generalize hx : (if goodKind kind then (0 : Int) else 20) = x
  have hol : o.length ≤ 4194304 := by
    subst ho
    split
    · have := ofOf_length kind r.nodes; omega
    · exact Nat.zero_le _
  have hoe : ∀ d ∈ o, d.excluded.length ≤ 4194304 := fun d hd => by
    subst ho
    split at hd
    · obtain ⟨n, h1, rfl⟩ := ofOf_mem kind _ _ hd; exact he n h1
    · simp at hd
  have hOf := Of_impl r kind hn he
  have hCp := refClasspath_impl r kind hn he
  rw [ho, hx] at hOf hCp
  refine impl_vc tabOk Try.func3 rfl rfl (by exact Nat.le_of_ble_eq_true rfl) ?_
  refine WP_seq (vc_sound tabOk (by kernel_rfl) ?_)
  refine WP_seq (vc_sound tabOk (by kernel_rfl) ?_)
  refine And.intro rfl ?_
  cases hlo : decide ((r.nodes.length : Int) > 100) with
  | true =>
    apply And.intro
    · exact ltb rfl
    refine And.intro (fun h => by cases h) (fun _ => ?_)
    apply And.intro
    · exact ltb rfl
    refine And.intro (fun h => by cases h) (fun _ => ?_)
    apply And.intro
    · exact ltb rfl
    refine And.intro (fun h => by cases h) (fun _ => ?_)
    refine And.intro (fun _ => ?_) (fun h => by cases h)
    refine And.intro (fun _ => ?_) (fun h => by cases h)
    refine And.intro rfl (Exists.intro _ (Exists.intro _ (And.intro awake_impl (And.intro (AsLe.refl _) ?_))))
    exact And.intro (DLe.refl _) trivial
  | false =>
    apply And.intro
    · exact ltb rfl
    refine And.intro (fun _ => ?_) (fun h => absurd rfl h)
    apply And.intro
    · exact ltb rfl
    refine And.intro (fun _ => ?_) (fun h => absurd rfl h)
    apply And.intro
    · exact ltb rfl
    refine And.intro (fun _ => And.intro rfl ?_) (fun h => absurd rfl h)
    refine And.intro (fun h => by cases h) (fun _ => ?_)
    refine And.intro (fun h => ?_) (fun hhi => ?_)
    · refine And.intro rfl (Exists.intro _ (Exists.intro _ (And.intro awake_impl (And.intro (AsLe.refl _) ?_))))
      exact And.intro (DLe.refl _) trivial
    refine WP_seq (vc_sound tabOk (by kernel_rfl) ?_)
    refine And.intro rfl ?_
    refine And.intro rfl (Exists.intro _ (Exists.intro _ (And.intro hOf (And.intro (AsLe.refl _) ?_))))
    refine WP_seq (vc_sound tabOk (by kernel_rfl) ?_)
    refine And.intro rfl ?_
    refine And.intro rfl (Exists.intro _ (Exists.intro _ (And.intro hCp (And.intro (AsLe.refl _) ?_))))
    refine WP_sub (Sub.ofL [(2, .d (dDeps l)), (7, .d (dDeps o)), (8, .int x), (9, .d (dDeps o)), (10, .int x)] [] (Nat.zero_le _) ⟨rfl, rfl, rfl, rfl, rfl, rfl, rfl, rfl, rfl, rfl, trivial⟩ rfl rfl) ?_
    refine WP_seq (vc_sound tabOk (by kernel_rfl) ?_)
    refine And.intro rfl (Exists.intro _ (Exists.intro _ (And.intro awake_impl (And.intro (AsLe.refl _) ?_))))
    apply And.intro
    · exact ltb rfl
    refine And.intro (fun _ => ?_) (fun h => absurd rfl h)
    apply And.intro
    · exact ltb rfl
    refine And.intro (fun _ => ?_) (fun h => absurd rfl h)
    apply And.intro
    · exact ltb rfl
    refine And.intro (fun _ => ?_) (fun h => absurd rfl h)
    refine And.intro rfl (Exists.intro _ (Exists.intro _ (And.intro (SameDep_self o hol hoe) (And.intro (AsLe.refl _) ?_))))
    refine And.intro (fun _ => ?_) (fun h => by cases h)
    apply And.intro
    · exact ltb rfl
    refine And.intro (fun _ => ?_) (fun h => absurd rfl h)
    apply And.intro
    · exact ltb rfl
    refine And.intro (fun _ => ?_) (fun h => absurd rfl h)
    apply And.intro
    · exact ltb rfl
    refine And.intro (fun _ => And.intro rfl ?_) (fun h => absurd rfl h)
    refine And.intro (fun _ => ?_) (fun h => by cases h)
    have hxx : (x == x) = true := by simp
    apply And.intro
    · exact ltb rfl
    refine And.intro (fun _ => ?_) (fun h => absurd hxx h)
    apply And.intro
    · exact ltb rfl
    refine And.intro (fun _ => ?_) (fun h => absurd hxx h)
    refine And.intro rfl (Exists.intro _ (Exists.intro _ (And.intro (Lines_impl l (by omega)) (And.intro (AsLe.refl _) ?_))))
    apply And.intro
    · exact ltb rfl
    refine And.intro (fun _ => ?_) (fun h => absurd hxx h)
    apply And.intro
    · exact ltb rfl
    refine And.intro (fun _ => ?_) (fun h => absurd hxx h)
    refine And.intro rfl (Exists.intro _ (Exists.intro _ (And.intro (refLines_impl l (by omega)) (And.intro (AsLe.refl _) ?_))))
    apply And.intro
    · exact ltb rfl
    refine And.intro (fun _ => ?_) (fun h => absurd hxx h)
    refine And.intro (fun _ => ?_) (fun h => absurd (hxx.symm.trans h) (by decide))
    refine WP_ret ?_
    refine And.intro (DLe.of_eq ?_) trivial
    show DV.one (.sc (.bool ((linesOf l).toList == (linesOf l).toList))) = _
    rw [self_str]
end Go.Proofs.Nw.K
end
section
open Go Go.RowKit Go.Proofs
set_option linter.unusedVariables false
set_option linter.unusedSimpArgs false
namespace Go.Proofs.Nw.K

/-- is there one of this key? -/
def hasKey (k : Str) (out : List Dep) : Bool := out.any fun d => decide (k = ikeyOf d)
theorem hasKey_iff {k : Str} {out : List Dep} : hasKey k out = true ↔ ∃ d ∈ out, k = ikeyOf d := by simp [hasKey]
/-- the first one alone of those of one key -/
def stepF (out : List Dep) (d : Dep) : List Dep := if hasKey (ikeyOf d) out = true then out else out ++ [d]
def firstOf (l : List Dep) : List Dep := l.foldl stepF []

theorem firstOf_snoc (l : List Dep) (d : Dep) : firstOf (l ++ [d]) = stepF (firstOf l) d := by simp [firstOf]
theorem foldF_length (l : List Dep) : ∀ out : List Dep, (l.foldl stepF out).length ≤ out.length + l.length := by
  induction l with
  | nil => intro out; exact Nat.le_refl _
  | cons d r ih =>
    intro out
    have h1 := ih (stepF out d)
    have h2 : (stepF out d).length ≤ out.length + 1 := by
      unfold stepF
      split
      · omega
      · simp
    simp only [List.foldl_cons, List.length_cons]; omega
theorem firstOf_length (l : List Dep) : (firstOf l).length ≤ l.length := by
  have := foldF_length l []
  simpa [firstOf] using this

def seenMap (out : List Dep) : List (ByteArray × D) := out.map fun d => (ikeyOf d, dbool true)
theorem seenMap_snoc (out : List Dep) (d : Dep) : seenMap (out ++ [d]) = seenMap out ++ [(ikeyOf d, dbool true)] := by simp [seenMap]
theorem lookD_seen (k : Str) : ∀ out : List Dep, lookD (dbool false) k (seenMap out) = dbool (hasKey k out)
  | [] => rfl
  | d :: r => by
    show (if k = ikeyOf d then dbool true else lookD (dbool false) k (seenMap r)) = _
    rw [lookD_seen k r]
    by_cases h : k = ikeyOf d
    · rw [if_pos h]; simp [hasKey, h]
    · rw [if_neg h]; simp [hasKey, h]
theorem fndD_seen {k : Str} : ∀ {out : List Dep}, ¬ hasKey k out = true → fndD k (seenMap out) = none
  | [], _ => rfl
  | d :: r, h => by
    have h1 : ¬ k = ikeyOf d := fun e => h (hasKey_iff.2 ⟨d, by simp, e⟩)
    have h2 : ¬ hasKey k r = true := fun e => h (by obtain ⟨x, hx, he⟩ := hasKey_iff.1 e; exact hasKey_iff.2 ⟨x, by simp [hx], he⟩)
    show (if k = ikeyOf d then some 0 else (fndD k (seenMap r)).map (· + 1)) = none
    rw [if_neg h1, fndD_seen h2]; rfl
theorem updD_seen {k : Str} {out : List Dep} (h : ¬ hasKey k out = true) : updD k (dbool true) (seenMap out) = seenMap out ++ [(k, dbool true)] := (fndD_none (z := dbool true) (d := dbool true) (fndD_seen h)).2

theorem map95 : mapT Try.prog 95 = some (dbool false) := by kernel_rfl

theorem ex_len {d : Dep} (h : d.wt ≤ 4194304) : d.excluded.length ≤ 4194304 := by
  have h3 := len_le_sum Excluded.wt (fun a => by unfold Excluded.wt; omega) d.excluded
  unfold Dep.wt at h
  omega

theorem First_impl (l : List Dep) (hl : l.length ≤ 4194304) (hw : ∀ d ∈ l, d.wt ≤ 4194304) : Impl Try.prog 31 [.one (dDeps l)] [.one (dDeps (firstOf l))] := by
  refine impl_vc tabOk Try.func31 rfl rfl (by exact Nat.le_of_ble_eq_true rfl) (vc_sound tabOk (by kernel_rfl) ?_)
  refine WP_scope_cut (α := {i : Nat // i ≤ l.length}) 0 (fun i => ofL [(0, .d (dDeps (l.drop i.1))), (2, .nils), (3, .omap 0), (4, .h 1 (firstOf (l.take i.1)).length 0 (firstOf (l.take i.1)).length)])
    (fun i => [.mp ((seenMap (firstOf (l.take i.1))).map strE), .row (firstOf (l.take i.1)).length 35 8 ((firstOf (l.take i.1)).map encDep)]) (fun i => l.length - i.1) (by rfl) ?_ (fun cut => vc_sound tabOk (by kernel_rfl) ?_)
  · rintro ⟨i, hi⟩
    refine vc_sound tabOk (by kernel_rfl) ?_
    refine And.intro rfl (And.intro (fun h => ?_) (fun h => ?_))
    · have h0 : l.drop i = [] := List.eq_nil_of_length_eq_zero (by simpa using h)
      have h1 : l.take i = l := List.take_of_length_le (by have := congrArg List.length h0; simp at this; omega)
      refine And.intro ⟨rfl, rfl, (List.length_map _).symm⟩ (And.intro (DLe.tl _ ?_) trivial)
      show List.map encDep (firstOf (l.take i)) = _
      rw [h1]
    · have hlt : i < l.length := by
        have : ¬ (l.drop i).length = 0 := by simpa using h
        simp at this; omega
      have hd : l.drop i = l[i] :: l.drop (i + 1) := List.drop_eq_getElem_cons hlt
      have hg : (l.drop i).getD 0 zDep = l[i] := by rw [hd]; rfl
      have htk : l.take (i + 1) = l.take i ++ [l[i]] := List.take_succ_eq_append_getElem hlt
      have hwd : ((l.drop i).getD (Int.toNat 0) zDep).wt ≤ 4194304 := by show ((l.drop i).getD 0 zDep).wt ≤ _; rw [hg]; exact hw _ (List.getElem_mem hlt)
      have hlz : (0 : Int) < ((l.drop i).length : Int) := by simp; omega
      have hol := firstOf_length (l.take i)
      have htl : (l.take i).length ≤ l.length := by rw [List.length_take]; omega
      have sl : ∀ (l : List Dep), (l.take l.length).drop 1 = l.drop 1 := fun l => by rw [List.take_length]
      refine And.intro rfl (And.intro (Int.le_refl _) (And.intro hlz ?_))
      refine And.intro (Nat.le_of_ble_eq_true rfl) ?_
      refine And.intro rfl (Exists.intro _ (Exists.intro _ (And.intro (Key_impl ((l.drop i).getD (Int.toNat 0) zDep) hwd) (And.intro (AsLe.refl _) ?_))))
      by_cases hin : hasKey (ikeyOf l[i]) (firstOf (l.take i)) = true
      · refine Exists.intro (dbool false) (Exists.intro (seenMap (firstOf (l.take i))) (Exists.intro (dbool true) (And.intro map95 (And.intro rfl (And.intro ?_ ?_)))))
        · show lookD (dbool false) (ikeyOf ((l.drop i).getD 0 zDep)) _ = _
          rw [hg, lookD_seen, hin]
        refine And.intro (fun h => by cases h) (fun _ => ?_)
        have st1 : firstOf (l.take (i + 1)) = firstOf (l.take i) := by rw [htk, firstOf_snoc, stepF, if_pos hin]
        refine And.intro rfl (And.intro (by decide) (And.intro (by show 1 ≤ (l.drop i).length; simp; omega) (And.intro (Nat.le_refl _) ?_)))
        refine And.intro rfl ⟨⟨i + 1, hlt⟩, by simp; omega, Sub.ofL _ _ (Nat.zero_le _) ⟨?_, rfl, rfl, rfl, rfl, rfl, ?_, rfl, trivial⟩ ?_ rfl⟩
        · show AV.d (dDeps (((l.drop i).take (l.drop i).length).drop 1)) = _
          rw [sl, List.drop_drop]
        · show _ = AV.h 1 (firstOf (l.take (i + 1))).length 0 (firstOf (l.take (i + 1))).length
          rw [st1]; rfl
        · show _ = [AO.mp ((seenMap (firstOf (l.take (i + 1)))).map strE), AO.row (firstOf (l.take (i + 1))).length 35 8 ((firstOf (l.take (i + 1))).map encDep)]
          rw [st1]; rfl
      · have st1 : firstOf (l.take (i + 1)) = firstOf (l.take i) ++ [l[i]] := by rw [htk, firstOf_snoc, stepF, if_neg hin]
        have e1 : (firstOf (l.take (i + 1))).length = (firstOf (l.take i)).length + 1 := by rw [st1]; simp
        refine Exists.intro (dbool false) (Exists.intro (seenMap (firstOf (l.take i))) (Exists.intro (dbool false) (And.intro map95 (And.intro rfl (And.intro ?_ ?_)))))
        · show lookD (dbool false) (ikeyOf ((l.drop i).getD 0 zDep)) _ = _
          rw [hg, lookD_seen, show hasKey (ikeyOf l[i]) (firstOf (l.take i)) = false by simpa using hin]
        refine And.intro (fun _ => ?_) (fun h => by cases h)
        refine Exists.intro (dbool false) (Exists.intro (seenMap (firstOf (l.take i))) (And.intro map95 (And.intro rfl ?_)))
        refine And.intro rfl (And.intro (Int.le_refl _) (And.intro hlz ?_))
        refine And.intro (Nat.le_of_ble_eq_true rfl) ?_
        refine And.intro rfl (And.intro (Nat.le_of_ble_eq_true rfl) ?_)
        refine And.intro rfl (Exists.intro _ (Exists.intro _ (And.intro (Clone_impl ((l.drop i).getD (Int.toNat 0) zDep).excluded (ex_len hwd)) (And.intro (AsLe.refl _) ?_))))
        refine And.intro rfl (And.intro (Nat.le_of_ble_eq_true rfl) ?_)
        refine And.intro rfl ?_
        refine And.intro rfl (And.intro (by decide) (And.intro (by decide) (And.intro rfl (Or.inl ?_))))
        refine And.intro rfl (And.intro ⟨rfl, rfl, rfl, rfl⟩ (And.intro rfl (And.intro ?_ (And.intro ?_ ?_))))
        · show ((firstOf (l.take i)).length + 1) * 128 ≤ _; omega
        · show (firstOf (l.take i)).length + 1 ≤ _; simp only [maxLen]; omega
        refine And.intro rfl (And.intro (by decide) (And.intro (by show 1 ≤ (l.drop i).length; simp; omega) (And.intro (Nat.le_refl _) ?_)))
        refine And.intro rfl ⟨⟨i + 1, hlt⟩, by simp; omega, Sub.ofL _ _ (Nat.zero_le _) ⟨?_, rfl, rfl, rfl, rfl, rfl, ?_, rfl, trivial⟩ ?_ rfl⟩
        · show AV.d (dDeps (((l.drop i).take (l.drop i).length).drop 1)) = _
          rw [sl, List.drop_drop]
        · show AV.h 1 ((firstOf (l.take i)).length + 1) 0 ((firstOf (l.take i)).length + 1) = _
          rw [← e1]
        · show [AO.mp ((updD (ikeyOf ((l.drop i).getD 0 zDep)) (dbool true) (seenMap (firstOf (l.take i)))).map strE), AO.row ((firstOf (l.take i)).length + 1) 35 8 (((firstOf (l.take i)).map encDep).take (firstOf (l.take i)).length ++ [encDep ((l.drop i).getD 0 zDep)])] = _
          have e2 : ((firstOf (l.take i)).map encDep).take (firstOf (l.take i)).length = (firstOf (l.take i)).map encDep := List.take_of_length_le (by rw [List.length_map]; exact Nat.le_refl _)
          rw [hg, e2, ← e1, updD_seen hin]
          show _ = [AO.mp ((seenMap (firstOf (l.take (i + 1)))).map strE), AO.row (firstOf (l.take (i + 1))).length 35 8 ((firstOf (l.take (i + 1))).map encDep)]
          rw [st1, seenMap_snoc]; simp only [List.map_append]; rfl
  · refine cut ⟨0, Nat.zero_le _⟩ _ _ ((Sub.nilsRow 4 35 8 rfl).trans (Sub.ofL _ _ (Nat.zero_le _) ⟨rfl, rfl, rfl, rfl, rfl, rfl, rfl, rfl, trivial⟩ rfl rfl))
end Go.Proofs.Nw.K
end
section
/- B5: slices.SortFunc over a row of one's own of pairs, by their names. -/
set_option linter.unusedVariables false
set_option linter.unusedSimpArgs false
namespace Go.Proofs.Nw.K
open Go Go.Proofs Go.Shelf Go.Lib Go.Sort Go.RowKit

instance : Inhabited Pair := ⟨zPair⟩
def encV (p : Pair) : List Value := [.string p.name, .string p.value]
def cfP (p q : Pair) : Int := strCmp p.name q.name
def sortP (xs : List Pair) : List Pair := (pdq (ltOf cfP) xs.toArray 0 xs.toArray.size (Lib.bitLen xs.toArray.size) true true).toList

theorem ltP (p q : Pair) : ltOf cfP p q = decide (p.name.toList < q.name.toList) := by
  unfold ltOf cfP strCmp
  rw [bytesLess_eq]
  by_cases h : p.name.toList < q.name.toList
  · simp [h]
  · simp only [h, decide_false, Bool.false_or]
    simp only [Bool.false_eq_true, if_false]
    split <;> simp

theorem swoP : SWO (ltOf cfP) where
  irrefl x := by rw [ltP]; simp [List.lt_irrefl]
  trans x y z h1 h2 := by
    rw [ltP] at *
    simp only [decide_eq_true_eq] at *
    exact List.lt_trans h1 h2
  ntrans x y z h1 h2 := by
    rw [ltP] at *
    simp only [decide_eq_false_iff_not, List.not_lt] at *
    exact List.le_trans h2 h1

theorem sortP_facts (xs : List Pair) : (sortP xs).Perm xs ∧ (sortP xs).Pairwise fun a b => ¬ b.name.toList < a.name.toList := by
  obtain ⟨⟨h1, _, h2⟩, h3⟩ := pdq_sorts (ltOf cfP) swoP xs.toArray 0 xs.toArray.size (Lib.bitLen xs.toArray.size) true true (Nat.zero_le _) (Nat.le_refl _) (Or.inl rfl)
  constructor
  · have e1 : ∀ (d : Array Pair) (n : Nat), d.size = n → (d.extract 0 n).toList = d.toList := fun d n h => by subst h; simp
    rw [e1 _ _ h1, e1 _ _ rfl] at h2
    simpa [sortP] using h2
  · rw [List.pairwise_iff_getElem]
    intro i j hi hj hij
    have hsz : (sortP xs).length = xs.toArray.size := by simpa [sortP] using h1
    have := h3 i j (Nat.zero_le _) hij (by omega)
    rw [ltP] at this
    have g : ∀ k (hk : k < (sortP xs).length), (pdq (ltOf cfP) xs.toArray 0 xs.toArray.size (Lib.bitLen xs.toArray.size) true true)[k]! = (sortP xs)[k] := fun k hk => by
      rw [getElem!_pos _ k (by rw [h1]; omega)]
      simp [sortP]
    rw [g i hi, g j hj] at this
    simpa using this

theorem sortP_length (xs : List Pair) : (sortP xs).length = xs.length := (sortP_facts xs).1.length_eq
theorem sortP_nil : sortP [] = [] := List.eq_nil_of_length_eq_zero (sortP_length [])

theorem cmpLays74 (blk off size : Nat) (w : World) : CmpLays Try.prog 74 #[] encV 2 cfP blk off size w :=
  fun _ _ _ _ x y => closure74 x.name x.value y.name y.value _

theorem flat_get (ys : List Pair) (t : Nat) (h : t < ys.length * 2) : (flatK encV 2 ys.toArray)[t]! = (ys.flatMap encV).getD t (.bool false) := by
  rw [get_flatK _ _ _ _ (by simpa using h)]
  have h2 : t / 2 < ys.length := by omega
  rw [getElem!_pos _ (t / 2) (by simpa using h2)]
  have key : ∀ (l : List Pair) (i j : Nat) (hi : i < l.length), j < 2 → (l.flatMap encV).getD (i * 2 + j) (.bool false) = (encV l[i])[j]! := by
    intro l
    induction l with
    | nil => intro i j hi _; simp at hi
    | cons p r ih =>
      intro i j hi hj
      cases i with
      | zero =>
        have : j = 0 ∨ j = 1 := by omega
        rcases this with rfl | rfl <;> rfl
      | succ i =>
        have := ih i j (by simpa using hi) hj
        rw [List.flatMap_cons, List.getElem_cons_succ, ← this]
        simp only [List.getD_eq_getElem?_getD]
        rw [List.getElem?_append_right (by simp [encV]; omega)]
        congr 2
        simp [encV]; omega
  have := key ys (t / 2) (t % 2) h2 (Nat.mod_lt _ (by decide))
  rw [show t / 2 * 2 + t % 2 = t by omega] at this
  rw [this]
  simp

theorem flat_length (ys : List Pair) : (ys.flatMap encV).length = ys.length * 2 := by
  induction ys with
  | nil => rfl
  | cons p r ih => simp [encV, ih]; omega

theorem sortFunc_some {st : List AO} {s k : Nat} {xs : List Pair} (hst : st[s]? = some (.row k 66 2 (xs.map encPair))) (hn : xs.length ≤ 4194304)
    (hnone : ∀ (p : Option Addr) (cap : Nat) (fv : Value) (w : World), Calls Try.prog 73 #[.slice p 0 cap, fv] w fun e w' => e = .returned (.tuple #[]) ∧ w' = w) :
    Eff Try.prog 73 [.h s k 0 xs.length, .v (.one (.sc (.func (.func 74) #[] #[])))] st [] (st.set s (.row k 66 2 ((sortP xs).map encPair))) := by
  intro w0 σ0 σ gh w vs hb hl hvs
  match vs, hl with
  | [v, fv], _ =>
  have h1 := hvs 0 v _ rfl rfl
  have h2 := RepA_sc (hvs 1 fv _ rfl rfl)
  subst h2
  obtain ⟨g, hg, hR, A, c, hv⟩ := h_val hb hst h1
  have hlen : (xs.map encPair).length = xs.length := by simp
  have hvg : v = g := by
    obtain ⟨h0, ⟨a1, a2, a3⟩ | ⟨b', m, c2, a1, a2, ⟨a3, a4, _⟩ | a3⟩⟩ := hR
    · exact a3
    · omega
    · obtain ⟨A', c', hgv, hc'⟩ := row_val hb hst hg
      rw [a1] at hgv
      injection hgv with e1 e2 e3
      rw [a3, a1, e2, hlen]; simp
  subst hvg
  obtain ⟨vals, hown, hsz, hval, huns, hone⟩ := hb.obj s _ _ hst hg
  rw [hlen] at hown
  rcases hown.2 with ⟨e1, e2⟩ | ⟨blk, cap, cur, e1, e2, e3, e4, e5, e6, e7⟩
  · have : xs = [] := List.eq_nil_of_length_eq_zero e2
    subst this
    rw [e1]
    refine (hnone none 0 _ w).mono fun e w' ⟨h3, h4⟩ => ?_
    subst h4
    refine ⟨_, h3, σ, gh, ?_, [], rfl, by simp [RepVs]⟩
    rw [sortP_nil, set_self hst]
    exact .refl hb
  · have hvals : vals = xs.flatMap encV := by
      have hl1 : vals.length = xs.length * 2 := hown.1
      apply List.ext_getElem?
      intro t
      by_cases ht : t < xs.length * 2
      · have hi : t / 2 < xs.length := by omega
        have hx : (xs.map encPair)[t / 2]? = some (encPair xs[t / 2]) := by simp [hi]
        have hj : t % 2 = 0 ∨ t % 2 = 1 := by omega
        have hfl : (xs.flatMap encV)[t]? = some (if t % 2 = 0 then .string xs[t / 2].name else .string xs[t / 2].value) := by
          have h3 := flat_get xs t ht
          rw [get_flatK _ _ _ _ (by simpa using ht), getElem!_pos _ (t / 2) (by simpa using hi)] at h3
          rw [List.getD_eq_getElem?_getD, List.getElem?_eq_getElem (by rw [flat_length]; exact ht)] at h3
          rw [List.getElem?_eq_getElem (by rw [flat_length]; exact ht)]
          simp only [Option.getD_some] at h3
          rw [← h3]
          rcases hj with hj | hj <;> simp [hj, encV]
        rw [hfl]
        rcases hj with hj | hj
        · obtain ⟨u, h3, h4⟩ := hval (t / 2) 0 _ _ hx rfl
          have h4 := RepA_sc (gh := gh) (st := st) (show RepA σ gh st u (.d (dstr xs[t / 2].name)) from h4)
          rw [show t / 2 * 2 + 0 = t by omega] at h3
          rw [h3, h4, if_pos hj]
        · obtain ⟨u, h3, h4⟩ := hval (t / 2) 1 _ _ hx rfl
          have h4 := RepA_sc (gh := gh) (st := st) (show RepA σ gh st u (.d (dstr xs[t / 2].value)) from h4)
          rw [show t / 2 * 2 + 1 = t by omega] at h3
          rw [h3, h4, if_neg (by omega)]
      · rw [List.getElem?_eq_none (by omega), List.getElem?_eq_none (by rw [flat_length]; omega)]
    subst hvals
    subst e1
    have hblk : blk < w.heap.size := (Array.getElem?_eq_some_iff.1 e3).1
    have hH : HoldsK encV 2 w blk 0 xs.toArray := by
      intro j hj
      have hj' : j < xs.length * 2 := by simpa using hj
      have h3 := hown.cellAt j hj'
      have h4 := hown.frozenAt j
      rw [Nat.zero_add]
      refine ⟨?_, h4⟩
      rw [h3, List.getElem?_eq_getElem (by rw [flat_length]; exact hj')]
      have h5 := flat_get xs j hj'
      rw [List.getD_eq_getElem?_getD, List.getElem?_eq_getElem (by rw [flat_length]; exact hj')] at h5
      simp only [Option.getD_some] at h5
      rw [← h5]; rfl
    have eg : ∀ args w, (callFunc 74 args).run Try.prog w = .ok (.enter 74 args) w := enters_of Try.func74 (by kernel_rfl) rfl
    have hcon := AnyQ.slices_SortFunc_eq Try.sortProp 2 Try.isAgg66 Try.sizeOf66 encV (fun _ => rfl) (fun x v hv => by simp [encV] at hv; rcases hv with rfl | rfl <;> rfl) cfP swoP 74 #[] blk 0 cap xs.toArray w eg (cmpLays74 blk 0 xs.toArray.size w) hH hblk (by simp; omega)
    change Calls Try.prog 73 _ _ _ at hcon
    refine hcon.mono fun e w' ⟨h3, m, os, h4⟩ => ?_
    have hps := sortP_length xs
    have hd : pdq (ltOf cfP) xs.toArray 0 xs.toArray.size (Lib.bitLen xs.toArray.size) true true = (sortP xs).toArray := by simp [sortP]
    rw [hd] at h4
    generalize hF : flatK encV 2 (sortP xs).toArray = F at h4
    have hFs : F.size = xs.length * 2 := by rw [← hF]; simp [hps]
    have hw' : w' = grow (mapBlock (Sort.ahead w m) blk (putCells id 0 F)) os := by rw [h4, ← hF]; rfl
    have hmb : ∀ j, (mapBlock (Sort.ahead w m) blk (putCells id 0 F)).heap[j]? = if blk = j then (w.heap[j]?).map (onCells (putCells id 0 F)) else w.heap[j]? := fun j => by
      simp only [mapBlock, Sort.ahead, Array.getElem?_modify]
    have hms : (mapBlock (Sort.ahead w m) blk (putCells id 0 F)).heap.size = w.heap.size := by simp [mapBlock, Sort.ahead]
    have hgrown : w.grownBy w' (some blk) := by
      rw [hw']
      refine ⟨rfl, rfl, rfl, ?_, fun j hj hne => ?_⟩
      · rw [size_grow, hms]; omega
      · rw [heap_grow_old _ _ (by rw [hms]; exact hj), hmb, if_neg (fun h => hne (by rw [h]))]
    have hcell : w'.heap[blk]? = some (.cells (putCells id 0 F cur) 66 (0, 0)) := by
      rw [hw', heap_grow_old _ _ (by rw [hms]; exact hblk), hmb, if_pos rfl, e3]; rfl
    have hpc : (putCells id 0 F cur).size = cur.size := by simp [putCells]
    have hFl : (putCells id 0 F cur).toList.take (xs.length * 2) = (sortP xs).flatMap encV := by
      have h5 : xs.length * 2 ≤ cur.size := by rw [e6]; omega
      apply List.ext_getElem?
      intro t
      by_cases ht : t < xs.length * 2
      · rw [List.getElem?_take_of_lt ht]
        have h6 := flat_get (sortP xs) t (by rw [hps]; exact ht)
        rw [List.getD_eq_getElem?_getD, List.getElem?_eq_getElem (by rw [flat_length, hps]; exact ht)] at h6
        simp only [Option.getD_some] at h6
        rw [List.getElem?_eq_getElem (show t < ((sortP xs).flatMap encV).length by rw [flat_length, hps]; exact ht), ← h6, hF]
        have h7 : t < cur.size := by omega
        simp only [putCells, Array.getElem?_toList, Array.getElem?_mapIdx, Array.getElem?_eq_getElem h7, Option.map_some]
        rw [if_pos ⟨by omega, by omega⟩]; rfl
      · rw [List.getElem?_eq_none (by simp; omega), List.getElem?_eq_none (by rw [flat_length, hps]; omega)]
    have keep : ∀ v a, RepA σ gh st v a → RepA σ gh (st.set s (.row k 66 2 ((sortP xs).map encPair))) v a := fun v a h' => h'.set hst _ (fun k' e' sz' xs' heq => by cases heq; exact ⟨66, xs.map encPair, rfl, by simp [hps]⟩)
    have := hb.turn (w' := w') hst hg (by simp) (by simpa [blkOf] using hgrown) (.slice (some ⟨blk, 0, none⟩) xs.length cap) (.row k 66 2 ((sortP xs).map encPair)) (fun b hb' => .inl hb')
      ⟨(sortP xs).flatMap encV, ⟨by rw [flat_length]; simp, .inr ⟨blk, cap, _, by simp [hps], e2, hcell, by simpa [hps] using e4, e5, by rw [hpc]; exact e6, by rw [List.length_map, hps]; exact hFl⟩⟩,
        fun i x hx => by
          simp only [List.getElem?_map, Option.map_eq_some_iff] at hx
          obtain ⟨p, _, rfl⟩ := hx
          rfl,
        fun i j x d hx hd => by
          simp only [List.getElem?_map, Option.map_eq_some_iff] at hx
          obtain ⟨p, hp, rfl⟩ := hx
          have hi : i < (sortP xs).length := (List.getElem?_eq_some_iff.1 hp).1
          have hj : j = 0 ∨ j = 1 := by
            have := (List.getElem?_eq_some_iff.1 hd).1
            simp [encPair] at this; omega
          have h6 := flat_get (sortP xs) (i * 2 + j) (by omega)
          rw [get_flatK _ _ _ _ (by simp; omega), show (i * 2 + j) / 2 = i by omega, show (i * 2 + j) % 2 = j by omega, getElem!_pos _ i (by simpa using hi)] at h6
          rw [List.getD_eq_getElem?_getD, List.getElem?_eq_getElem (by rw [flat_length]; omega)] at h6
          simp only [Option.getD_some] at h6
          refine ⟨_, List.getElem?_eq_getElem (by rw [flat_length]; omega), ?_⟩
          rw [← h6]
          have hpe : (sortP xs)[i] = p := by rw [List.getElem?_eq_getElem hi] at hp; exact Option.some.inj hp
          rcases hj with rfl | rfl
          · have : d = dstr p.name := by simpa [encPair] using hd.symm
            subst this
            simp only [List.getElem_toArray, hpe]
            exact Rep.sc rfl
          · have : d = dstr p.value := by simpa [encPair] using hd.symm
            subst this
            simp only [List.getElem_toArray, hpe]
            exact Rep.sc rfl,
        huns, fun v hv => by
          obtain ⟨p, _, hp⟩ := List.mem_flatMap.1 hv
          simp only [encV, List.mem_cons, List.not_mem_nil, or_false] at hp
          rcases hp with rfl | rfl <;> rfl⟩
      (by rw [set_self hg]; exact keep)
    rw [set_self hg] at this
    exact ⟨_, h3, σ, gh, this, [], rfl, by simp [RepVs]⟩
end Go.Proofs.Nw.K
end
section
open Go Go.RowKit Go.Proofs
set_option linter.unusedVariables false
set_option linter.unusedSimpArgs false
namespace Go.Proofs.Nw.K

def hasName (k : Str) (out : List Pair) : Bool := out.any fun d => decide (k = d.name)
theorem hasName_iff {k : Str} {out : List Pair} : hasName k out = true ↔ ∃ d ∈ out, k = d.name := by simp [hasName]
def stepN (out : List Pair) (d : Pair) : List Pair := if hasName d.name out = true then out else out ++ [d]
/-- the first one alone of those of one name -/
def foldN (l : List Pair) : List Pair := l.foldl stepN []
/-- .. by rising names -/
def propsOf (l : List Pair) : List Pair := sortP (foldN l)

theorem foldN_snoc (l : List Pair) (d : Pair) : foldN (l ++ [d]) = stepN (foldN l) d := by simp [foldN]
theorem foldN_length' (l : List Pair) : ∀ out : List Pair, (l.foldl stepN out).length ≤ out.length + l.length := by
  induction l with
  | nil => intro out; exact Nat.le_refl _
  | cons d r ih =>
    intro out
    have h1 := ih (stepN out d)
    have h2 : (stepN out d).length ≤ out.length + 1 := by
      unfold stepN
      split
      · omega
      · simp
    simp only [List.foldl_cons, List.length_cons]; omega
theorem foldN_length (l : List Pair) : (foldN l).length ≤ l.length := by
  have := foldN_length' l []
  simpa [foldN] using this
theorem propsOf_length (l : List Pair) : (propsOf l).length ≤ l.length := by
  unfold propsOf
  rw [sortP_length]; exact foldN_length l

def seenN (out : List Pair) : List (ByteArray × D) := out.map fun d => (d.name, dbool true)
theorem seenN_snoc (out : List Pair) (d : Pair) : seenN (out ++ [d]) = seenN out ++ [(d.name, dbool true)] := by simp [seenN]
theorem lookD_seenN (k : Str) : ∀ out : List Pair, lookD (dbool false) k (seenN out) = dbool (hasName k out)
  | [] => rfl
  | d :: r => by
    show (if k = d.name then dbool true else lookD (dbool false) k (seenN r)) = _
    rw [lookD_seenN k r]
    by_cases h : k = d.name
    · rw [if_pos h]; simp [hasName, h]
    · rw [if_neg h]; simp [hasName, h]
theorem fndD_seenN {k : Str} : ∀ {out : List Pair}, ¬ hasName k out = true → fndD k (seenN out) = none
  | [], _ => rfl
  | d :: r, h => by
    have h1 : ¬ k = d.name := fun e => h (hasName_iff.2 ⟨d, by simp, e⟩)
    have h2 : ¬ hasName k r = true := fun e => h (by obtain ⟨x, hx, he⟩ := hasName_iff.1 e; exact hasName_iff.2 ⟨x, by simp [hx], he⟩)
    show (if k = d.name then some 0 else (fndD k (seenN r)).map (· + 1)) = none
    rw [if_neg h1, fndD_seenN h2]; rfl
theorem updD_seenN {k : Str} {out : List Pair} (h : ¬ hasName k out = true) : updD k (dbool true) (seenN out) = seenN out ++ [(k, dbool true)] := (fndD_none (z := dbool true) (d := dbool true) (fndD_seenN h)).2

theorem props_impl0 (l : List Pair) (hl : l.length ≤ 4194304)
    (hnone : ∀ (p : Option Addr) (cap : Nat) (fv : Value) (w : World), Calls Try.prog 73 #[.slice p 0 cap, fv] w fun e w' => e = .returned (.tuple #[]) ∧ w' = w) :
    Impl Try.prog 49 [.one (dPairs l)] [.one (dPairs (propsOf l))] := by
  refine impl_vc tabOk Try.func49 rfl rfl (by exact Nat.le_of_ble_eq_true rfl) ?_
  refine WP_seq (vc_sound tabOk (by kernel_rfl) ?_)
  refine WP_seq (vc_sound tabOk (by kernel_rfl) ?_)
  refine WP_seq (vc_sound tabOk (by kernel_rfl) ?_)
  refine WP_seq_cut (α := Unit) (fun _ => ofL [(4, .h 1 (foldN l).length 0 (foldN l).length)]) (fun _ => [.mp ((seenN (foldN l)).map strE), .row (foldN l).length 66 2 ((foldN l).map encPair)])
    (WP_seq (vc_sound tabOk (by kernel_rfl) ?_)) (fun _ => ?_)
  · refine WP_block (WP_loop (α := {i : Nat // i ≤ l.length}) (fun i => ofL [(3, .omap 0), (4, .h 1 (foldN (l.take i.1)).length 0 (foldN (l.take i.1)).length), (8, .d (dPairs l)), (9, .int (l.length : Int)), (10, .int (i.1 : Int))])
      (fun i => [.mp ((seenN (foldN (l.take i.1))).map strE), .row (foldN (l.take i.1)).length 66 2 ((foldN (l.take i.1)).map encPair)]) (fun i => l.length - i.1) ⟨0, Nat.zero_le _⟩ ?_ ?_)
    · exact (Sub.nilsRow 4 66 2 rfl).trans (Sub.ofL _ _ (Nat.zero_le _) ⟨rfl, rfl, rfl, rfl, rfl, rfl, rfl, rfl, rfl, rfl, trivial⟩ rfl rfl)
    rintro ⟨i, hi⟩
    refine vc_sound tabOk (by kernel_rfl) ?_
    refine And.intro rfl (And.intro (fun h => ?_) (fun h => ?_))
    · have h : decide ((i : Int) < (l.length : Int)) = true := h
      have hlt : i < l.length := by have := of_decide_eq_true h; omega
      have hg : l.getD ((i : Int)).toNat zPair = l[i] := by simp [List.getD, hlt]
      have htk : l.take (i + 1) = l.take i ++ [l[i]] := List.take_succ_eq_append_getElem hlt
      have hol := foldN_length (l.take i)
      have htl : (l.take i).length ≤ l.length := by rw [List.length_take]; omega
      refine And.intro rfl (And.intro (Int.natCast_nonneg _) (And.intro (by show (i : Int) < (l.length : Int); omega) ?_))
      refine And.intro (Nat.le_of_ble_eq_true rfl) ?_
      refine And.intro rfl (And.intro (Nat.le_of_ble_eq_true rfl) ?_)
      by_cases hin : hasName l[i].name (foldN (l.take i)) = true
      · refine Exists.intro (dbool false) (Exists.intro (seenN (foldN (l.take i))) (Exists.intro (dbool true) (And.intro map95 (And.intro rfl (And.intro ?_ ?_)))))
        · show lookD (dbool false) (l.getD ((i : Int)).toNat zPair).name _ = _
          rw [hg, lookD_seenN, hin]
        refine And.intro (fun h => by cases h) (fun _ => ?_)
        have st1 : foldN (l.take (i + 1)) = foldN (l.take i) := by rw [htk, foldN_snoc, stepN, if_pos hin]
        refine And.intro rfl (And.intro ⟨by omega, by show (i : Int) + 1 ≤ _; omega⟩ ?_)
        refine ⟨⟨i + 1, hlt⟩, by show l.length - (i + 1) < l.length - i; omega, Sub.ofL _ _ (Nat.zero_le _) ⟨rfl, rfl, ?_, rfl, rfl, rfl, rfl, rfl, rfl, rfl, trivial⟩ ?_ rfl⟩
        · show _ = AV.h 1 (foldN (l.take (i + 1))).length 0 (foldN (l.take (i + 1))).length
          rw [st1]; rfl
        · show _ = [AO.mp ((seenN (foldN (l.take (i + 1)))).map strE), AO.row (foldN (l.take (i + 1))).length 66 2 ((foldN (l.take (i + 1))).map encPair)]
          rw [st1]; rfl
      · have st1 : foldN (l.take (i + 1)) = foldN (l.take i) ++ [l[i]] := by rw [htk, foldN_snoc, stepN, if_neg hin]
        have e1 : (foldN (l.take (i + 1))).length = (foldN (l.take i)).length + 1 := by rw [st1]; simp
        refine Exists.intro (dbool false) (Exists.intro (seenN (foldN (l.take i))) (Exists.intro (dbool false) (And.intro map95 (And.intro rfl (And.intro ?_ ?_)))))
        · show lookD (dbool false) (l.getD ((i : Int)).toNat zPair).name _ = _
          rw [hg, lookD_seenN, show hasName l[i].name (foldN (l.take i)) = false by simpa using hin]
        refine And.intro (fun _ => ?_) (fun h => by cases h)
        refine Exists.intro (dbool false) (Exists.intro (seenN (foldN (l.take i))) (And.intro map95 (And.intro rfl ?_)))
        refine And.intro rfl ?_
        refine And.intro rfl (And.intro (by decide) (And.intro (by decide) (And.intro rfl (Or.inl ?_))))
        refine And.intro rfl (And.intro ⟨rfl, rfl, rfl, rfl⟩ (And.intro rfl (And.intro ?_ (And.intro ?_ ?_))))
        · show ((foldN (l.take i)).length + 1) * 32 ≤ _; omega
        · show (foldN (l.take i)).length + 1 ≤ _; simp only [maxLen]; omega
        refine And.intro rfl (And.intro ⟨by omega, by show (i : Int) + 1 ≤ _; omega⟩ ?_)
        refine ⟨⟨i + 1, hlt⟩, by show l.length - (i + 1) < l.length - i; omega, Sub.ofL _ _ (Nat.zero_le _) ⟨rfl, rfl, ?_, rfl, rfl, rfl, rfl, rfl, rfl, rfl, trivial⟩ ?_ rfl⟩
        · show AV.h 1 ((foldN (l.take i)).length + 1) 0 ((foldN (l.take i)).length + 1) = _
          rw [← e1]
        · show [AO.mp ((updD (l.getD ((i : Int)).toNat zPair).name (dbool true) (seenN (foldN (l.take i)))).map strE), AO.row ((foldN (l.take i)).length + 1) 66 2 (((foldN (l.take i)).map encPair).take (foldN (l.take i)).length ++ [encPair (l.getD ((i : Int)).toNat zPair)])] = _
          have e2 : ((foldN (l.take i)).map encPair).take (foldN (l.take i)).length = (foldN (l.take i)).map encPair := List.take_of_length_le (by rw [List.length_map]; exact Nat.le_refl _)
          rw [hg, e2, ← e1, updD_seenN hin]
          show _ = [AO.mp ((seenN (foldN (l.take (i + 1)))).map strE), AO.row (foldN (l.take (i + 1))).length 66 2 ((foldN (l.take (i + 1))).map encPair)]
          rw [st1, seenN_snoc]; simp only [List.map_append]; rfl
    · have h : decide ((i : Int) < (l.length : Int)) = false := h
      have h0 : l.take i = l := List.take_of_length_le (by have := of_decide_eq_false h; omega)
      refine ⟨(), Sub.ofL _ _ (Nat.zero_le _) ⟨?_, rfl, trivial⟩ ?_ rfl⟩
      · show AV.h 1 (foldN (l.take i)).length 0 (foldN (l.take i)).length = _
        rw [h0]
      · show [AO.mp ((seenN (foldN (l.take i))).map strE), AO.row (foldN (l.take i)).length 66 2 ((foldN (l.take i)).map encPair)] = _
        rw [h0]
  · have hol := foldN_length l
    refine vc_sound tabOk (by kernel_rfl) ?_
    refine And.intro rfl (Or.inl (Exists.intro _ (Exists.intro _ (And.intro (sortFunc_some (s := 1) (k := (foldN l).length) (xs := foldN l) rfl (by omega) hnone) ?_))))
    refine And.intro ⟨rfl, rfl, ?_⟩ (And.intro (DLe.tl _ ?_) trivial)
    · show (foldN l).length = ((sortP (foldN l)).map encPair).length
      rw [List.length_map, sortP_length]
    · rfl
end Go.Proofs.Nw.K
end
