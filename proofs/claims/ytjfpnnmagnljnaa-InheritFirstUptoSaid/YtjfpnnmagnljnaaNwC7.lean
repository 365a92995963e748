import Derived.Test.YtjfpnnmagnljnaaNwC6
open Go Go.RowKit Go.Proofs
set_option linter.unusedVariables false
set_option linter.unusedSimpArgs false
namespace Go.Proofs.Nw.K

theorem beq_sym (a b : Str) : (a.toList == b.toList) = (b.toList == a.toList) := by rw [str_beq, str_beq]; simp only [eq_comm]

theorem IsScope_impl (s : Str) : Impl Try.prog 43 [.one (dstr s)] [.one (dbool (amongOf s [sCompile, sRuntime, sProvided, sTest]))] := by
  have hA : amongOf s [sCompile, sRuntime, sProvided, sTest] = ((s.toList == sCompile.toList) || ((s.toList == sRuntime.toList) || ((s.toList == sProvided.toList) || (s.toList == sTest.toList)))) := by
    simp only [amongOf, List.any_cons, List.any_nil, Bool.or_false]
    rw [beq_sym sCompile, beq_sym sRuntime, beq_sym sProvided, beq_sym sTest]
  rw [hA]
  refine impl_vc tabOk Try.func43 rfl rfl (by exact Nat.le_of_ble_eq_true rfl) (vc_sound tabOk (by kernel_rfl) ?_)
  cases h1 : (s.toList == sCompile.toList) with
  | true =>
    apply And.intro
    · exact ltb rfl
    refine And.intro (fun h => absurd (h1.symm.trans h) (by decide)) (fun _ => ?_)
    apply And.intro
    · exact ltb rfl
    refine And.intro (fun h => absurd (h1.symm.trans h) (by decide)) (fun _ => ?_)
    refine And.intro (fun _ => ?_) (fun h => absurd (h1.symm.trans h) (by decide))
    apply And.intro
    · exact ltb rfl
    refine And.intro (fun h => by cases h) (fun _ => ?_)
    apply And.intro
    · exact ltb rfl
    refine And.intro (fun h => by cases h) (fun _ => ?_)
    refine And.intro (fun _ => ?_) (fun h => by cases h)
    apply And.intro
    · exact ltb rfl
    refine And.intro (fun h => by cases h) (fun _ => ?_)
    apply And.intro
    · exact ltb rfl
    refine And.intro (fun h => by cases h) (fun _ => ?_)
    refine And.intro (fun _ => ?_) (fun h => by cases h)
    refine And.intro (DLe.of_eq ?_) trivial
    rfl
  | false =>
    cases h2 : (s.toList == sRuntime.toList) with
    | true =>
      apply And.intro
      · exact ltb rfl
      refine And.intro (fun _ => ?_) (fun h => absurd h1 h)
      apply And.intro
      · exact ltb rfl
      refine And.intro (fun _ => ?_) (fun h => absurd h1 h)
      refine And.intro (fun h => absurd (h1.symm.trans h) (by decide)) (fun _ => ?_)
      apply And.intro
      · exact ltb rfl
      refine And.intro (fun h => absurd (h2.symm.trans h) (by decide)) (fun _ => ?_)
      apply And.intro
      · exact ltb rfl
      refine And.intro (fun h => absurd (h2.symm.trans h) (by decide)) (fun _ => ?_)
      refine And.intro (fun _ => ?_) (fun h => absurd (h2.symm.trans h) (by decide))
      apply And.intro
      · exact ltb rfl
      refine And.intro (fun h => by cases h) (fun _ => ?_)
      apply And.intro
      · exact ltb rfl
      refine And.intro (fun h => by cases h) (fun _ => ?_)
      refine And.intro (fun _ => ?_) (fun h => by cases h)
      refine And.intro (DLe.of_eq ?_) trivial
      rfl
    | false =>
      cases h3 : (s.toList == sProvided.toList) with
      | true =>
        apply And.intro
        · exact ltb rfl
        refine And.intro (fun _ => ?_) (fun h => absurd h1 h)
        apply And.intro
        · exact ltb rfl
        refine And.intro (fun _ => ?_) (fun h => absurd h1 h)
        refine And.intro (fun h => absurd (h1.symm.trans h) (by decide)) (fun _ => ?_)
        apply And.intro
        · exact ltb rfl
        refine And.intro (fun _ => ?_) (fun h => absurd h2 h)
        apply And.intro
        · exact ltb rfl
        refine And.intro (fun _ => ?_) (fun h => absurd h2 h)
        refine And.intro (fun h => absurd (h2.symm.trans h) (by decide)) (fun _ => ?_)
        apply And.intro
        · exact ltb rfl
        refine And.intro (fun h => absurd (h3.symm.trans h) (by decide)) (fun _ => ?_)
        apply And.intro
        · exact ltb rfl
        refine And.intro (fun h => absurd (h3.symm.trans h) (by decide)) (fun _ => ?_)
        refine And.intro (fun _ => ?_) (fun h => absurd (h3.symm.trans h) (by decide))
        refine And.intro (DLe.of_eq ?_) trivial
        rfl
      | false =>
        cases h4 : (s.toList == sTest.toList) with
        | true =>
          apply And.intro
          · exact ltb rfl
          refine And.intro (fun _ => ?_) (fun h => absurd h1 h)
          apply And.intro
          · exact ltb rfl
          refine And.intro (fun _ => ?_) (fun h => absurd h1 h)
          refine And.intro (fun h => absurd (h1.symm.trans h) (by decide)) (fun _ => ?_)
          apply And.intro
          · exact ltb rfl
          refine And.intro (fun _ => ?_) (fun h => absurd h2 h)
          apply And.intro
          · exact ltb rfl
          refine And.intro (fun _ => ?_) (fun h => absurd h2 h)
          refine And.intro (fun h => absurd (h2.symm.trans h) (by decide)) (fun _ => ?_)
          apply And.intro
          · exact ltb rfl
          refine And.intro (fun _ => ?_) (fun h => absurd h3 h)
          apply And.intro
          · exact ltb rfl
          refine And.intro (fun _ => ?_) (fun h => absurd h3 h)
          refine And.intro (fun h => absurd (h3.symm.trans h) (by decide)) (fun _ => ?_)
          refine And.intro (DLe.of_eq ?_) trivial
          exact congrArg (fun b => DV.one (dbool b)) h4
        | false =>
          apply And.intro
          · exact ltb rfl
          refine And.intro (fun _ => ?_) (fun h => absurd h1 h)
          apply And.intro
          · exact ltb rfl
          refine And.intro (fun _ => ?_) (fun h => absurd h1 h)
          refine And.intro (fun h => absurd (h1.symm.trans h) (by decide)) (fun _ => ?_)
          apply And.intro
          · exact ltb rfl
          refine And.intro (fun _ => ?_) (fun h => absurd h2 h)
          apply And.intro
          · exact ltb rfl
          refine And.intro (fun _ => ?_) (fun h => absurd h2 h)
          refine And.intro (fun h => absurd (h2.symm.trans h) (by decide)) (fun _ => ?_)
          apply And.intro
          · exact ltb rfl
          refine And.intro (fun _ => ?_) (fun h => absurd h3 h)
          apply And.intro
          · exact ltb rfl
          refine And.intro (fun _ => ?_) (fun h => absurd h3 h)
          refine And.intro (fun h => absurd (h3.symm.trans h) (by decide)) (fun _ => ?_)
          refine And.intro (DLe.of_eq ?_) trivial
          exact congrArg (fun b => DV.one (dbool b)) h4

theorem refIn_impl (kind : Int) (s : Str) : Impl Try.prog 19 [.one (dint kind), .one (dstr s)] [.one (dbool (inScope kind s))] := by
  have h2c : ∀ a b : Str, amongOf s [a, b] = ((s.toList == a.toList) || (s.toList == b.toList)) := fun a b => by
    simp only [amongOf, List.any_cons, List.any_nil, Bool.or_false]
    rw [beq_sym a, beq_sym b]
  refine impl_vc tabOk Try.func19 rfl rfl (by exact Nat.le_of_ble_eq_true rfl) (vc_sound tabOk (by kernel_rfl) ?_)
  refine And.intro rfl (And.intro (fun h => ?_) (fun h2 => ?_))
  · have h : (kind == 2) = true := h
    cases q1 : (s.toList == sCompile.toList) with
    | true =>
      apply And.intro
      · exact ltb rfl
      refine And.intro (fun h => absurd (q1.symm.trans h) (by decide)) (fun _ => ?_)
      apply And.intro
      · exact ltb rfl
      refine And.intro (fun h => absurd (q1.symm.trans h) (by decide)) (fun _ => ?_)
      refine And.intro (fun _ => ?_) (fun h => absurd (q1.symm.trans h) (by decide))
      refine And.intro (DLe.of_eq ?_) trivial
      simp only [inScope, if_pos h, h2c, q1]; rfl
    | false =>
      apply And.intro
      · exact ltb rfl
      refine And.intro (fun _ => ?_) (fun h => absurd q1 h)
      apply And.intro
      · exact ltb rfl
      refine And.intro (fun _ => ?_) (fun h => absurd q1 h)
      refine And.intro (fun h => absurd (q1.symm.trans h) (by decide)) (fun _ => ?_)
      refine And.intro (DLe.of_eq ?_) trivial
      simp only [inScope, if_pos h, h2c, q1]; rfl
  have h2 : ¬ (kind == 2) = true := by have h2 : (kind == 2) = false := h2; rw [h2]; decide
  refine And.intro rfl (And.intro (fun h => ?_) (fun h3 => ?_))
  · have h : (kind == 3) = true := h
    cases q1 : (s.toList == sCompile.toList) with
    | true =>
      apply And.intro
      · exact ltb rfl
      refine And.intro (fun h => absurd (q1.symm.trans h) (by decide)) (fun _ => ?_)
      apply And.intro
      · exact ltb rfl
      refine And.intro (fun h => absurd (q1.symm.trans h) (by decide)) (fun _ => ?_)
      refine And.intro (fun _ => ?_) (fun h => absurd (q1.symm.trans h) (by decide))
      refine And.intro (DLe.of_eq ?_) trivial
      simp only [inScope, if_neg h2, if_pos h, h2c, q1]; rfl
    | false =>
      apply And.intro
      · exact ltb rfl
      refine And.intro (fun _ => ?_) (fun h => absurd q1 h)
      apply And.intro
      · exact ltb rfl
      refine And.intro (fun _ => ?_) (fun h => absurd q1 h)
      refine And.intro (fun h => absurd (q1.symm.trans h) (by decide)) (fun _ => ?_)
      refine And.intro (DLe.of_eq ?_) trivial
      simp only [inScope, if_neg h2, if_pos h, h2c, q1]; rfl
  have h3 : ¬ (kind == 3) = true := by have h3 : (kind == 3) = false := h3; rw [h3]; decide
  refine And.intro rfl (And.intro (fun h => ?_) (fun h4 => ?_))
  · refine And.intro rfl (Exists.intro _ (Exists.intro _ (And.intro (IsScope_impl s) (And.intro (AsLe.refl _) ?_))))
    refine And.intro (DLe.of_eq ?_) trivial
    have h : (kind == 4) = true := h
    simp only [inScope, if_neg h2, if_neg h3, if_pos h]
  have h4 : ¬ (kind == 4) = true := by have h4 : (kind == 4) = false := h4; rw [h4]; decide
  refine And.intro rfl (And.intro (fun h => ?_) (fun h5 => ?_))
  · refine And.intro (DLe.of_eq ?_) trivial
    have h : (kind == 5) = true := h
    simp only [inScope, if_neg h2, if_neg h3, if_neg h4, if_pos h]
    rfl
  · have h5 : ¬ (kind == 5) = true := by have h5 : (kind == 5) = false := h5; rw [h5]; decide
    refine And.intro (DLe.of_eq ?_) trivial
    simp only [inScope, if_neg h2, if_neg h3, if_neg h4, if_neg h5]
    try rfl

end Go.Proofs.Nw.K
