import Derived.Test.YtjfpnnmagnljnaaNwC2
open Go Go.RowKit Go.Proofs
set_option linter.unusedVariables false
set_option linter.unusedSimpArgs false
namespace Go.Proofs.Nw.K

def amongOf (s : Str) (l : List Str) : Bool := l.any fun x => x.toList == s.toList

theorem among_impl (s : Str) (l : List Str) (h : l.length ≤ 4194304) : Impl Try.prog 60 [.one (dstr s), .one (dStrs l)] [.one (dbool (amongOf s l))] := by
  refine impl_vc tabOk Try.func60 rfl rfl (by exact Nat.le_of_ble_eq_true rfl) (vc_sound tabOk (by kernel_rfl) ?_)
  refine WP_scope_cut (α := {x : List Str // x.length ≤ l.length ∧ amongOf s x = amongOf s l}) 0 (fun x => ofL [(0, .str s), (1, .d (dStrs x.1)), (4, .bool false)]) (fun _ => []) (fun x => x.1.length) (by rfl) ?_ (fun cut => ?_)
  · rintro ⟨x, hx, ha⟩
    refine vc_sound tabOk (by kernel_rfl) ?_
    refine And.intro rfl (And.intro (fun h => ?_) (fun h => ?_))
    · refine And.intro (DLe.of_eq ?_) trivial
      have : x = [] := List.eq_nil_of_length_eq_zero (by simpa using h)
      subst this
      rw [← ha]; rfl
    · have hne : 0 < x.length := by
        have : ¬ x.length = 0 := by simpa using h
        omega
      obtain ⟨y, r, rfl⟩ : ∃ y r, x = y :: r := by cases x with | nil => simp at hne | cons y r => exact ⟨y, r, rfl⟩
      refine And.intro rfl (And.intro (Int.le_refl _) (And.intro (by simp) (And.intro (fun h => ?_) (fun h => ?_))))
      · refine And.intro (DLe.of_eq ?_) trivial
        have h : (y.toList == s.toList) = true := h
        rw [← ha]; simp [amongOf, h, cD]
      · have h : (y.toList == s.toList) = false := h
        refine And.intro rfl (And.intro (by decide) (And.intro (by simp) (And.intro (by simp) ?_)))
        refine And.intro rfl ⟨⟨r, by simp at hx ⊢; omega, by rw [← ha]; simp [amongOf, h]⟩, by simp, Sub.ofL _ _ (Nat.zero_le _) ⟨rfl, rfl, ?_, rfl, rfl, rfl, trivial⟩ rfl rfl⟩
        show AV.d (.tl Str 1 encStr emp (((y :: r).take (y :: r).length).drop 1)) = _
        rw [List.take_length]; rfl
  · exact cut ⟨l, Nat.le_refl _, rfl⟩ _ _ (Sub.ofL _ _ (Nat.zero_le _) ⟨rfl, rfl, rfl, rfl, rfl, rfl, trivial⟩ rfl rfl)

def sCompile : Str := ⟨#[99, 111, 109, 112, 105, 108, 101]⟩
def sRuntime : Str := ⟨#[114, 117, 110, 116, 105, 109, 101]⟩
def sProvided : Str := ⟨#[112, 114, 111, 118, 105, 100, 101, 100]⟩
def sTest : Str := ⟨#[116, 101, 115, 116]⟩

theorem Is_impl (s : Str) : Impl Try.prog 61 [.one (dstr s)] [.one (dbool (amongOf s [sCompile, sRuntime, sProvided, sTest]))] := by
  refine impl_vc tabOk Try.func61 rfl rfl (by exact Nat.le_of_ble_eq_true rfl) (vc_sound tabOk (by kernel_rfl) ?_)
  refine And.intro rfl (And.intro (by decide) (And.intro (by decide) (And.intro rfl (Or.inl ?_))))
  refine And.intro rfl (Exists.intro _ (Exists.intro _ (And.intro (among_impl s [sCompile, sRuntime, sProvided, sTest] (Nat.le_of_ble_eq_true rfl)) (And.intro (And.intro (DLe.refl _) (And.intro (DLe.tl _ rfl) trivial)) ?_))))
  exact And.intro (DLe.refl _) trivial

/-- what counts for a command -/
def inScope (kind : Int) (s : Str) : Bool :=
  if kind == 2 then amongOf s [sCompile, sProvided] else if kind == 3 then amongOf s [sCompile, sRuntime] else if kind == 4 then amongOf s [sCompile, sRuntime, sProvided, sTest] else if kind == 5 then s.toList == sProvided.toList else false

theorem In_impl (kind : Int) (s : Str) : Impl Try.prog 36 [.one (dint kind), .one (dstr s)] [.one (dbool (inScope kind s))] := by
  refine impl_vc tabOk Try.func36 rfl rfl (by exact Nat.le_of_ble_eq_true rfl) (vc_sound tabOk (by kernel_rfl) ?_)
  refine And.intro rfl (And.intro (fun h => ?_) (fun h2 => ?_))
  · refine And.intro rfl (And.intro (by decide) (And.intro (by decide) (And.intro rfl (Or.inl ?_))))
    refine And.intro rfl (Exists.intro _ (Exists.intro _ (And.intro (among_impl s [sCompile, sProvided] (Nat.le_of_ble_eq_true rfl)) (And.intro (And.intro (DLe.refl _) (And.intro (DLe.tl _ rfl) trivial)) ?_))))
    refine And.intro (DLe.of_eq ?_) trivial
    have h : (kind == 2) = true := h
    simp only [inScope, if_pos h]
  have h2 : ¬ (kind == 2) = true := by have h2 : (kind == 2) = false := h2; rw [h2]; decide
  refine And.intro rfl (And.intro (fun h => ?_) (fun h3 => ?_))
  · refine And.intro rfl (And.intro (by decide) (And.intro (by decide) (And.intro rfl (Or.inl ?_))))
    refine And.intro rfl (Exists.intro _ (Exists.intro _ (And.intro (among_impl s [sCompile, sRuntime] (Nat.le_of_ble_eq_true rfl)) (And.intro (And.intro (DLe.refl _) (And.intro (DLe.tl _ rfl) trivial)) ?_))))
    refine And.intro (DLe.of_eq ?_) trivial
    have h : (kind == 3) = true := h
    simp only [inScope, if_neg h2, if_pos h]
  have h3 : ¬ (kind == 3) = true := by have h3 : (kind == 3) = false := h3; rw [h3]; decide
  refine And.intro rfl (And.intro (fun h => ?_) (fun h4 => ?_))
  · refine And.intro rfl (Exists.intro _ (Exists.intro _ (And.intro (Is_impl s) (And.intro (AsLe.refl _) ?_))))
    refine And.intro (DLe.of_eq ?_) trivial
    have h : (kind == 4) = true := h
    simp only [inScope, if_neg h2, if_neg h3, if_pos h]
  have h4 : ¬ (kind == 4) = true := by have h4 : (kind == 4) = false := h4; rw [h4]; decide
  refine And.intro rfl (And.intro (fun h => ?_) (fun h5 => ?_))
  · refine And.intro (DLe.of_eq ?_) trivial
    have h : (kind == 5) = true := h
    simp only [inScope, if_neg h2, if_neg h3, if_neg h4, if_pos h]
    rfl
  · have h5 : ¬ (kind == 5) = true := by have h5 : (kind == 5) = false := h5; rw [h5]; decide
    refine And.intro (DLe.of_eq ?_) trivial
    simp only [inScope, if_neg h2, if_neg h3, if_neg h4, if_neg h5]
    try rfl

/-- what is told of the nodes -/
def ofOf (kind : Int) : List Found → List Dep
  | [] => []
  | n :: r => if (n.kind == 1) && inScope kind n.dep.scope then n.dep :: ofOf kind r else ofOf kind r

theorem ofOf_append (kind : Int) (a b : List Found) : ofOf kind (a ++ b) = ofOf kind a ++ ofOf kind b := by
  induction a with
  | nil => rfl
  | cons n r ih => simp only [List.cons_append, ofOf, ih]; split <;> rfl

theorem ofOf_length (kind : Int) (a : List Found) : (ofOf kind a).length ≤ a.length := by
  induction a with
  | nil => simp [ofOf]
  | cons n r ih => simp only [ofOf]; split <;> simp <;> omega

def goodKind (kind : Int) : Bool := kind == 2 || kind == 3 || kind == 4 || kind == 5

end Go.Proofs.Nw.K
