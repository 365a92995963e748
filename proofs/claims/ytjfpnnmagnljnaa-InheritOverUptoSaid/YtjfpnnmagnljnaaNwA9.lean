/- Bundle 9: NwC23, NwL7, NwL10. -/
import Derived.Test.YtjfpnnmagnljnaaNwA8
section
open Go Go.RowKit Go.Proofs
set_option linter.unusedVariables false
set_option linter.unusedSimpArgs false
namespace Go.Proofs.Nw.K

def plParent (c : Coord) : Coord := if (!eqStrs [c.group, c.name, c.version] [emp, emp, emp]) = true then ⟨orS (valueOf c.group) sG, orS (valueOf c.name) sA, orS (valueOf c.version) sOne⟩ else zCoord
def okName (n : Str) : Bool := nameB n && decide ((n.size : Int) ≤ 40)
def stepPl (out : List Pair) (x : Pair) : List Pair := if out.length < 6 then (if (okName x.name && !hasName x.name out) = true then out ++ [⟨x.name, valueOf x.value⟩] else out) else out
def plProps (l : List Pair) : List Pair := l.foldl stepPl []
def plPom (p : Pom) : Pom := ⟨plParent p.parent, valueOf p.group, orS (valueOf p.name) sA, valueOf p.version, valueOf p.packaging, plProps p.props, plDeps p.managed, plDeps p.deps⟩

theorem plProps_snoc (l : List Pair) (x : Pair) : plProps (l ++ [x]) = stepPl (plProps l) x := by simp [plProps]
theorem foldPl_full (l : List Pair) : ∀ out : List Pair, 6 ≤ out.length → l.foldl stepPl out = out := by
  induction l with
  | nil => intro out _; rfl
  | cons x r ih => intro out h; rw [List.foldl_cons, stepPl, if_neg (by omega)]; exact ih out h
theorem plProps_full (l : List Pair) (i : Nat) (h : 6 ≤ (plProps (l.take i)).length) : plProps (l.take i) = plProps l := by
  have : plProps l = (l.drop i).foldl stepPl (plProps (l.take i)) := by
    unfold plProps
    rw [← List.foldl_append, List.take_append_drop]
  rw [this, foldPl_full _ _ h]
theorem foldPl_ok (l : List Pair) : ∀ out : List Pair, (out.length ≤ 6 ∧ out.Pairwise (fun a b => b.name ≠ a.name) ∧ ∀ x ∈ out, x.name.size ≤ 40 ∧ x.value.size ≤ 60) →
    ((l.foldl stepPl out).length ≤ 6 ∧ (l.foldl stepPl out).Pairwise (fun a b => b.name ≠ a.name) ∧ ∀ x ∈ l.foldl stepPl out, x.name.size ≤ 40 ∧ x.value.size ≤ 60) := by
  induction l with
  | nil => intro out h; exact h
  | cons x r ih =>
    intro out h
    refine ih _ ?_
    unfold stepPl
    split
    · split
      · rename_i h6 hk
        simp only [Bool.and_eq_true, Bool.not_eq_true', okName, decide_eq_true_eq] at hk
        refine ⟨by simp; omega, List.pairwise_append.2 ⟨h.2.1, by simp, fun a ha b hb => ?_⟩, fun y hy => ?_⟩
        · have hb : b = ⟨x.name, valueOf x.value⟩ := by simpa using hb
          subst hb
          intro e
          have := hk.2
          rw [hasName_iff.2 ⟨a, ha, e⟩] at this
          cases this
        · rcases List.mem_append.1 hy with hy | hy
          · exact h.2.2 y hy
          · have hy : y = ⟨x.name, valueOf x.value⟩ := by simpa using hy
            subst hy
            exact ⟨by have := hk.1.2; show x.name.size ≤ 40; omega, valueOf_size _⟩
      · exact h
    · exact h
theorem plProps_ok (l : List Pair) : (plProps l).length ≤ 6 ∧ (plProps l).Pairwise (fun a b => b.name ≠ a.name) ∧ ∀ x ∈ plProps l, x.name.size ≤ 40 ∧ x.value.size ≤ 60 :=
  foldPl_ok l [] ⟨Nat.zero_le _, List.Pairwise.nil, fun x hx => by simp at hx⟩

set_option maxHeartbeats 2000000 in
theorem plPom_impl (p : Pom) (hP : p.props.length ≤ 4194304) (hPn : ∀ x ∈ p.props, x.name.size ≤ 4194304) (hMe : ∀ d ∈ p.managed, d.excluded.length ≤ 4194304) (hDe : ∀ d ∈ p.deps, d.excluded.length ≤ 4194304) :
    Impl Try.prog 33 [.agg (encPom p)] [.agg (encPom (plPom p))] := by
  refine impl_vc tabOk Try.func33 rfl rfl (by exact Nat.le_of_ble_eq_true rfl) ?_
  refine WP_seq (vc_sound tabOk (by kernel_rfl) ?_)
  refine WP_sub (Sub.ofL [(1, .ptr 0 0), (2, .ptr 1 0)] [.box 55 ((encPom p).map AV.d), .box 55 [.d (dstr emp), .d (dstr emp), .d (dstr emp), .d (dstr emp), .d (dstr emp), .d (dstr emp), .d (dstr emp), .nils, .nils, .nils]] (Nat.zero_le _) ⟨rfl, rfl, rfl, rfl, trivial⟩ rfl rfl) ?_
  refine WP_seq (vc_draw3 tabOk 21 (List.replicate 20 false ++ [true]) [[.box 55 ((encPom p).map AV.d), .box 55 [.d (dstr emp), .d (dstr emp), .d (dstr emp), .d (dstr emp), .d (dstr emp), .d (dstr emp), .d (dstr emp), .nils, .nils, .nils], .box 55 [.d (dstr emp), .d (dstr emp), .d (dstr emp), .d (dstr emp), .d (dstr emp), .d (dstr emp), .d (dstr emp), .nils, .nils, .nils]]] (by kernel_rfl) ?_)
  refine And.intro rfl (And.intro (And.intro (And.intro rfl rfl) (And.intro (And.intro rfl rfl) trivial)) ?_)
  refine And.intro rfl (And.intro (And.intro (And.intro rfl rfl) (And.intro (And.intro rfl rfl) trivial)) ?_)
  refine And.intro rfl (Exists.intro _ (Exists.intro _ (And.intro (value_impl p.group) (And.intro (AsLe.refl _) (And.intro rfl (And.intro (And.intro (And.intro rfl (Exists.intro _ (Exists.intro _ (And.intro (value_impl p.group) (And.intro (AsLe.refl _) (And.intro rfl rfl)))))) (And.intro (And.intro rfl (Exists.intro _ (Exists.intro _ (And.intro (value_impl p.group) (And.intro (AsLe.refl _) (And.intro rfl rfl)))))) trivial)) ?_))))))
  refine And.intro rfl (And.intro (And.intro (And.intro rfl rfl) (And.intro (And.intro rfl rfl) trivial)) ?_)
  refine And.intro rfl (And.intro (And.intro (And.intro rfl rfl) (And.intro (And.intro rfl rfl) trivial)) ?_)
  refine And.intro rfl (Exists.intro _ (Exists.intro _ (And.intro (value_impl p.name) (And.intro (AsLe.refl _) (And.intro rfl (And.intro (And.intro (And.intro rfl (Exists.intro _ (Exists.intro _ (And.intro (value_impl p.name) (And.intro (AsLe.refl _) (And.intro rfl rfl)))))) (And.intro (And.intro rfl (Exists.intro _ (Exists.intro _ (And.intro (value_impl p.name) (And.intro (AsLe.refl _) (And.intro rfl rfl)))))) trivial)) ?_))))))
  refine And.intro rfl (Exists.intro _ (Exists.intro _ (And.intro (or56_impl (valueOf p.name) sA) (And.intro (AsLe.refl _) (And.intro rfl (And.intro (And.intro (And.intro rfl (Exists.intro _ (Exists.intro _ (And.intro (or56_impl (valueOf p.name) sA) (And.intro (AsLe.refl _) (And.intro rfl rfl)))))) (And.intro (And.intro rfl (Exists.intro _ (Exists.intro _ (And.intro (or56_impl (valueOf p.name) sA) (And.intro (AsLe.refl _) (And.intro rfl rfl)))))) trivial)) ?_))))))
  refine And.intro rfl (And.intro (And.intro (And.intro rfl rfl) (And.intro (And.intro rfl rfl) trivial)) ?_)
  refine And.intro rfl (And.intro (And.intro (And.intro rfl rfl) (And.intro (And.intro rfl rfl) trivial)) ?_)
  refine And.intro rfl (Exists.intro _ (Exists.intro _ (And.intro (value_impl p.version) (And.intro (AsLe.refl _) (And.intro rfl (And.intro (And.intro (And.intro rfl (Exists.intro _ (Exists.intro _ (And.intro (value_impl p.version) (And.intro (AsLe.refl _) (And.intro rfl rfl)))))) (And.intro (And.intro rfl (Exists.intro _ (Exists.intro _ (And.intro (value_impl p.version) (And.intro (AsLe.refl _) (And.intro rfl rfl)))))) trivial)) ?_))))))
  refine And.intro rfl (And.intro (And.intro (And.intro rfl rfl) (And.intro (And.intro rfl rfl) trivial)) ?_)
  refine And.intro rfl (And.intro (And.intro (And.intro rfl rfl) (And.intro (And.intro rfl rfl) trivial)) ?_)
  refine And.intro rfl (Exists.intro _ (Exists.intro _ (And.intro (value_impl p.packaging) (And.intro (AsLe.refl _) (And.intro rfl (And.intro (And.intro (And.intro rfl (Exists.intro _ (Exists.intro _ (And.intro (value_impl p.packaging) (And.intro (AsLe.refl _) (And.intro rfl rfl)))))) (And.intro (And.intro rfl (Exists.intro _ (Exists.intro _ (And.intro (value_impl p.packaging) (And.intro (AsLe.refl _) (And.intro rfl rfl)))))) trivial)) ?_))))))
  refine And.intro rfl (And.intro (And.intro (And.intro rfl rfl) (And.intro (And.intro rfl rfl) trivial)) ?_)
  refine And.intro rfl (And.intro (And.intro (And.intro rfl rfl) (And.intro (And.intro rfl rfl) trivial)) ?_)
  refine And.intro rfl (Exists.intro _ (Exists.intro _ (And.intro (plDeps_impl p.managed hMe) (And.intro (AsLe.refl _) (And.intro rfl (And.intro (And.intro (And.intro rfl (Exists.intro _ (Exists.intro _ (And.intro (plDeps_impl p.managed hMe) (And.intro (AsLe.refl _) (And.intro rfl rfl)))))) (And.intro (And.intro rfl (Exists.intro _ (Exists.intro _ (And.intro (plDeps_impl p.managed hMe) (And.intro (AsLe.refl _) (And.intro rfl rfl)))))) trivial)) ?_))))))
  refine And.intro rfl (And.intro (And.intro (And.intro rfl rfl) (And.intro (And.intro rfl rfl) trivial)) ?_)
  refine And.intro rfl (And.intro (And.intro (And.intro rfl rfl) (And.intro (And.intro rfl rfl) trivial)) ?_)
  refine And.intro rfl (Exists.intro _ (Exists.intro _ (And.intro (plDeps_impl p.deps hDe) (And.intro (AsLe.refl _) (And.intro rfl (And.intro (And.intro (And.intro rfl (Exists.intro _ (Exists.intro _ (And.intro (plDeps_impl p.deps hDe) (And.intro (AsLe.refl _) (And.intro rfl rfl)))))) (And.intro (And.intro rfl (Exists.intro _ (Exists.intro _ (And.intro (plDeps_impl p.deps hDe) (And.intro (AsLe.refl _) (And.intro rfl rfl)))))) trivial)) ?_))))))
  refine And.intro rfl (And.intro (And.intro (And.intro rfl rfl) (And.intro (And.intro rfl rfl) trivial)) ?_)
  refine And.intro rfl ?_
  refine And.intro rfl (And.intro (Nat.le_of_ble_eq_true rfl) ?_)
  refine WP_sub (Sub.ofL [(1, .ptr 0 0), (2, .ptr 1 0), (3, .ptr 2 0)] [.box 55 ((encPom p).map AV.d), .box 55 [.d (dstr emp), .d (dstr emp), .d (dstr emp), .d (dstr emp), .d (dstr emp), .d (dstr emp), .d (dstr emp), .nils, .nils, .nils], .box 55 [.d (dstr emp), .d (dstr emp), .d (dstr emp), .d (dstr (valueOf p.group)), .d (dstr (orS (valueOf p.name) sA)), .d (dstr (valueOf p.version)), .d (dstr (valueOf p.packaging)), .nils, .d (dDeps (plDeps p.managed)), .d (dDeps (plDeps p.deps))]] (Nat.zero_le _) ⟨rfl, rfl, rfl, rfl, rfl, rfl, trivial⟩ rfl rfl) ?_
  refine WP_seq (vc_sound tabOk (by kernel_rfl) ?_)
  refine And.intro rfl ?_
  refine And.intro rfl (And.intro (Nat.le_of_ble_eq_true rfl) ?_)
  refine WP_seq_cut (α := Unit) (fun _ => ofL [(1, .ptr 0 0), (2, .ptr 1 0), (3, .ptr 2 0)]) (fun _ => [.box 55 ((encPom p).map AV.d), .box 55 [.d (dstr emp), .d (dstr emp), .d (dstr emp), .d (dstr emp), .d (dstr emp), .d (dstr emp), .d (dstr emp), .nils, .nils, .nils], .box 55 [.d (dstr (plParent p.parent).group), .d (dstr (plParent p.parent).name), .d (dstr (plParent p.parent).version), .d (dstr (valueOf p.group)), .d (dstr (orS (valueOf p.name) sA)), .d (dstr (valueOf p.version)), .d (dstr (valueOf p.packaging)), .nils, .d (dDeps (plDeps p.managed)), .d (dDeps (plDeps p.deps))]]) (WP_seq (vc_sound tabOk (by kernel_rfl) ?_)) (fun _ => ?_)
  · refine And.intro rfl (And.intro rfl (And.intro rfl ?_))
    have hpd : plParent p.parent = if (!eqStrs [p.parent.group, p.parent.name, p.parent.version] [emp, emp, emp]) = true then ⟨orS (valueOf p.parent.group) sG, orS (valueOf p.parent.name) sA, orS (valueOf p.parent.version) sOne⟩ else zCoord := rfl
    refine WP_cond rfl (fun hb => ?_) (fun hb => WP_skip ?_)
    · have hb : (!eqStrs [p.parent.group, p.parent.name, p.parent.version] [emp, emp, emp]) = true := hb
      rw [if_pos hb] at hpd
      refine vc_draw2 tabOk 14 (by kernel_rfl) ?_
      refine And.intro rfl (And.intro rfl ?_)
      refine And.intro rfl (Exists.intro _ (Exists.intro _ (And.intro (value_impl p.parent.group) (And.intro (AsLe.refl _) (And.intro rfl ?_)))))
      refine And.intro rfl (Exists.intro _ (Exists.intro _ (And.intro (or56_impl (valueOf p.parent.group) sG) (And.intro (AsLe.refl _) (And.intro rfl ?_)))))
      refine And.intro rfl (And.intro rfl ?_)
      refine And.intro rfl (Exists.intro _ (Exists.intro _ (And.intro (value_impl p.parent.name) (And.intro (AsLe.refl _) (And.intro rfl ?_)))))
      refine And.intro rfl (Exists.intro _ (Exists.intro _ (And.intro (or56_impl (valueOf p.parent.name) sA) (And.intro (AsLe.refl _) (And.intro rfl ?_)))))
      refine And.intro rfl (And.intro rfl ?_)
      refine And.intro rfl (Exists.intro _ (Exists.intro _ (And.intro (value_impl p.parent.version) (And.intro (AsLe.refl _) (And.intro rfl ?_)))))
      refine And.intro rfl (Exists.intro _ (Exists.intro _ (And.intro (or56_impl (valueOf p.parent.version) sOne) (And.intro (AsLe.refl _) (And.intro rfl ?_)))))
      refine And.intro rfl (And.intro rfl ?_)
      refine And.intro rfl (And.intro (Nat.le_of_ble_eq_true rfl) ?_)
      refine ⟨(), Sub.ofL _ _ (Nat.zero_le _) ⟨rfl, rfl, rfl, rfl, rfl, rfl, trivial⟩ ?_ rfl⟩
      simp only [hpd]; rfl
    · have hb : (!eqStrs [p.parent.group, p.parent.name, p.parent.version] [emp, emp, emp]) = false := hb
      rw [if_neg (by rw [hb]; decide)] at hpd
      refine ⟨(), Sub.ofL _ _ (Nat.zero_le _) ⟨rfl, rfl, rfl, rfl, rfl, rfl, trivial⟩ ?_ rfl⟩
      simp only [hpd]; rfl
  refine WP_seq_cut (α := {i : Nat // plProps (p.props.take i) = plProps p.props}) (fun _ => ofL [(2, .ptr 1 0), (3, .ptr 2 0)]) (fun i => [.box 55 ((encPom p).map AV.d), .box 55 [.d (dstr emp), .d (dstr emp), .d (dstr emp), .d (dstr emp), .d (dstr emp), .d (dstr emp), .d (dstr emp), .nils, .nils, .nils], .box 55 [.d (dstr (plParent p.parent).group), .d (dstr (plParent p.parent).name), .d (dstr (plParent p.parent).version), .d (dstr (valueOf p.group)), .d (dstr (orS (valueOf p.name) sA)), .d (dstr (valueOf p.version)), .d (dstr (valueOf p.packaging)), .h 3 (plProps (p.props.take i.1)).length 0 (plProps (p.props.take i.1)).length, .d (dDeps (plDeps p.managed)), .d (dDeps (plDeps p.deps))], .row (plProps (p.props.take i.1)).length 66 2 ((plProps (p.props.take i.1)).map encPair)]) (WP_seq (vc_sound tabOk (by kernel_rfl) ?_)) (fun i => ?_)
  · refine WP_block (WP_loop (α := {i : Nat // i ≤ p.props.length}) (fun i => ofL [(1, .ptr 0 0), (2, .ptr 1 0), (3, .ptr 2 0), (5, .int (i.1 : Int))]) (fun i => [.box 55 ((encPom p).map AV.d), .box 55 [.d (dstr emp), .d (dstr emp), .d (dstr emp), .d (dstr emp), .d (dstr emp), .d (dstr emp), .d (dstr emp), .nils, .nils, .nils], .box 55 [.d (dstr (plParent p.parent).group), .d (dstr (plParent p.parent).name), .d (dstr (plParent p.parent).version), .d (dstr (valueOf p.group)), .d (dstr (orS (valueOf p.name) sA)), .d (dstr (valueOf p.version)), .d (dstr (valueOf p.packaging)), .h 3 (plProps (p.props.take i.1)).length 0 (plProps (p.props.take i.1)).length, .d (dDeps (plDeps p.managed)), .d (dDeps (plDeps p.deps))], .row (plProps (p.props.take i.1)).length 66 2 ((plProps (p.props.take i.1)).map encPair)]) (fun i => p.props.length - i.1) ⟨0, Nat.zero_le _⟩ ?_ ?_)
    · exact (Sub.nilsCell (s := 2) (i := 7) 66 2 rfl rfl).trans (Sub.ofL _ _ (Nat.zero_le _) ⟨rfl, rfl, rfl, rfl, rfl, rfl, rfl, rfl, trivial⟩ rfl rfl)
    rintro ⟨i, hi⟩
    have hstep : ∀ (h : i < p.props.length), plProps (p.props.take (i + 1)) = stepPl (plProps (p.props.take i)) p.props[i] := fun h => by rw [List.take_succ_eq_append_getElem h, plProps_snoc]
    have hfull := plProps_full p.props i
    have h0 := plProps_ok (p.props.take i)
    refine WP_seq (vc_sound tabOk (by kernel_rfl) ?_)
    refine And.intro rfl ?_
    cases hc : decide ((i : Int) < (p.props.length : Int)) with
    | false =>
      have hx : plProps (p.props.take i) = plProps p.props := by rw [List.take_of_length_le (by have := of_decide_eq_false hc; omega)]
      apply And.intro
      · exact ltb rfl
      refine And.intro (fun h => by cases h) (fun _ => ?_)
      apply And.intro
      · exact ltb rfl
      refine And.intro (fun h => by cases h) (fun _ => ?_)
      apply And.intro
      · exact ltb rfl
      refine And.intro (fun h => by cases h) (fun _ => ?_)
      apply And.intro
      · exact ltb rfl
      refine And.intro (fun h => by cases h) (fun _ => ?_)
      refine And.intro (fun h => by cases h) (fun _ => ?_)
      refine And.intro (fun h => by cases h) (fun _ => ?_)
      exact ⟨⟨i, hx⟩, Sub.ofL _ _ (Nat.zero_le _) ⟨rfl, rfl, rfl, rfl, trivial⟩ rfl rfl⟩
    | true =>
      have hlt : i < p.props.length := by have := of_decide_eq_true hc; omega
      apply And.intro
      · exact ltb rfl
      refine And.intro (fun _ => ?_) (fun h => absurd rfl h)
      apply And.intro
      · exact ltb rfl
      refine And.intro (fun _ => ?_) (fun h => absurd rfl h)
      apply And.intro
      · exact ltb rfl
      refine And.intro (fun _ => And.intro rfl ?_) (fun h => absurd rfl h)
      apply And.intro
      · exact ltb rfl
      refine And.intro (fun _ => And.intro rfl ?_) (fun h => absurd rfl h)
      refine And.intro (fun _ => ?_) (fun h => by cases h)
      refine And.intro (fun h6 => ?_) (fun h6 => ?_)
      rotate_left
      · have h6 : decide (((plProps (p.props.take i)).length : Int) < 6) = false := h6
        exact ⟨⟨i, hfull (by have := of_decide_eq_false h6; omega)⟩, Sub.ofL _ _ (Nat.zero_le _) ⟨rfl, rfl, rfl, rfl, trivial⟩ rfl rfl⟩
      have h6 : decide (((plProps (p.props.take i)).length : Int) < 6) = true := h6
      have hl6 : (plProps (p.props.take i)).length < 6 := by have := of_decide_eq_true h6; omega
      have hlz : (i : Int) < (p.props.length : Int) := by omega
      have hg : p.props.getD ((i : Int)).toNat zPair = p.props[i] := by simp [List.getD, hlt]
      have hst := hstep hlt
      have hns : p.props[i].name.size ≤ 4194304 := hPn _ (List.getElem_mem hlt)
      refine WP_seq_cut (α := Unit) (fun _ => ofL [(1, .ptr 0 0), (2, .ptr 1 0), (3, .ptr 2 0), (5, .int (i : Int))]) (fun _ => [.box 55 ((encPom p).map AV.d), .box 55 [.d (dstr emp), .d (dstr emp), .d (dstr emp), .d (dstr emp), .d (dstr emp), .d (dstr emp), .d (dstr emp), .nils, .nils, .nils], .box 55 [.d (dstr (plParent p.parent).group), .d (dstr (plParent p.parent).name), .d (dstr (plParent p.parent).version), .d (dstr (valueOf p.group)), .d (dstr (orS (valueOf p.name) sA)), .d (dstr (valueOf p.version)), .d (dstr (valueOf p.packaging)), .h 3 (plProps (p.props.take (i + 1))).length 0 (plProps (p.props.take (i + 1))).length, .d (dDeps (plDeps p.managed)), .d (dDeps (plDeps p.deps))], .row (plProps (p.props.take (i + 1))).length 66 2 ((plProps (p.props.take (i + 1))).map encPair)]) (WP_block ?_) (fun _ => ?_)
      rotate_left
      · refine vc_sound tabOk (by kernel_rfl) ?_
        refine And.intro rfl (And.intro ⟨by omega, by show (i : Int) + 1 ≤ _; omega⟩ ?_)
        exact ⟨⟨i + 1, hlt⟩, by show p.props.length - (i + 1) < p.props.length - i; omega, Sub.ofL _ _ (Nat.zero_le _) ⟨rfl, rfl, rfl, rfl, rfl, rfl, rfl, rfl, trivial⟩ rfl rfl⟩
      rw [hst]
      generalize plProps (p.props.take i) = out at *
      refine WP_sub (Sub.ofL [(1, .ptr 0 0), (2, .ptr 1 0), (3, .ptr 2 0), (5, .int (i : Int))] [.box 55 ((encPom p).map AV.d), .box 55 [.d (dstr emp), .d (dstr emp), .d (dstr emp), .d (dstr emp), .d (dstr emp), .d (dstr emp), .d (dstr emp), .nils, .nils, .nils], .box 55 [.d (dstr (plParent p.parent).group), .d (dstr (plParent p.parent).name), .d (dstr (plParent p.parent).version), .d (dstr (valueOf p.group)), .d (dstr (orS (valueOf p.name) sA)), .d (dstr (valueOf p.version)), .d (dstr (valueOf p.packaging)), .h 3 out.length 0 out.length, .d (dDeps (plDeps p.managed)), .d (dDeps (plDeps p.deps))], .row out.length 66 2 (out.map encPair)] (Nat.zero_le _) ⟨rfl, rfl, rfl, rfl, rfl, rfl, rfl, rfl, trivial⟩ rfl rfl) ?_
      refine WP_seq (vc_sound tabOk (by kernel_rfl) ?_)
      refine And.intro rfl (And.intro (Int.natCast_nonneg _) (And.intro hlz ?_))
      refine WP_sub (Sub.ofL [(1, .ptr 0 0), (2, .ptr 1 0), (3, .ptr 2 0), (5, .int (i : Int)), (6, .str p.props[i].name)] [.box 55 ((encPom p).map AV.d), .box 55 [.d (dstr emp), .d (dstr emp), .d (dstr emp), .d (dstr emp), .d (dstr emp), .d (dstr emp), .d (dstr emp), .nils, .nils, .nils], .box 55 [.d (dstr (plParent p.parent).group), .d (dstr (plParent p.parent).name), .d (dstr (plParent p.parent).version), .d (dstr (valueOf p.group)), .d (dstr (orS (valueOf p.name) sA)), .d (dstr (valueOf p.version)), .d (dstr (valueOf p.packaging)), .h 3 out.length 0 out.length, .d (dDeps (plDeps p.managed)), .d (dDeps (plDeps p.deps))], .row out.length 66 2 (out.map encPair)] (Nat.zero_le _) ⟨rfl, rfl, rfl, rfl, rfl, rfl, rfl, rfl, ?_, rfl, trivial⟩ rfl rfl) ?_
      · show AV.str (p.props.getD ((i : Int)).toNat zPair).name = _
        rw [hg]
      generalize hx : p.props[i] = x at *
      refine WP_seq_cut (α := Unit) (fun _ => ofL [(1, .ptr 0 0), (2, .ptr 1 0), (3, .ptr 2 0), (5, .int (i : Int)), (6, .str x.name), (7, .bool (okName x.name))]) (fun _ => [.box 55 ((encPom p).map AV.d), .box 55 [.d (dstr emp), .d (dstr emp), .d (dstr emp), .d (dstr emp), .d (dstr emp), .d (dstr emp), .d (dstr emp), .nils, .nils, .nils], .box 55 [.d (dstr (plParent p.parent).group), .d (dstr (plParent p.parent).name), .d (dstr (plParent p.parent).version), .d (dstr (valueOf p.group)), .d (dstr (orS (valueOf p.name) sA)), .d (dstr (valueOf p.version)), .d (dstr (valueOf p.packaging)), .h 3 out.length 0 out.length, .d (dDeps (plDeps p.managed)), .d (dDeps (plDeps p.deps))], .row out.length 66 2 (out.map encPair)]) (vc_sound tabOk (by kernel_rfl) ?_) (fun _ => ?_)
      · have hod : okName x.name = (nameB x.name && decide ((x.name.size : Int) ≤ 40)) := rfl
        refine And.intro rfl (Exists.intro _ (Exists.intro _ (And.intro (Name_impl x.name hns) (And.intro (AsLe.refl _) ?_))))
        cases hn : nameB x.name with
        | false =>
          apply And.intro
          · exact ltb rfl
          refine And.intro (fun h => by cases h) (fun _ => ?_)
          apply And.intro
          · exact ltb rfl
          refine And.intro (fun h => by cases h) (fun _ => ?_)
          apply And.intro
          · exact ltb rfl
          refine And.intro (fun h => by cases h) (fun _ => ?_)
          refine And.intro (fun h => by cases h) (fun _ => ?_)
          refine ⟨(), Sub.ofL _ _ (Nat.zero_le _) ⟨rfl, rfl, rfl, rfl, rfl, rfl, rfl, rfl, rfl, rfl, ?_, rfl, trivial⟩ rfl rfl⟩
          rw [hod, hn]; rfl
        | true =>
          apply And.intro
          · exact ltb rfl
          refine And.intro (fun _ => ?_) (fun h => absurd rfl h)
          apply And.intro
          · exact ltb rfl
          refine And.intro (fun _ => ?_) (fun h => absurd rfl h)
          apply And.intro
          · exact ltb rfl
          refine And.intro (fun _ => And.intro rfl ?_) (fun h => absurd rfl h)
          refine And.intro (fun _ => ?_) (fun h => by cases h)
          refine ⟨(), Sub.ofL _ _ (Nat.zero_le _) ⟨rfl, rfl, rfl, rfl, rfl, rfl, rfl, rfl, rfl, rfl, ?_, rfl, trivial⟩ rfl rfl⟩
          rw [hod, hn]; rfl
      refine WP_seq_cut (α := Unit) (fun _ => ofL [(1, .ptr 0 0), (2, .ptr 1 0), (3, .ptr 2 0), (5, .int (i : Int)), (6, .str x.name), (7, .bool (okName x.name && !hasName x.name out))]) (fun _ => [.box 55 ((encPom p).map AV.d), .box 55 [.d (dstr emp), .d (dstr emp), .d (dstr emp), .d (dstr emp), .d (dstr emp), .d (dstr emp), .d (dstr emp), .nils, .nils, .nils], .box 55 [.d (dstr (plParent p.parent).group), .d (dstr (plParent p.parent).name), .d (dstr (plParent p.parent).version), .d (dstr (valueOf p.group)), .d (dstr (orS (valueOf p.name) sA)), .d (dstr (valueOf p.version)), .d (dstr (valueOf p.packaging)), .h 3 out.length 0 out.length, .d (dDeps (plDeps p.managed)), .d (dDeps (plDeps p.deps))], .row out.length 66 2 (out.map encPair)]) (WP_seq (vc_sound tabOk (by kernel_rfl) ?_)) (fun _ => ?_)
      · refine WP_block (WP_loop (α := {k : Nat // k ≤ out.length}) (fun k => ofL [(1, .ptr 0 0), (2, .ptr 1 0), (3, .ptr 2 0), (5, .int (i : Int)), (6, .str x.name), (7, .bool (okName x.name && !hasName x.name (out.take k.1))), (8, .int (k.1 : Int))]) (fun _ => [.box 55 ((encPom p).map AV.d), .box 55 [.d (dstr emp), .d (dstr emp), .d (dstr emp), .d (dstr emp), .d (dstr emp), .d (dstr emp), .d (dstr emp), .nils, .nils, .nils], .box 55 [.d (dstr (plParent p.parent).group), .d (dstr (plParent p.parent).name), .d (dstr (plParent p.parent).version), .d (dstr (valueOf p.group)), .d (dstr (orS (valueOf p.name) sA)), .d (dstr (valueOf p.version)), .d (dstr (valueOf p.packaging)), .h 3 out.length 0 out.length, .d (dDeps (plDeps p.managed)), .d (dDeps (plDeps p.deps))], .row out.length 66 2 (out.map encPair)]) (fun k => out.length - k.1) ⟨0, Nat.zero_le _⟩ ?_ ?_)
        · refine Sub.ofL _ _ (Nat.zero_le _) ⟨rfl, rfl, rfl, rfl, rfl, rfl, rfl, rfl, rfl, rfl, ?_, rfl, rfl, rfl, trivial⟩ rfl rfl
          show AV.bool (okName x.name) = AV.bool (okName x.name && true)
          rw [Bool.and_true]
        rintro ⟨k, hk⟩
        refine WP_seq (vc_sound tabOk (by kernel_rfl) ?_)
        refine And.intro rfl (And.intro rfl (And.intro (fun h => ?_) (fun h => ?_)))
        rotate_left
        · have h : decide ((k : Int) < (out.length : Int)) = false := h
          obtain rfl : k = out.length := by have := of_decide_eq_false h; omega
          refine ⟨(), Sub.ofL _ _ (Nat.zero_le _) ⟨rfl, rfl, rfl, rfl, rfl, rfl, rfl, rfl, rfl, rfl, ?_, rfl, trivial⟩ rfl rfl⟩
          show AV.bool (okName x.name && !hasName x.name (out.take out.length)) = _
          rw [List.take_length]
        have h : decide ((k : Int) < (out.length : Int)) = true := h
        have hkl : k < out.length := by have := of_decide_eq_true h; omega
        have hkz : (k : Int) < (out.length : Int) := by omega
        have hxk : (out.map encPair)[0 + ((k : Int)).toNat]? = some (encPair out[k]) := by simp [hkl]
        have hh : hasName x.name (out.take (k + 1)) = (hasName x.name (out.take k) || decide (x.name = out[k].name)) := by
          rw [List.take_succ_eq_append_getElem hkl]; unfold hasName; rw [List.any_append]; simp only [List.any_cons, List.any_nil, Bool.or_false]
        refine WP_seq (WP_block (vc_sound tabOk (by kernel_rfl) ?_))
        cases hb : (okName x.name && !hasName x.name (out.take k)) with
        | false =>
          apply And.intro
          · exact ltb rfl
          refine And.intro (fun h => by cases h) (fun _ => ?_)
          apply And.intro
          · exact ltb rfl
          refine And.intro (fun h => by cases h) (fun _ => ?_)
          apply And.intro
          · exact ltb rfl
          refine And.intro (fun h => by cases h) (fun _ => ?_)
          apply And.intro
          · exact ltb rfl
          refine And.intro (fun h => by cases h) (fun _ => ?_)
          apply And.intro
          · exact ltb rfl
          refine And.intro (fun h => by cases h) (fun _ => ?_)
          apply And.intro
          · exact ltb rfl
          refine And.intro (fun h => by cases h) (fun _ => ?_)
          apply And.intro
          · exact ltb rfl
          refine And.intro (fun h => by cases h) (fun _ => ?_)
          apply And.intro
          · exact ltb rfl
          refine And.intro (fun h => by cases h) (fun _ => ?_)
          refine And.intro (fun h => by cases h) (fun _ => ?_)
          refine vc_sound tabOk (by kernel_rfl) ?_
          refine And.intro rfl (And.intro ⟨by omega, by show (k : Int) + 1 ≤ _; omega⟩ ?_)
          refine ⟨⟨k + 1, hkl⟩, by show out.length - (k + 1) < out.length - k; omega, Sub.ofL _ _ (Nat.zero_le _) ⟨rfl, rfl, rfl, rfl, rfl, rfl, rfl, rfl, rfl, rfl, ?_, rfl, rfl, rfl, trivial⟩ rfl rfl⟩
          show AV.bool false = AV.bool (okName x.name && !hasName x.name (out.take (k + 1)))
          rw [hh, Bool.not_or, ← Bool.and_assoc, hb]; rfl
        | true =>
          apply And.intro
          · exact ltb rfl
          refine And.intro (fun _ => ?_) (fun h => absurd rfl h)
          apply And.intro
          · exact ltb rfl
          refine And.intro (fun _ => ?_) (fun h => absurd rfl h)
          apply And.intro
          · exact ltb rfl
          refine And.intro (fun _ => ?_) (fun h => absurd rfl h)
          apply And.intro
          · exact ltb rfl
          refine And.intro (fun _ => And.intro rfl (And.intro rfl (And.intro (Int.natCast_nonneg _) (And.intro hkz ?_)))) (fun h => absurd rfl h)
          apply And.intro
          · exact ltb rfl
          refine And.intro (fun _ => And.intro rfl ?_) (fun h => absurd rfl h)
          apply And.intro
          · exact ltb rfl
          refine And.intro (fun _ => And.intro rfl (Exists.intro (encPair out[k]) (Exists.intro (dstr out[k].name) (And.intro hxk (And.intro rfl ?_))))) (fun h => absurd rfl h)
          apply And.intro
          · exact ltb rfl
          refine And.intro (fun _ => ?_) (fun h => absurd rfl h)
          apply And.intro
          · exact ltb rfl
          refine And.intro (fun _ => ?_) (fun h => absurd rfl h)
          refine And.intro (fun _ => ?_) (fun h => by cases h)
          refine vc_sound tabOk (by kernel_rfl) ?_
          refine And.intro rfl (And.intro ⟨by omega, by show (k : Int) + 1 ≤ _; omega⟩ ?_)
          refine ⟨⟨k + 1, hkl⟩, by show out.length - (k + 1) < out.length - k; omega, Sub.ofL _ _ (Nat.zero_le _) ⟨rfl, rfl, rfl, rfl, rfl, rfl, rfl, rfl, rfl, rfl, ?_, rfl, rfl, rfl, trivial⟩ rfl rfl⟩
          show AV.bool (!(out[k].name.toList == x.name.toList)) = AV.bool (okName x.name && !hasName x.name (out.take (k + 1)))
          rw [hh, Bool.not_or, ← Bool.and_assoc, hb, Bool.true_and, str_beq]
          congr 2
          exact decide_eq_decide.2 eq_comm
      refine WP_seq (vc_sound tabOk (by kernel_rfl) ?_)
      refine WP_cond rfl (fun hb => ?_) (fun hb => WP_skip ?_)
      · have hb : (okName x.name && !hasName x.name out) = true := hb
        have hs1 : stepPl out x = out ++ [⟨x.name, valueOf x.value⟩] := by rw [stepPl, if_pos hl6, if_pos hb]
        refine vc_draw2 tabOk 12 (by kernel_rfl) ?_
        refine And.intro rfl (And.intro rfl (And.intro rfl (And.intro rfl (And.intro rfl (And.intro rfl ?_)))))
        refine And.intro rfl (And.intro (Int.natCast_nonneg _) (And.intro hlz (And.intro rfl ?_)))
        refine And.intro rfl (And.intro rfl ?_)
        refine And.intro rfl (Exists.intro _ (Exists.intro _ (And.intro (value_impl (p.props.getD ((i : Int)).toNat zPair).value) (And.intro (AsLe.refl _) (And.intro rfl ?_)))))
        refine And.intro rfl ?_
        refine And.intro rfl (And.intro (by decide) (And.intro (by decide) (And.intro rfl (Or.inl (And.intro rfl ?_)))))
        refine And.intro rfl (And.intro ⟨rfl, rfl, rfl, rfl⟩ (And.intro rfl (And.intro ?_ (And.intro ?_ ?_))))
        · show (out.length + 1) * 32 ≤ _; omega
        · show out.length + 1 ≤ _; simp only [maxLen]; omega
        refine Or.inl ?_
        refine And.intro ⟨_, _, _, rfl⟩ (And.intro (Nat.le_of_ble_eq_true rfl) ?_)
        have e2 : (out.map encPair).take out.length = out.map encPair := List.take_of_length_le (by rw [List.length_map]; exact Nat.le_refl _)
        have e1 : (stepPl out x).length = out.length + 1 := by rw [hs1]; simp
        refine ⟨(), Sub.ofL _ _ (Nat.zero_le _) ⟨rfl, rfl, rfl, rfl, rfl, rfl, rfl, rfl, trivial⟩ ?_ rfl⟩
        show ([.box 55 ((encPom p).map AV.d), .box 55 [.d (dstr emp), .d (dstr emp), .d (dstr emp), .d (dstr emp), .d (dstr emp), .d (dstr emp), .d (dstr emp), .nils, .nils, .nils], .box 55 [.d (dstr (plParent p.parent).group), .d (dstr (plParent p.parent).name), .d (dstr (plParent p.parent).version), .d (dstr (valueOf p.group)), .d (dstr (orS (valueOf p.name) sA)), .d (dstr (valueOf p.version)), .d (dstr (valueOf p.packaging)), .h 3 (out.length + 1) 0 (out.length + 1), .d (dDeps (plDeps p.managed)), .d (dDeps (plDeps p.deps))], .row (out.length + 1) 66 2 ((out.map encPair).take out.length ++ [encPair ⟨x.name, valueOf (p.props.getD ((i : Int)).toNat zPair).value⟩])] : List AO) = [.box 55 ((encPom p).map AV.d), .box 55 [.d (dstr emp), .d (dstr emp), .d (dstr emp), .d (dstr emp), .d (dstr emp), .d (dstr emp), .d (dstr emp), .nils, .nils, .nils], .box 55 [.d (dstr (plParent p.parent).group), .d (dstr (plParent p.parent).name), .d (dstr (plParent p.parent).version), .d (dstr (valueOf p.group)), .d (dstr (orS (valueOf p.name) sA)), .d (dstr (valueOf p.version)), .d (dstr (valueOf p.packaging)), .h 3 (stepPl out x).length 0 (stepPl out x).length, .d (dDeps (plDeps p.managed)), .d (dDeps (plDeps p.deps))], .row (stepPl out x).length 66 2 ((stepPl out x).map encPair)]
        rw [e2, e1, hs1, hg, List.map_append]; rfl
      · have hb : (okName x.name && !hasName x.name out) = false := hb
        have hs1 : stepPl out x = out := by rw [stepPl, if_pos hl6, if_neg (by rw [hb]; decide)]
        refine ⟨(), Sub.ofL _ _ (Nat.zero_le _) ⟨rfl, rfl, rfl, rfl, rfl, rfl, rfl, rfl, trivial⟩ ?_ rfl⟩
        rw [hs1]; rfl
  obtain ⟨i, hx⟩ := i
  have hn : (plProps (p.props.take i)).length = ((plProps (p.props.take i)).map encPair).length := by rw [List.length_map]
  refine WP_sub ((Sub.shutCell (s := 2) (i := 7) (r := 3) (d := dPairs (plProps (p.props.take i))) rfl rfl rfl hn (DLe.tl _ rfl)).trans (Sub.ofL [(2, .ptr 1 0), (3, .ptr 2 0)] [.box 55 ((encPom p).map AV.d), .box 55 [.d (dstr emp), .d (dstr emp), .d (dstr emp), .d (dstr emp), .d (dstr emp), .d (dstr emp), .d (dstr emp), .nils, .nils, .nils], .box 55 ((encPom (⟨plParent p.parent, valueOf p.group, orS (valueOf p.name) sA, valueOf p.version, valueOf p.packaging, plProps (p.props.take i), plDeps p.managed, plDeps p.deps⟩ : Pom)).map AV.d)] (Nat.zero_le _) ⟨rfl, rfl, rfl, rfl, trivial⟩ rfl rfl)) ?_
  refine WP_seq (vc_sound tabOk (by kernel_rfl) ?_)
  refine And.intro rfl (And.intro rfl (And.intro (Nat.le_of_ble_eq_true rfl) ?_))
  refine WP_ret ?_
  refine And.intro rfl (And.intro (DLe.of_eq ?_) trivial)
  show DV.agg (encPom (⟨plParent p.parent, valueOf p.group, orS (valueOf p.name) sA, valueOf p.version, valueOf p.packaging, plProps (p.props.take i), plDeps p.managed, plDeps p.deps⟩ : Pom)) = _
  rw [hx]; rfl
end Go.Proofs.Nw.K
end
section
/- L7: the law InheritTells. -/
open Go Go.RowKit Go.Proofs
set_option linter.unusedVariables false
set_option linter.unusedSimpArgs false
namespace Go.Proofs.Nw.K

theorem sum_flat {α : Type} (f : Pom → List α) (g : α → Nat) (hg : ∀ p, ((f p).map g).sum ≤ p.wt) : ∀ l : List Pom, ((l.flatMap f).map g).sum ≤ (l.map Pom.wt).sum
  | [] => by simp
  | p :: r => by
    have := sum_flat f g hg r
    have := hg p
    simp only [List.flatMap_cons, List.map_append, List.sum_append, List.map_cons, List.sum_cons]; omega
theorem poms_ok (l : List Pom) (h : (l.map Pom.wt).sum ≤ 1048576) : l.length ≤ 4194304 ∧ fewN l ≤ 4194304 ∧ (propsIn l).length ≤ 4194304 ∧ ((managedIn l).length ≤ 4194304 ∧ ∀ d ∈ managedIn l, d.wt ≤ 4194304) ∧ ((depsIn l).length ≤ 4194304 ∧ ∀ d ∈ depsIn l, d.wt ≤ 4194304) := by
  have h1 := len_le_sum Pom.wt (fun p => by unfold Pom.wt; omega) l
  have dl : ∀ x : List Dep, x.length ≤ (x.map Dep.wt).sum := fun x => len_le_sum Dep.wt (fun d => by unfold Dep.wt; omega) x
  have pl : ∀ x : List Pair, x.length ≤ (x.map Pair.wt).sum := fun x => len_le_sum Pair.wt (fun d => by unfold Pair.wt; omega) x
  have h2 : fewN l ≤ (l.map Pom.wt).sum := by
    clear h h1
    induction l with
    | nil => exact Nat.le_refl _
    | cons p r ih =>
      have a := pl p.props
      have b := dl p.managed
      have c := dl p.deps
      simp only [fewN, List.map_cons, List.sum_cons] at ih ⊢
      have : fewOne p ≤ p.wt := by unfold fewOne Pom.wt; omega
      omega
  have h3 := sum_flat Pom.props Pair.wt (fun p => by unfold Pom.wt; omega) l
  have h4 := sum_flat Pom.managed Dep.wt (fun p => by unfold Pom.wt; omega) l
  have h5 := sum_flat Pom.deps Dep.wt (fun p => by unfold Pom.wt; omega) l
  have a := pl (propsIn l)
  have b := dl (managedIn l)
  have c := dl (depsIn l)
  unfold propsIn at *
  unfold managedIn at *
  unfold depsIn at *
  refine ⟨by omega, by omega, by omega, ⟨by omega, fun d hd => ?_⟩, ⟨by omega, fun d hd => ?_⟩⟩
  · have := le_sum_of_mem (l := (l.flatMap Pom.managed).map Dep.wt) (a := d.wt) (List.mem_map_of_mem hd); omega
  · have := le_sum_of_mem (l := (l.flatMap Pom.deps).map Dep.wt) (a := d.wt) (List.mem_map_of_mem hd); omega

theorem mergeOf_ok (c : Coord) (l : List Pom) (hP : (propsIn l).length ≤ 4194304) (hM : (managedIn l).length ≤ 4194304) (hMw : ∀ d ∈ managedIn l, d.wt ≤ 4194304) (hD : (depsIn l).length ≤ 4194304) (hDw : ∀ d ∈ depsIn l, d.wt ≤ 4194304) :
    (mergeOf c l).props.length ≤ 4194304 ∧ ((mergeOf c l).managed.length ≤ 4194304 ∧ ∀ d ∈ (mergeOf c l).managed, d.wt ≤ 4194304) ∧ ((mergeOf c l).deps.length ≤ 4194304 ∧ ∀ d ∈ (mergeOf c l).deps, d.wt ≤ 4194304) := by
  unfold mergeOf
  split
  · exact ⟨Nat.zero_le _, ⟨Nat.zero_le _, fun d hd => by simp [zPom] at hd⟩, ⟨Nat.zero_le _, fun d hd => by simp [zPom] at hd⟩⟩
  · have a := propsOf_length (propsIn l)
    have b := firstOf_length (managedIn l)
    have d := firstOf_length (depsIn l)
    refine ⟨by show (propsOf (propsIn l)).length ≤ _; omega, ⟨by show (firstOf (managedIn l)).length ≤ _; omega, fun x hx => hMw x (firstOf_mem hx)⟩, ⟨by show (firstOf (depsIn l)).length ≤ _; omega, fun x hx => hDw x (firstOf_mem hx)⟩⟩

theorem InheritTells_impl (c : Coord) (l : List Pom) (d : List Dep) (_ : True) (_ : l.length ≤ maxLen ∧ ∀ s ∈ l, True) (_ : d.length ≤ maxLen ∧ ∀ s ∈ d, True) (h : c.wt + ((l.map Pom.wt).sum + 1) + ((d.map Dep.wt).sum + 1) ≤ 1048576) :
    Impl Try.prog 7 [.agg (encCoord c), .one (dPoms l), .one (dDeps d)] [.one (.sc (.bool true))] := by
  obtain ⟨hl, hF, hP, ⟨hM, hMw⟩, hD, hDw⟩ := poms_ok l (by omega)
  obtain ⟨mP, ⟨mM, mMw⟩, mD, mDw⟩ := mergeOf_ok c l hP hM hMw hD hDw
  have hdl := len_le_sum Dep.wt (fun a => by unfold Dep.wt; omega) d
  have hw : ∀ x ∈ d, x.wt ≤ 4194304 := fun x hx => by
    have := le_sum_of_mem (l := d.map Dep.wt) (a := x.wt) (List.mem_map_of_mem hx)
    omega
  have hfl := firstOf_length d
  have hfw : ∀ x ∈ firstOf d, x.wt ≤ 4194304 := fun x hx => hw x (firstOf_mem hx)
  refine impl_vc tabOk Try.func7 rfl rfl (by exact Nat.le_of_ble_eq_true rfl) ?_
  refine WP_seq (vc_sound tabOk (by kernel_rfl) ?_)
  refine WP_seq (vc_sound tabOk (by kernel_rfl) ?_)
  refine And.intro rfl (Exists.intro _ (Exists.intro _ (And.intro (Few_impl l hF) (And.intro (AsLe.refl _) ?_))))
  cases hf : fewOf l with
  | false =>
    apply And.intro
    · exact ltb rfl
    refine And.intro (fun h => by cases h) (fun _ => ?_)
    apply And.intro
    · exact ltb rfl
    refine And.intro (fun h => by cases h) (fun _ => ?_)
    apply And.intro
    · exact ltb rfl
    refine And.intro (fun h => by cases h) (fun _ => ?_)
    refine And.intro (fun _ => ?_) (fun h => by cases h)
    refine And.intro (fun _ => ?_) (fun h => by cases h)
    refine And.intro rfl (Exists.intro _ (Exists.intro _ (And.intro awake25_impl (And.intro (AsLe.refl _) ?_))))
    exact And.intro (DLe.refl _) trivial
  | true =>
    apply And.intro
    · exact ltb rfl
    refine And.intro (fun _ => ?_) (fun h => absurd rfl h)
    apply And.intro
    · exact ltb rfl
    refine And.intro (fun _ => ?_) (fun h => absurd rfl h)
    apply And.intro
    · exact ltb rfl
    refine And.intro (fun _ => And.intro rfl ?_) (fun h => absurd rfl h)
    refine And.intro (fun h => by cases h) (fun _ => ?_)
    refine And.intro (fun _ => ?_) (fun h60 => ?_)
    · refine And.intro rfl (Exists.intro _ (Exists.intro _ (And.intro awake25_impl (And.intro (AsLe.refl _) ?_))))
      exact And.intro (DLe.refl _) trivial
    refine WP_seq (vc_sound tabOk (by kernel_rfl) ?_)
    refine And.intro rfl ?_
    refine And.intro rfl (Exists.intro _ (Exists.intro _ (And.intro (Merge_impl c l hl hP hM hMw hD hDw) (And.intro (AsLe.refl _) ?_))))
    refine And.intro rfl (And.intro (Nat.le_of_ble_eq_true rfl) ?_)
    refine WP_seq (vc_sound tabOk (by kernel_rfl) ?_)
    refine And.intro rfl ?_
    refine And.intro rfl (Exists.intro _ (Exists.intro _ (And.intro (refMerge_impl c l hl hP hM hMw hD hDw) (And.intro (AsLe.refl _) ?_))))
    refine And.intro rfl (And.intro (Nat.le_of_ble_eq_true rfl) ?_)
    refine WP_sub (Sub.ofL [(2, .d (dDeps d)), (7, .ptr 1 0), (8, .int (mergeErr c l)), (9, .ptr 2 0), (10, .int (mergeErr c l))] [.box 23 ((encCoord c).map AV.d), .box 55 ((encPom (mergeOf c l)).map AV.d), .box 55 ((encPom (mergeOf c l)).map AV.d)] (Nat.zero_le _) ⟨rfl, rfl, rfl, rfl, rfl, rfl, rfl, rfl, rfl, rfl, trivial⟩ rfl rfl) ?_
    generalize hmm : mergeOf c l = m at *
    generalize hee : mergeErr c l = er at *
    refine WP_seq_cut (α := Unit) (fun _ => ofL [(2, .d (dDeps d)), (7, .ptr 1 0), (8, .int er), (9, .ptr 2 0), (10, .int er)]) (fun _ => [.box 23 ((encCoord c).map AV.d), .box 55 ((encPom m).map AV.d), .box 55 ((encPom m).map AV.d)]) (WP_seq (vc_sound tabOk (by kernel_rfl) ?_)) (fun _ => ?_)
    · refine WP_block (WP_loop (α := {i : Nat // i ≤ d.length}) (fun i => ofL [(2, .d (dDeps d)), (7, .ptr 1 0), (8, .int er), (9, .ptr 2 0), (10, .int er), (11, .int (i.1 : Int))]) (fun _ => [.box 23 ((encCoord c).map AV.d), .box 55 ((encPom m).map AV.d), .box 55 ((encPom m).map AV.d)]) (fun i => d.length - i.1) ⟨0, Nat.zero_le _⟩ ?_ ?_)
      · exact Sub.ofL _ _ (Nat.zero_le _) ⟨rfl, rfl, rfl, rfl, rfl, rfl, rfl, rfl, rfl, rfl, rfl, rfl, trivial⟩ rfl rfl
      rintro ⟨i, hi⟩
      refine WP_seq (vc_sound tabOk (by kernel_rfl) ?_)
      refine And.intro rfl (And.intro (fun h => ?_) (fun h => ?_))
      rotate_left
      · exact ⟨(), Sub.ofL _ _ (Nat.zero_le _) ⟨rfl, rfl, rfl, rfl, rfl, rfl, rfl, rfl, rfl, rfl, trivial⟩ rfl rfl⟩
      have h : decide ((i : Int) < (d.length : Int)) = true := h
      have hlt : i < d.length := by have := of_decide_eq_true h; omega
      have hlz : (i : Int) < (d.length : Int) := by omega
      have hwi : (d.getD ((i : Int)).toNat zDep).wt ≤ 4194304 := by
        rw [show d.getD ((i : Int)).toNat zDep = d[i] by simp [List.getD, hlt]]; exact hw _ (List.getElem_mem hlt)
      refine WP_seq (WP_block (vc_sound tabOk (by kernel_rfl) ?_))
      refine And.intro rfl (And.intro rfl ?_)
      refine And.intro rfl (And.intro (Int.natCast_nonneg _) (And.intro hlz (And.intro rfl ?_)))
      refine And.intro (Nat.le_of_ble_eq_true rfl) (And.intro rfl ?_)
      refine And.intro rfl (Exists.intro _ (Exists.intro _ (And.intro (Key_impl (d.getD ((i : Int)).toNat zDep) hwi) (And.intro (AsLe.refl _) (And.intro rfl ?_)))))
      refine And.intro rfl (And.intro rfl ?_)
      refine And.intro rfl (And.intro (Int.natCast_nonneg _) (And.intro hlz (And.intro rfl ?_)))
      refine And.intro (Nat.le_of_ble_eq_true rfl) (And.intro rfl ?_)
      refine And.intro rfl (Exists.intro _ (Exists.intro _ (And.intro (refKey_impl (d.getD ((i : Int)).toNat zDep) hwi) (And.intro (AsLe.refl _) (And.intro rfl ?_)))))
      refine And.intro rfl ?_
      refine And.intro (fun hb => ?_) (fun _ => ?_)
      · have hb : (!((ikeyOf (d.getD ((i : Int)).toNat zDep)).toList == (ikeyOf (d.getD ((i : Int)).toNat zDep)).toList)) = true := hb
        rw [self_str] at hb
        cases hb
      refine vc_sound tabOk (by kernel_rfl) ?_
      refine And.intro rfl (And.intro ⟨by omega, by show (i : Int) + 1 ≤ _; omega⟩ ?_)
      exact ⟨⟨i + 1, hlt⟩, by show d.length - (i + 1) < d.length - i; omega, Sub.ofL _ _ (Nat.zero_le _) ⟨rfl, rfl, rfl, rfl, rfl, rfl, rfl, rfl, rfl, rfl, rfl, rfl, trivial⟩ rfl rfl⟩
    · refine WP_seq (vc_sound tabOk (by kernel_rfl) ?_)
      have hq : (er == er) = true := by simp
      refine And.intro rfl (Exists.intro _ (Exists.intro _ (And.intro awake25_impl (And.intro (AsLe.refl _) ?_))))
      apply And.intro
      · exact ltb rfl
      refine And.intro (fun _ => And.intro rfl ?_) (fun h => absurd rfl h)
      apply And.intro
      · exact ltb rfl
      refine And.intro (fun _ => And.intro rfl ?_) (fun h => absurd rfl h)
      apply And.intro
      · exact ltb rfl
      refine And.intro (fun _ => And.intro rfl (Exists.intro _ (Exists.intro _ (And.intro (Pom_self m mP mM (fun x hx => ex_len (mMw x hx)) mD (fun x hx => ex_len (mDw x hx))) (And.intro (AsLe.refl _) ?_))))) (fun h => absurd rfl h)
      refine And.intro (fun _ => ?_) (fun h => by cases h)
      apply And.intro
      · exact ltb rfl
      refine And.intro (fun _ => ?_) (fun h => absurd rfl h)
      apply And.intro
      · exact ltb rfl
      refine And.intro (fun _ => ?_) (fun h => absurd rfl h)
      apply And.intro
      · exact ltb rfl
      refine And.intro (fun _ => And.intro rfl ?_) (fun h => absurd rfl h)
      refine And.intro (fun _ => ?_) (fun h => by cases h)
      apply And.intro
      · exact ltb rfl
      refine And.intro (fun _ => ?_) (fun h => absurd hq h)
      apply And.intro
      · exact ltb rfl
      refine And.intro (fun _ => And.intro rfl (Exists.intro _ (Exists.intro _ (And.intro (First_impl d (by omega) hw) (And.intro (AsLe.refl _) ?_))))) (fun h => absurd hq h)
      apply And.intro
      · exact ltb rfl
      refine And.intro (fun _ => ?_) (fun h => absurd hq h)
      apply And.intro
      · exact ltb rfl
      refine And.intro (fun _ => And.intro rfl (Exists.intro _ (Exists.intro _ (And.intro (refFirst_impl d (by omega) hw) (And.intro (AsLe.refl _) ?_))))) (fun h => absurd hq h)
      apply And.intro
      · exact ltb rfl
      refine And.intro (fun _ => And.intro rfl (Exists.intro _ (Exists.intro _ (And.intro (SameDep_self (firstOf d) (by omega) (fun x hx => ex_len (hfw x hx))) (And.intro (AsLe.refl _) ?_))))) (fun h => absurd hq h)
      refine And.intro (fun _ => ?_) (fun h => absurd (hq.symm.trans h) (by decide))
      refine WP_ret ?_
      exact And.intro (DLe.refl _) trivial
end Go.Proofs.Nw.K
end
section
/- L10: the law InheritMany. -/
open Go Go.RowKit Go.Proofs
set_option linter.unusedVariables false
set_option linter.unusedSimpArgs false
namespace Go.Proofs.Nw.K

theorem firstOf_again (x y : List Dep) : firstOf (firstOf x ++ y) = firstOf (x ++ y) := by
  have h : ∀ u v : List Dep, firstOf (u ++ v) = v.foldl stepF (firstOf u) := fun u v => by simp [firstOf]
  rw [h, h, firstOf_idem]
theorem foldN_id (l : List Pair) : ∀ out : List Pair, (∀ d ∈ l, ¬ hasName d.name out = true) → l.Pairwise (fun a b => b.name ≠ a.name) → l.foldl stepN out = out ++ l := by
  induction l with
  | nil => intro out _ _; simp
  | cons d r ih =>
    intro out h hp
    obtain ⟨hp1, hp2⟩ := List.pairwise_cons.1 hp
    rw [List.foldl_cons, stepN, if_neg (h d (by simp)), ih _ ?_ hp2]
    · simp
    · intro x hx hh
      obtain ⟨z, hz, he⟩ := hasName_iff.1 hh
      rcases List.mem_append.1 hz with hz | hz
      · exact h x (by simp [hx]) (hasName_iff.2 ⟨z, hz, he⟩)
      · have hz : z = d := by simpa using hz
        subst hz
        exact hp1 x hx he
theorem SS_names {l : List Pair} (h : SS l) : l.Pairwise (fun a b => b.name ≠ a.name) :=
  h.imp fun {a b} hab e => by unfold ltN at hab; rw [e] at hab; exact List.lt_irrefl _ hab
theorem SS_asym {l : List Pair} (h : SS l) : l.Pairwise (fun a b => ¬ ltN b a) :=
  h.imp fun {a b} hab hba => ltN_irrefl _ (ltN_trans hab hba)
theorem refPropsOf_SS {l : List Pair} (h : SS l) : refPropsOf l = l := by
  obtain ⟨s, p⟩ := fold_ins l [] [] List.Pairwise.nil (List.Perm.refl _)
  have hf : l.foldl stepN [] = l := by
    have := foldN_id l [] (fun d _ => by simp [hasName]) (SS_names h)
    simpa using this
  rw [hf] at p
  exact sorted_eq p s (SS_asym h)
theorem propsOf_again (x y : List Pair) : propsOf (propsOf x ++ y) = propsOf (x ++ y) := by
  have h : ∀ u v : List Pair, refPropsOf (u ++ v) = v.foldl (fun out x => insR x out) (refPropsOf u) := fun u v => by simp [refPropsOf]
  rw [← refPropsOf_eq (propsOf x ++ y), ← refPropsOf_eq (x ++ y), h, h, refPropsOf_SS (propsOf_SS x), refPropsOf_eq x]
theorem packOf_again (p q : Pom) (h : q.packaging = packOf p) : packOf q = packOf p := by
  rw [packOf_eq q, h, packOf_eq p]
  by_cases he : (p.packaging.toList == emp.toList) = true
  · rw [if_pos he, if_neg (by rw [str_beq]; decide)]
  · rw [if_neg he, if_neg he]

def Small (p : Pom) : Prop := p.props.length ≤ 6 ∧ p.managed.length ≤ 6 ∧ p.deps.length ≤ 6 ∧ (∀ d ∈ p.managed, d.wt ≤ 900) ∧ (∀ d ∈ p.deps, d.wt ≤ 900)
theorem plPom_small (p : Pom) : Small (plPom p) := by
  obtain ⟨h1, _, _⟩ := plProps_ok p.props
  obtain ⟨h2, h3⟩ := plDeps_ok p.managed
  obtain ⟨h4, h5⟩ := plDeps_ok p.deps
  exact ⟨h1, h2, h4, h3, h5⟩

theorem merge_again (c : Coord) (A B D : Pom) : merged c [A, B, D] = merged c [merged c [A, B], D] := by
  have e1 : propsIn [A, B, D] = propsIn [A, B] ++ D.props := by simp [propsIn]
  have e2 : propsIn [merged c [A, B], D] = propsOf (propsIn [A, B]) ++ D.props := by simp [propsIn, merged]
  have e3 : managedIn [A, B, D] = managedIn [A, B] ++ D.managed := by simp [managedIn]
  have e4 : managedIn [merged c [A, B], D] = firstOf (managedIn [A, B]) ++ D.managed := by simp [managedIn, merged]
  have e5 : depsIn [A, B, D] = depsIn [A, B] ++ D.deps := by simp [depsIn]
  have e6 : depsIn [merged c [A, B], D] = firstOf (depsIn [A, B]) ++ D.deps := by simp [depsIn, merged]
  have n : nameTo [merged c [A, B], D] 2 = nameTo [A, B, D] 3 := rfl
  have k : packTo [merged c [A, B], D] 2 = packTo [A, B, D] 3 := packOf_again A (merged c [A, B]) rfl
  show (⟨_, _, _, _, _, _, _, _⟩ : Pom) = ⟨_, _, _, _, _, _, _, _⟩
  congr 1
  · exact k.symm
  · rw [e1, e2, propsOf_again]
  · rw [e3, e4, firstOf_again]
  · rw [e5, e6, firstOf_again]

theorem small_merge (c : Coord) (l : List Pom) (h : (propsIn l).length ≤ 100) (h2 : (managedIn l).length ≤ 200) (h3 : (depsIn l).length ≤ 200) : mergeOf c l = merged c l ∧ mergeErr c l = 0 := by
  have k1 := propsOf_length (propsIn l)
  have k2 := firstOf_length (managedIn l)
  have k3 := firstOf_length (depsIn l)
  have hb : ¬ mergeBig (merged c l) = true := by
    show ¬ (decide (((propsOf (propsIn l)).length : Int) > 100) || decide (((firstOf (managedIn l)).length : Int) > 200) || decide (((firstOf (depsIn l)).length : Int) > 200)) = true
    rw [decide_eq_false (by omega), decide_eq_false (by omega), decide_eq_false (by omega)]; decide
  rw [mergeOf, mergeErr, if_neg hb, if_neg hb]
  exact ⟨rfl, rfl⟩

theorem pom_in (p : Pom) (h : p.wt ≤ 1048576) : p.props.length ≤ 4194304 ∧ (∀ x ∈ p.props, x.name.size ≤ 4194304) ∧ (∀ d ∈ p.managed, d.excluded.length ≤ 4194304) ∧ (∀ d ∈ p.deps, d.excluded.length ≤ 4194304) := by
  have h1 := len_le_sum Pair.wt (fun d => by unfold Pair.wt; omega) p.props
  unfold Pom.wt at h
  refine ⟨by omega, fun x hx => ?_, fun d hd => ex_len ?_, fun d hd => ex_len ?_⟩
  · have := le_sum_of_mem (l := p.props.map Pair.wt) (a := x.wt) (List.mem_map_of_mem hx)
    have : x.wt = x.name.size + x.value.size + 3 := rfl
    omega
  · have := le_sum_of_mem (l := p.managed.map Dep.wt) (a := d.wt) (List.mem_map_of_mem hd); omega
  · have := le_sum_of_mem (l := p.deps.map Dep.wt) (a := d.wt) (List.mem_map_of_mem hd); omega

set_option maxHeartbeats 2000000 in
theorem InheritMany_impl (c : Coord) (a b d : Pom) (_ : True) (_ : True) (_ : True) (_ : True) (h : c.wt + a.wt + b.wt + d.wt ≤ 1048576) :
    Impl Try.prog 10 [.agg (encCoord c), .agg (encPom a), .agg (encPom b), .agg (encPom d)] [.one (.sc (.bool true))] := by
  obtain ⟨_, hF, _⟩ := poms_ok [a, b, d] (by simp only [List.map_cons, List.map_nil, List.sum_cons, List.sum_nil]; omega)
  obtain ⟨a1, a2, a3, a4⟩ := pom_in a (by omega)
  obtain ⟨b1, b2, b3, b4⟩ := pom_in b (by omega)
  obtain ⟨d1, d2, d3, d4⟩ := pom_in d (by omega)
  have hA := plPom_small a
  have hB := plPom_small b
  have hD := plPom_small d
  have iA := plPom_impl a a1 a2 a3 a4
  have iB := plPom_impl b b1 b2 b3 b4
  have iD := plPom_impl d d1 d2 d3 d4
  refine impl_vc tabOk Try.func10 rfl rfl (by exact Nat.le_of_ble_eq_true rfl) ?_
  refine WP_seq (vc_sound tabOk (by kernel_rfl) ?_)
  refine WP_seq (vc_sound tabOk (by kernel_rfl) ?_)
  refine And.intro rfl (And.intro rfl (And.intro rfl ?_))
  refine And.intro rfl (And.intro (by decide) (And.intro (by decide) (And.intro rfl (Or.inl ?_))))
  refine And.intro rfl (Exists.intro _ (Exists.intro _ (And.intro (Few_impl [a, b, d] hF) (And.intro (And.intro (DLe.tl zPom rfl) trivial) ?_))))
  refine And.intro (fun _ => ?_) (fun _ => ?_)
  · refine And.intro rfl (Exists.intro _ (Exists.intro _ (And.intro awake25_impl (And.intro (AsLe.refl _) ?_))))
    exact And.intro (DLe.refl _) trivial
  refine WP_sub (Sub.ofL [(4, .ptr 0 0), (5, .ptr 1 0), (6, .ptr 2 0), (7, .ptr 3 0)] [.box 23 ((encCoord c).map AV.d), .box 55 ((encPom a).map AV.d), .box 55 ((encPom b).map AV.d), .box 55 ((encPom d).map AV.d)] (Nat.zero_le _) ⟨rfl, rfl, rfl, rfl, rfl, rfl, rfl, rfl, trivial⟩ rfl rfl) ?_
  refine WP_seq (vc_sound tabOk (by kernel_rfl) ?_)
  generalize plPom a = A at *
  generalize plPom b = B at *
  generalize plPom d = D at *
  refine And.intro rfl (And.intro rfl ?_)
  refine And.intro rfl (Exists.intro _ (Exists.intro _ (And.intro (iA) (And.intro (AsLe.refl _) (And.intro rfl ?_)))))
  refine And.intro rfl (And.intro rfl ?_)
  refine And.intro rfl (Exists.intro _ (Exists.intro _ (And.intro (iB) (And.intro (AsLe.refl _) (And.intro rfl ?_)))))
  refine And.intro rfl (And.intro rfl ?_)
  refine And.intro rfl (Exists.intro _ (Exists.intro _ (And.intro (iD) (And.intro (AsLe.refl _) (And.intro rfl ?_)))))
  refine And.intro rfl (And.intro (by decide) (And.intro (by decide) (And.intro rfl (Or.inl (And.intro rfl ?_)))))
  refine And.intro rfl ?_
  refine WP_sub ((Sub.le 9 (d' := dPoms [A, B, D]) rfl (DLe.tl zPom rfl)).trans (Sub.ofL [(4, .ptr 0 0), (9, .d (dPoms [A, B, D]))] [.box 23 ((encCoord c).map AV.d)] (Nat.zero_le _) ⟨rfl, rfl, rfl, rfl, trivial⟩ rfl rfl)) ?_
  have okl : ∀ l : List Pom, (∀ p ∈ l, Small p) → l.length ≤ 3 → (propsIn l).length ≤ 6 * l.length ∧ ((managedIn l).length ≤ 6 * l.length ∧ ∀ x ∈ managedIn l, x.wt ≤ 4194304) ∧ ((depsIn l).length ≤ 6 * l.length ∧ ∀ x ∈ depsIn l, x.wt ≤ 4194304) := fun l hl _ => by
    have g : ∀ (α : Type) (f : Pom → List α), (∀ p ∈ l, (f p).length ≤ 6) → (l.flatMap f).length ≤ 6 * l.length := fun α f hf => by
      clear hl
      induction l with
      | nil => simp
      | cons p r ih =>
        have := hf p (by simp)
        have := ih (by simp at *; omega) (fun q hq => hf q (by simp [hq]))
        simp only [List.flatMap_cons, List.length_append, List.length_cons]; omega
    refine ⟨g _ _ fun p hp => (hl p hp).1, ⟨g _ _ fun p hp => (hl p hp).2.1, fun x hx => ?_⟩, ⟨g _ _ fun p hp => (hl p hp).2.2.1, fun x hx => ?_⟩⟩
    · obtain ⟨p, hp, hx⟩ := List.mem_flatMap.1 hx
      have := (hl p hp).2.2.2.1 x hx; omega
    · obtain ⟨p, hp, hx⟩ := List.mem_flatMap.1 hx
      have := (hl p hp).2.2.2.2 x hx; omega
  obtain ⟨p3, ⟨m3, mw3⟩, q3, qw3⟩ := okl [A, B, D] (by simp; exact ⟨hA, hB, hD⟩) (by simp)
  obtain ⟨p2, ⟨m2, mw2⟩, q2, qw2⟩ := okl [A, B] (by simp; exact ⟨hA, hB⟩) (by simp)
  simp only [List.length_cons, List.length_nil] at p3 m3 q3 p2 m2 q2
  have iM3 := Merge_impl c [A, B, D] (by simp) (by omega) (by omega) mw3 (by omega) qw3
  have iM2 := Merge_impl c [A, B] (by simp) (by omega) (by omega) mw2 (by omega) qw2
  obtain ⟨f3, g3⟩ := small_merge c [A, B, D] (by omega) (by omega) (by omega)
  obtain ⟨f2, g2⟩ := small_merge c [A, B] (by omega) (by omega) (by omega)
  rw [f3, g3] at iM3
  rw [f2, g2] at iM2
  have k1 := propsOf_length (propsIn [A, B])
  have k2 := firstOf_length (managedIn [A, B])
  have k3 := firstOf_length (depsIn [A, B])
  have e2 : propsIn [merged c [A, B], D] = propsOf (propsIn [A, B]) ++ D.props := by simp [propsIn, merged]
  have e4 : managedIn [merged c [A, B], D] = firstOf (managedIn [A, B]) ++ D.managed := by simp [managedIn, merged]
  have e6 : depsIn [merged c [A, B], D] = firstOf (depsIn [A, B]) ++ D.deps := by simp [depsIn, merged]
  have l2 : (propsIn [merged c [A, B], D]).length ≤ 18 := by rw [e2, List.length_append]; have := hD.1; omega
  have l4 : (managedIn [merged c [A, B], D]).length ≤ 18 := by rw [e4, List.length_append]; have := hD.2.1; omega
  have l6 : (depsIn [merged c [A, B], D]).length ≤ 18 := by rw [e6, List.length_append]; have := hD.2.2.1; omega
  have w4 : ∀ x ∈ managedIn [merged c [A, B], D], x.wt ≤ 4194304 := fun x hx => by
    rw [e4] at hx
    rcases List.mem_append.1 hx with hx | hx
    · exact mw2 x (firstOf_mem hx)
    · have := hD.2.2.2.1 x hx; omega
  have w6 : ∀ x ∈ depsIn [merged c [A, B], D], x.wt ≤ 4194304 := fun x hx => by
    rw [e6] at hx
    rcases List.mem_append.1 hx with hx | hx
    · exact qw2 x (firstOf_mem hx)
    · have := hD.2.2.2.2 x hx; omega
  have iMt := Merge_impl c [merged c [A, B], D] (by simp) (by omega) (by omega) w4 (by omega) w6
  obtain ⟨ft, gt⟩ := small_merge c [merged c [A, B], D] (by omega) (by omega) (by omega)
  rw [ft, gt, ← merge_again] at iMt
  have hs : (merged c [A, B, D]).props.length ≤ 4194304 ∧ ((merged c [A, B, D]).managed.length ≤ 4194304 ∧ ∀ x ∈ (merged c [A, B, D]).managed, x.excluded.length ≤ 4194304) ∧ ((merged c [A, B, D]).deps.length ≤ 4194304 ∧ ∀ x ∈ (merged c [A, B, D]).deps, x.excluded.length ≤ 4194304) := by
    have k1 := propsOf_length (propsIn [A, B, D])
    have k2 := firstOf_length (managedIn [A, B, D])
    have k3 := firstOf_length (depsIn [A, B, D])
    exact ⟨by show (propsOf _).length ≤ _; omega, ⟨by show (firstOf _).length ≤ _; omega, fun x hx => ex_len (mw3 x (firstOf_mem hx))⟩, ⟨by show (firstOf _).length ≤ _; omega, fun x hx => ex_len (qw3 x (firstOf_mem hx))⟩⟩
  obtain ⟨s1, ⟨s2, s3⟩, s4, s5⟩ := hs
  generalize hX : merged c [A, B, D] = X at *
  generalize hT : merged c [A, B] = W at *
  refine WP_seq (vc_sound tabOk (by kernel_rfl) ?_)
  refine And.intro rfl ?_
  refine And.intro rfl (Exists.intro _ (Exists.intro _ (And.intro iM3 (And.intro (AsLe.refl _) ?_))))
  refine And.intro rfl (And.intro (Nat.le_of_ble_eq_true rfl) ?_)
  refine WP_sub (Sub.ofL [(4, .ptr 0 0), (9, .d (dPoms [A, B, D])), (10, .ptr 1 0), (11, .int 0)] [.box 23 ((encCoord c).map AV.d), .box 55 ((encPom X).map AV.d)] (Nat.zero_le _) ⟨rfl, rfl, rfl, rfl, rfl, rfl, rfl, rfl, trivial⟩ rfl rfl) ?_
  refine WP_seq (vc_draw3 tabOk 9 [false, false, false, false, false, false, false, true, true] [[.box 23 ((encCoord c).map AV.d), .box 55 ((encPom X).map AV.d), .box 55 [.d (dstr emp), .d (dstr emp), .d (dstr emp), .d (dstr emp), .d (dstr emp), .d (dstr emp), .d (dstr emp), .nils, .nils, .nils]], [.box 23 ((encCoord c).map AV.d), .box 55 ((encPom X).map AV.d), .box 55 ((encPom W).map AV.d)]] (by kernel_rfl) ?_)
  refine And.intro rfl (And.intro rfl (And.intro (And.intro (And.intro rfl (And.intro rfl rfl)) (And.intro (And.intro rfl (And.intro rfl rfl)) (And.intro (And.intro rfl (And.intro rfl rfl)) trivial))) ?_))
  refine And.intro rfl (And.intro (And.intro (And.intro rfl rfl) (And.intro (And.intro rfl rfl) (And.intro (And.intro rfl rfl) trivial))) ?_)
  refine And.intro rfl (And.intro (by decide) (And.intro (Nat.zero_le _) (And.intro (by show 2 ≤ 3; decide) (And.intro rfl (And.intro (And.intro (And.intro rfl (And.intro (by decide) (And.intro (Nat.zero_le _) (And.intro (by show 2 ≤ 3; decide) (And.intro rfl rfl))))) (And.intro (And.intro rfl (And.intro (by decide) (And.intro (Nat.zero_le _) (And.intro (by show 2 ≤ 3; decide) (And.intro rfl rfl))))) (And.intro (And.intro rfl (And.intro (by decide) (And.intro (Nat.zero_le _) (And.intro (by show 2 ≤ 3; decide) (And.intro rfl rfl))))) trivial))) ?_)))))
  refine And.intro rfl (Exists.intro _ (Exists.intro _ (And.intro (iM2) (And.intro (AsLe.refl _) (And.intro rfl (And.intro (And.intro (And.intro rfl (Exists.intro _ (Exists.intro _ (And.intro (iM2) (And.intro (AsLe.refl _) (And.intro rfl rfl)))))) (And.intro (And.intro rfl (Exists.intro _ (Exists.intro _ (And.intro (iM2) (And.intro (AsLe.refl _) (And.intro rfl rfl)))))) (And.intro (And.intro rfl (Exists.intro _ (Exists.intro _ (And.intro (iM2) (And.intro (AsLe.refl _) (And.intro rfl rfl)))))) trivial))) ?_))))))
  refine And.intro rfl (And.intro (And.intro (And.intro rfl rfl) (And.intro (And.intro rfl rfl) (And.intro (And.intro rfl rfl) trivial))) ?_)
  refine And.intro rfl (And.intro (And.intro (And.intro rfl rfl) (And.intro (And.intro rfl rfl) (And.intro (And.intro rfl rfl) trivial))) ?_)
  refine And.intro rfl (And.intro (And.intro (And.intro rfl rfl) (And.intro (And.intro rfl rfl) (And.intro (And.intro rfl rfl) trivial))) ?_)
  refine And.intro rfl ?_
  refine And.intro rfl (And.intro (Nat.le_of_ble_eq_true rfl) (And.intro rfl ?_))
  refine WP_sub (Sub.ofL [(4, .ptr 0 0), (9, .d (dPoms [A, B, D])), (10, .ptr 1 0), (11, .int 0), (12, .ptr 2 0), (13, .int 0)] [.box 23 ((encCoord c).map AV.d), .box 55 ((encPom X).map AV.d), .box 55 ((encPom W).map AV.d)] (Nat.zero_le _) ⟨rfl, rfl, rfl, rfl, rfl, rfl, rfl, rfl, rfl, rfl, rfl, rfl, trivial⟩ rfl rfl) ?_
  refine WP_seq (vc_draw3 tabOk 12 [false, false, false, false, false, false, false, false, false, false, true, true] [[.box 23 ((encCoord c).map AV.d), .box 55 ((encPom X).map AV.d), .box 55 ((encPom W).map AV.d), .box 55 [.d (dstr emp), .d (dstr emp), .d (dstr emp), .d (dstr emp), .d (dstr emp), .d (dstr emp), .d (dstr emp), .nils, .nils, .nils]], [.box 23 ((encCoord c).map AV.d), .box 55 ((encPom X).map AV.d), .box 55 ((encPom W).map AV.d), .box 55 ((encPom X).map AV.d)]] (by kernel_rfl) ?_)
  refine And.intro rfl (And.intro rfl (And.intro (And.intro (And.intro rfl (And.intro rfl rfl)) (And.intro (And.intro rfl (And.intro rfl rfl)) (And.intro (And.intro rfl (And.intro rfl rfl)) trivial))) ?_))
  refine And.intro rfl (And.intro rfl (And.intro (And.intro (And.intro rfl (And.intro rfl rfl)) (And.intro (And.intro rfl (And.intro rfl rfl)) (And.intro (And.intro rfl (And.intro rfl rfl)) trivial))) ?_))
  refine And.intro rfl (And.intro (And.intro (And.intro rfl rfl) (And.intro (And.intro rfl rfl) (And.intro (And.intro rfl rfl) trivial))) ?_)
  refine And.intro rfl (And.intro (by decide) (And.intro (by show (2 : Int) < 3; decide) (And.intro rfl (And.intro (And.intro (And.intro rfl (And.intro (by decide) (And.intro (by show (2 : Int) < 3; decide) (And.intro rfl rfl)))) (And.intro (And.intro rfl (And.intro (by decide) (And.intro (by show (2 : Int) < 3; decide) (And.intro rfl rfl)))) (And.intro (And.intro rfl (And.intro (by decide) (And.intro (by show (2 : Int) < 3; decide) (And.intro rfl rfl)))) trivial))) ?_))))
  refine And.intro (Nat.le_of_ble_eq_true rfl) (And.intro rfl (And.intro (And.intro (And.intro (Nat.le_of_ble_eq_true rfl) (And.intro rfl rfl)) (And.intro (And.intro (Nat.le_of_ble_eq_true rfl) (And.intro rfl rfl)) (And.intro (And.intro (Nat.le_of_ble_eq_true rfl) (And.intro rfl rfl)) trivial))) ?_))
  refine And.intro rfl (And.intro (by decide) (And.intro (by decide) (And.intro rfl (Or.inl (And.intro rfl (And.intro (And.intro (And.intro rfl (And.intro (by decide) (And.intro (by decide) (And.intro rfl (Or.inl (And.intro rfl rfl)))))) (And.intro (And.intro rfl (And.intro (by decide) (And.intro (by decide) (And.intro rfl (Or.inl (And.intro rfl rfl)))))) (And.intro (And.intro rfl (And.intro (by decide) (And.intro (by decide) (And.intro rfl (Or.inl (And.intro rfl rfl)))))) trivial))) ?_))))))
  refine And.intro rfl (Exists.intro _ (Exists.intro _ (And.intro (iMt) (And.intro (And.intro (DLe.refl _) (And.intro (DLe.tl zPom rfl) trivial)) (And.intro rfl (And.intro (And.intro (And.intro rfl (Exists.intro _ (Exists.intro _ (And.intro (iMt) (And.intro (And.intro (DLe.refl _) (And.intro (DLe.tl zPom rfl) trivial)) (And.intro rfl rfl)))))) (And.intro (And.intro rfl (Exists.intro _ (Exists.intro _ (And.intro (iMt) (And.intro (And.intro (DLe.refl _) (And.intro (DLe.tl zPom rfl) trivial)) (And.intro rfl rfl)))))) (And.intro (And.intro rfl (Exists.intro _ (Exists.intro _ (And.intro (iMt) (And.intro (And.intro (DLe.refl _) (And.intro (DLe.tl zPom rfl) trivial)) (And.intro rfl rfl)))))) trivial))) ?_))))))
  refine And.intro rfl (And.intro (And.intro (And.intro rfl rfl) (And.intro (And.intro rfl rfl) (And.intro (And.intro rfl rfl) trivial))) ?_)
  refine And.intro rfl (And.intro (And.intro (And.intro rfl rfl) (And.intro (And.intro rfl rfl) (And.intro (And.intro rfl rfl) trivial))) ?_)
  refine And.intro rfl (And.intro (And.intro (And.intro rfl rfl) (And.intro (And.intro rfl rfl) (And.intro (And.intro rfl rfl) trivial))) ?_)
  refine And.intro rfl ?_
  refine And.intro rfl (And.intro (Nat.le_of_ble_eq_true rfl) (And.intro rfl ?_))
  refine WP_sub (Sub.ofL [(10, .ptr 1 0), (11, .int 0), (13, .int 0), (14, .ptr 3 0), (15, .int 0)] [.box 23 ((encCoord c).map AV.d), .box 55 ((encPom X).map AV.d), .box 55 ((encPom W).map AV.d), .box 55 ((encPom X).map AV.d)] (Nat.zero_le _) ⟨rfl, rfl, rfl, rfl, rfl, rfl, rfl, rfl, rfl, rfl, trivial⟩ rfl rfl) ?_
  refine WP_seq (vc_sound tabOk (by kernel_rfl) ?_)
  refine And.intro rfl (Exists.intro _ (Exists.intro _ (And.intro awake25_impl (And.intro (AsLe.refl _) ?_))))
  apply And.intro
  · exact ltb rfl
  refine And.intro (fun _ => ?_) (fun h => absurd rfl h)
  apply And.intro
  · exact ltb rfl
  refine And.intro (fun _ => And.intro rfl ?_) (fun h => absurd rfl h)
  refine And.intro (fun _ => ?_) (fun h => by cases h)
  apply And.intro
  · exact ltb rfl
  refine And.intro (fun _ => ?_) (fun h => absurd rfl h)
  apply And.intro
  · exact ltb rfl
  refine And.intro (fun _ => And.intro rfl ?_) (fun h => absurd rfl h)
  refine And.intro (fun _ => ?_) (fun h => by cases h)
  apply And.intro
  · exact ltb rfl
  refine And.intro (fun _ => ?_) (fun h => absurd rfl h)
  apply And.intro
  · exact ltb rfl
  refine And.intro (fun _ => And.intro rfl ?_) (fun h => absurd rfl h)
  refine And.intro (fun _ => ?_) (fun h => by cases h)
  apply And.intro
  · exact ltb rfl
  refine And.intro (fun _ => And.intro rfl ?_) (fun h => absurd rfl h)
  apply And.intro
  · exact ltb rfl
  refine And.intro (fun _ => And.intro rfl ?_) (fun h => absurd rfl h)
  apply And.intro
  · exact ltb rfl
  refine And.intro (fun _ => And.intro rfl (Exists.intro _ (Exists.intro _ (And.intro (Pom_self X s1 s2 s3 s4 s5) (And.intro (AsLe.refl _) ?_))))) (fun h => absurd rfl h)
  refine And.intro (fun _ => ?_) (fun h => by cases h)
  refine WP_ret ?_
  exact And.intro (DLe.refl _) trivial
end Go.Proofs.Nw.K
end
