/- Bundle 10: NwL9. -/
import Derived.Test.YtjfpnnmagnljnaaNwA9
section
/- L9: the law InheritOver. -/
open Go Go.RowKit Go.Proofs
set_option linter.unusedVariables false
set_option linter.unusedSimpArgs false
namespace Go.Proofs.Nw.K

def inPair (l : List Pair) (x : Pair) : Bool := l.any fun y => eqStrs [y.name, y.value] [x.name, x.value]
theorem inPair_mem {l : List Pair} {x : Pair} (h : x ∈ l) : inPair l x = true := by
  unfold inPair; rw [List.any_eq_true]; exact ⟨x, h, eqStrs_self _⟩
theorem In34_impl (l : List Pair) (x : Pair) (hl : l.length ≤ 4194304) : Impl Try.prog 34 [.one (dPairs l), .agg (encPair x)] [.one (dbool (inPair l x))] := by
  refine impl_vc tabOk Try.func34 rfl rfl (by exact Nat.le_of_ble_eq_true rfl) ?_
  refine WP_seq (vc_sound tabOk (by kernel_rfl) ?_)
  refine WP_seq (WP_seq (vc_sound tabOk (by kernel_rfl) ?_))
  refine WP_block (WP_loop (α := {i : Nat // i ≤ l.length ∧ inPair (l.take i) x = false}) (fun i => ofL [(0, .d (dPairs l)), (3, .ptr 0 0), (5, .int (i.1 : Int))]) (fun _ => [.box 66 ((encPair x).map AV.d)]) (fun i => l.length - i.1) ⟨0, Nat.zero_le _, rfl⟩ ?_ ?_)
  · exact Sub.ofL _ _ (Nat.zero_le _) ⟨rfl, rfl, rfl, rfl, rfl, rfl, trivial⟩ rfl rfl
  rintro ⟨i, hi, hno⟩
  refine WP_seq (vc_sound tabOk (by kernel_rfl) ?_)
  refine And.intro rfl (And.intro (fun h => ?_) (fun h => ?_))
  · have h : decide ((i : Int) < (l.length : Int)) = true := h
    have hlt : i < l.length := by have := of_decide_eq_true h; omega
    have hg : l.getD ((i : Int)).toNat zPair = l[i] := by simp [List.getD, hlt]
    have stp : inPair (l.take (i + 1)) x = (inPair (l.take i) x || eqStrs [l[i].name, l[i].value] [x.name, x.value]) := by
      rw [List.take_succ_eq_append_getElem hlt]; unfold inPair; rw [List.any_append]; simp only [List.any_cons, List.any_nil, Bool.or_false]
    refine WP_seq (WP_block (WP_seq (vc_sound tabOk (by kernel_rfl) ?_)))
    refine And.intro rfl (And.intro rfl ?_)
    refine And.intro rfl (And.intro (Int.natCast_nonneg _) (And.intro (by show (i : Int) < (l.length : Int); omega) (And.intro rfl ?_)))
    refine And.intro (Nat.le_of_ble_eq_true rfl) (And.intro rfl ?_)
    refine And.intro rfl (And.intro rfl ?_)
    refine And.intro rfl (And.intro rfl (And.intro rfl ?_))
    refine vc_sound tabOk (by kernel_rfl) ?_
    refine And.intro (fun he => ?_) (fun he => ?_)
    · have he : eqStrs [(l.getD ((i : Int)).toNat zPair).name, (l.getD ((i : Int)).toNat zPair).value] [x.name, x.value] = true := he
      rw [hg] at he
      refine And.intro (DLe.of_eq ?_) trivial
      have : inPair l x = true := by unfold inPair; rw [List.any_eq_true]; exact ⟨l[i], List.getElem_mem hlt, he⟩
      rw [this]
    · have he : eqStrs [(l.getD ((i : Int)).toNat zPair).name, (l.getD ((i : Int)).toNat zPair).value] [x.name, x.value] = false := he
      rw [hg] at he
      refine vc_sound tabOk (by kernel_rfl) ?_
      refine And.intro rfl (And.intro ⟨by omega, by show (i : Int) + 1 ≤ _; omega⟩ ?_)
      exact ⟨⟨i + 1, hlt, by rw [stp, hno, he]; rfl⟩, by show l.length - (i + 1) < l.length - i; omega, Sub.ofL _ _ (Nat.zero_le _) ⟨rfl, rfl, rfl, rfl, rfl, rfl, trivial⟩ rfl rfl⟩
  · have h : decide ((i : Int) < (l.length : Int)) = false := h
    have h0 : l.take i = l := List.take_of_length_le (by have := of_decide_eq_false h; omega)
    refine vc_sound tabOk (by kernel_rfl) ?_
    refine And.intro (DLe.of_eq ?_) trivial
    rw [← h0, hno]

/-! ### plain -/
theorem foldN_mem {l : List Pair} {x : Pair} (h : x ∈ foldN l) : x ∈ l := by
  have key : ∀ (l out : List Pair), x ∈ l.foldl stepN out → x ∈ out ∨ x ∈ l := by
    intro l
    induction l with
    | nil => intro out h; exact .inl h
    | cons y r ih =>
      intro out h
      rcases ih _ h with h | h
      · unfold stepN at h
        split at h
        · exact .inl h
        · rcases List.mem_append.1 h with h | h
          · exact .inl h
          · have : x = y := by simpa using h
            subst this; exact .inr (by simp)
      · exact .inr (by simp [h])
  rcases key l [] h with h | h
  · simp at h
  · exact h
theorem propsOf_mem {l : List Pair} {x : Pair} (h : x ∈ propsOf l) : x ∈ l := foldN_mem ((sortP_facts (foldN l)).1.mem_iff.1 h)
theorem foldN_keeps (l : List Pair) : ∀ out : List Pair, ∀ x ∈ out, x ∈ l.foldl stepN out := by
  induction l with
  | nil => intro out x h; exact h
  | cons y r ih =>
    intro out x h
    refine ih _ x ?_
    unfold stepN
    split
    · exact h
    · exact List.mem_append_left _ h
theorem propsOf_first {l r : List Pair} (h : l.Pairwise (fun a b => b.name ≠ a.name)) {x : Pair} (hx : x ∈ l) : x ∈ propsOf (l ++ r) := by
  refine (sortP_facts (foldN (l ++ r))).1.mem_iff.2 ?_
  unfold foldN
  rw [List.foldl_append, foldN_id l [] (fun d _ => by simp [hasName]) h]
  exact foldN_keeps r _ x (by simpa using hx)

set_option maxHeartbeats 2000000 in
theorem InheritOver_impl (c : Coord) (a b : Pom) (_ : True) (_ : True) (_ : True) (h : c.wt + a.wt + b.wt ≤ 1048576) :
    Impl Try.prog 9 [.agg (encCoord c), .agg (encPom a), .agg (encPom b)] [.one (.sc (.bool true))] := by
  obtain ⟨_, hF, _⟩ := poms_ok [a, b] (by simp only [List.map_cons, List.map_nil, List.sum_cons, List.sum_nil]; omega)
  obtain ⟨a1, a2, a3, a4⟩ := pom_in a (by omega)
  obtain ⟨b1, b2, b3, b4⟩ := pom_in b (by omega)
  have hA := plPom_small a
  have hB := plPom_small b
  have hAn : (plPom a).props.Pairwise (fun a b => b.name ≠ a.name) := (plProps_ok a.props).2.1
  have iA := plPom_impl a a1 a2 a3 a4
  have iB := plPom_impl b b1 b2 b3 b4
  generalize plPom a = A at *
  generalize plPom b = B at *
  have e1 : propsIn [A, B] = A.props ++ B.props := by simp [propsIn]
  have e2 : managedIn [A, B] = A.managed ++ B.managed := by simp [managedIn]
  have e3 : depsIn [A, B] = A.deps ++ B.deps := by simp [depsIn]
  have e4 : propsIn [A] = A.props := by simp [propsIn]
  have e5 : managedIn [A] = A.managed := by simp [managedIn]
  have e6 : depsIn [A] = A.deps := by simp [depsIn]
  obtain ⟨hA1, hA2, hA3, hA4, hA5⟩ := hA
  obtain ⟨hB1, hB2, hB3, hB4, hB5⟩ := hB
  have w2 : ∀ x ∈ managedIn [A, B], x.wt ≤ 4194304 := fun x hx => by
    rw [e2] at hx
    rcases List.mem_append.1 hx with hx | hx
    · have := hA4 x hx; omega
    · have := hB4 x hx; omega
  have w3 : ∀ x ∈ depsIn [A, B], x.wt ≤ 4194304 := fun x hx => by
    rw [e3] at hx
    rcases List.mem_append.1 hx with hx | hx
    · have := hA5 x hx; omega
    · have := hB5 x hx; omega
  have w5 : ∀ x ∈ managedIn [A], x.wt ≤ 4194304 := fun x hx => by rw [e5] at hx; have := hA4 x hx; omega
  have w6 : ∀ x ∈ depsIn [A], x.wt ≤ 4194304 := fun x hx => by rw [e6] at hx; have := hA5 x hx; omega
  have l1 : (propsIn [A, B]).length ≤ 12 := by rw [e1, List.length_append]; omega
  have l2 : (managedIn [A, B]).length ≤ 12 := by rw [e2, List.length_append]; omega
  have l3 : (depsIn [A, B]).length ≤ 12 := by rw [e3, List.length_append]; omega
  have l4 : (propsIn [A]).length ≤ 12 := by rw [e4]; omega
  have l5 : (managedIn [A]).length ≤ 12 := by rw [e5]; omega
  have l6 : (depsIn [A]).length ≤ 12 := by rw [e6]; omega
  have iM := Merge_impl c [A, B] (by simp) (by omega) (by omega) w2 (by omega) w3
  have iQ := Merge_impl c [A] (by simp) (by omega) (by omega) w5 (by omega) w6
  obtain ⟨f1, g1⟩ := small_merge c [A, B] (by omega) (by omega) (by omega)
  obtain ⟨f2, g2⟩ := small_merge c [A] (by omega) (by omega) (by omega)
  rw [f1, g1] at iM
  rw [f2, g2] at iQ
  have mg : (merged c [A, B]).group = c.group := rfl
  have mv : (merged c [A, B]).version = c.version := rfl
  have mn : (merged c [A, B]).name = A.name := rfl
  have mp : (merged c [A, B]).parent = zCoord := rfl
  have mP : (merged c [A, B]).props = propsOf (A.props ++ B.props) := by rw [← e1]; rfl
  have mD : (merged c [A, B]).deps = firstOf (A.deps ++ B.deps) := by rw [← e3]; rfl
  have qP : (merged c [A]).props = propsOf A.props := by rw [← e4]; rfl
  have qD : (merged c [A]).deps = firstOf A.deps := by rw [← e6]; rfl
  generalize merged c [A, B] = M at *
  generalize merged c [A] = Q at *
  have mPl : M.props.length ≤ 12 := by rw [mP]; have := propsOf_length (A.props ++ B.props); rw [List.length_append] at this; omega
  have qPl : Q.props.length ≤ 12 := by rw [qP]; have := propsOf_length A.props; omega
  have mDl : M.deps.length ≤ 12 := by rw [mD]; have := firstOf_length (A.deps ++ B.deps); rw [List.length_append] at this; omega
  have hpre : Q.deps <+: M.deps := by
    rw [mD, qD]
    have := firstOf_prefix (A.deps ++ B.deps) A.deps.length
    rwa [List.take_left] at this
  have hnle : Q.deps.length ≤ M.deps.length := hpre.length_le
  have htake : M.deps.take Q.deps.length = Q.deps := (List.prefix_iff_eq_take.1 hpre).symm
  have hpair : M.deps.Pairwise (fun a b => ikeyOf b ≠ ikeyOf a) := by rw [mD]; exact firstOf_pair _
  have mw : ∀ x ∈ M.deps, x.wt ≤ 4194304 := fun x hx => by
    rw [mD] at hx
    exact w3 x (by rw [e3]; exact firstOf_mem hx)
  have qw : ∀ x ∈ Q.deps, x.excluded.length ≤ 4194304 := fun x hx => ex_len (mw x (hpre.subset hx))
  have in1 : ∀ x ∈ A.props, inPair M.props x = true := fun x hx => inPair_mem (by rw [mP]; exact propsOf_first hAn hx)
  have in2 : ∀ x ∈ A.props, inPair Q.props x = true := fun x hx => inPair_mem (by rw [qP]; have := propsOf_first (r := []) hAn hx; rwa [List.append_nil] at this)
  have in3 : ∀ x ∈ M.props, inPair A.props x = true ∨ inPair B.props x = true := fun x hx => by
    rw [mP] at hx
    rcases List.mem_append.1 (propsOf_mem hx) with h | h
    · exact .inl (inPair_mem h)
    · exact .inr (inPair_mem h)
  have hSS : SS M.props := by rw [mP]; exact propsOf_SS _
  refine impl_vc tabOk Try.func9 rfl rfl (by exact Nat.le_of_ble_eq_true rfl) ?_
  refine WP_seq (vc_sound tabOk (by kernel_rfl) ?_)
  refine WP_seq (vc_sound tabOk (by kernel_rfl) ?_)
  refine And.intro rfl (And.intro rfl ?_)
  refine And.intro rfl (And.intro (by decide) (And.intro (by decide) (And.intro rfl (Or.inl ?_))))
  refine And.intro rfl (Exists.intro _ (Exists.intro _ (And.intro (Few_impl [a, b] hF) (And.intro (And.intro (DLe.tl zPom rfl) trivial) ?_))))
  refine And.intro (fun _ => ?_) (fun _ => ?_)
  · refine And.intro rfl (Exists.intro _ (Exists.intro _ (And.intro awake25_impl (And.intro (AsLe.refl _) ?_))))
    exact And.intro (DLe.refl _) trivial
  refine WP_sub (Sub.ofL [(3, .ptr 0 0), (4, .ptr 1 0), (5, .ptr 2 0)] [.box 23 ((encCoord c).map AV.d), .box 55 ((encPom a).map AV.d), .box 55 ((encPom b).map AV.d)] (Nat.zero_le _) ⟨rfl, rfl, rfl, rfl, rfl, rfl, trivial⟩ rfl rfl) ?_
  refine WP_seq (vc_draw2 tabOk 4 (by kernel_rfl) ?_)
  refine And.intro rfl (And.intro rfl ?_)
  refine And.intro rfl (Exists.intro _ (Exists.intro _ (And.intro (iA) (And.intro (AsLe.refl _) (And.intro rfl ?_)))))
  refine And.intro rfl (And.intro rfl ?_)
  refine And.intro rfl (Exists.intro _ (Exists.intro _ (And.intro (iB) (And.intro (AsLe.refl _) (And.intro rfl ?_)))))
  refine And.intro rfl (And.intro (Nat.le_of_ble_eq_true rfl) ?_)
  refine And.intro rfl (And.intro (Nat.le_of_ble_eq_true rfl) ?_)
  refine WP_sub (Sub.ofL [(3, .ptr 0 0), (4, .ptr 1 0), (5, .ptr 2 0)] [.box 23 ((encCoord c).map AV.d), .box 55 ((encPom A).map AV.d), .box 55 ((encPom B).map AV.d)] (Nat.zero_le _) ⟨rfl, rfl, rfl, rfl, rfl, rfl, trivial⟩ rfl rfl) ?_
  refine WP_seq (vc_sound tabOk (by kernel_rfl) ?_)
  refine And.intro rfl (And.intro rfl (And.intro rfl ?_))
  refine And.intro rfl (And.intro (by decide) (And.intro (by decide) (And.intro rfl (Or.inl ?_))))
  refine And.intro rfl (Exists.intro _ (Exists.intro _ (And.intro iM (And.intro (And.intro (DLe.refl _) (And.intro (DLe.tl zPom rfl) trivial)) ?_))))
  refine And.intro rfl (And.intro (Nat.le_of_ble_eq_true rfl) ?_)
  refine WP_sub (Sub.ofL [(3, .ptr 0 0), (4, .ptr 1 0), (5, .ptr 2 0), (7, .ptr 3 0), (8, .int 0)] [.box 23 ((encCoord c).map AV.d), .box 55 ((encPom A).map AV.d), .box 55 ((encPom B).map AV.d), .box 55 ((encPom M).map AV.d)] (Nat.zero_le _) ⟨rfl, rfl, rfl, rfl, rfl, rfl, rfl, rfl, rfl, rfl, trivial⟩ rfl rfl) ?_
  refine WP_seq (vc_sound tabOk (by kernel_rfl) ?_)
  refine And.intro rfl (And.intro rfl ?_)
  refine And.intro rfl (And.intro (by decide) (And.intro (by decide) (And.intro rfl (Or.inl ?_))))
  refine And.intro rfl (Exists.intro _ (Exists.intro _ (And.intro iQ (And.intro (And.intro (DLe.refl _) (And.intro (DLe.tl zPom rfl) trivial)) ?_))))
  refine And.intro rfl (And.intro (Nat.le_of_ble_eq_true rfl) ?_)
  refine WP_sub (Sub.ofL [(3, .ptr 0 0), (4, .ptr 1 0), (5, .ptr 2 0), (7, .ptr 3 0), (8, .int 0), (9, .ptr 4 0), (10, .int 0)] [.box 23 ((encCoord c).map AV.d), .box 55 ((encPom A).map AV.d), .box 55 ((encPom B).map AV.d), .box 55 ((encPom M).map AV.d), .box 55 ((encPom Q).map AV.d)] (Nat.zero_le _) ⟨rfl, rfl, rfl, rfl, rfl, rfl, rfl, rfl, rfl, rfl, rfl, rfl, rfl, rfl, trivial⟩ rfl rfl) ?_
  have zg : (!(M.group.toList == c.group.toList)) = false := by rw [mg, self_str]; rfl
  have zv : (!(M.version.toList == c.version.toList)) = false := by rw [mv, self_str]; rfl
  have zn : (!(M.name.toList == A.name.toList)) = false := by rw [mn, self_str]; rfl
  have zp : (!eqStrs [M.parent.group, M.parent.name, M.parent.version] [emp, emp, emp]) = false := by rw [mp]; show (!eqStrs [emp, emp, emp] [emp, emp, emp]) = false; rw [eqStrs_self]; rfl
  refine WP_seq_cut (α := Unit) (fun _ => ofL [(3, .ptr 0 0), (4, .ptr 1 0), (5, .ptr 2 0), (7, .ptr 3 0), (8, .int 0), (9, .ptr 4 0), (10, .int 0)]) (fun _ => [.box 23 ((encCoord c).map AV.d), .box 55 ((encPom A).map AV.d), .box 55 ((encPom B).map AV.d), .box 55 ((encPom M).map AV.d), .box 55 ((encPom Q).map AV.d)]) (WP_seq (vc_sound tabOk (by kernel_rfl) ?_)) (fun _ => ?_)
  · refine And.intro rfl (Exists.intro _ (Exists.intro _ (And.intro awake25_impl (And.intro (AsLe.refl _) ?_))))
    apply And.intro
    · exact ltb rfl
    refine And.intro (fun _ => ?_) (fun h => absurd rfl h)
    apply And.intro
    · exact ltb rfl
    refine And.intro (fun _ => And.intro rfl ?_) (fun h => absurd rfl h)
    refine And.intro (fun h => by cases h) (fun _ => ?_)
    apply And.intro
    · exact ltb rfl
    refine And.intro (fun _ => ?_) (fun h => absurd rfl h)
    apply And.intro
    · exact ltb rfl
    refine And.intro (fun _ => And.intro rfl ?_) (fun h => absurd rfl h)
    refine And.intro (fun h => by cases h) (fun _ => ?_)
    apply And.intro
    · exact ltb rfl
    refine And.intro (fun _ => ?_) (fun h => absurd rfl h)
    apply And.intro
    · exact ltb rfl
    refine And.intro (fun _ => ?_) (fun h => absurd rfl h)
    apply And.intro
    · exact ltb rfl
    refine And.intro (fun _ => ?_) (fun h => absurd rfl h)
    apply And.intro
    · exact ltb rfl
    refine And.intro (fun _ => ?_) (fun h => absurd rfl h)
    apply And.intro
    · exact ltb rfl
    refine And.intro (fun _ => ?_) (fun h => absurd rfl h)
    refine And.intro (fun h => by cases h) (fun _ => ?_)
    apply And.intro
    · exact ltb rfl
    refine And.intro (fun _ => ?_) (fun h => absurd zg h)
    apply And.intro
    · exact ltb rfl
    refine And.intro (fun _ => ?_) (fun h => absurd zg h)
    apply And.intro
    · exact ltb rfl
    refine And.intro (fun _ => ?_) (fun h => absurd zg h)
    apply And.intro
    · exact ltb rfl
    refine And.intro (fun _ => ?_) (fun h => absurd zg h)
    apply And.intro
    · exact ltb rfl
    refine And.intro (fun _ => ?_) (fun h => absurd zg h)
    refine And.intro (fun h => absurd (zg.symm.trans h) (by decide)) (fun _ => ?_)
    apply And.intro
    · exact ltb rfl
    refine And.intro (fun _ => ?_) (fun h => absurd zv h)
    apply And.intro
    · exact ltb rfl
    refine And.intro (fun _ => ?_) (fun h => absurd zv h)
    apply And.intro
    · exact ltb rfl
    refine And.intro (fun _ => ?_) (fun h => absurd zv h)
    apply And.intro
    · exact ltb rfl
    refine And.intro (fun _ => ?_) (fun h => absurd zv h)
    apply And.intro
    · exact ltb rfl
    refine And.intro (fun _ => ?_) (fun h => absurd zv h)
    refine And.intro (fun h => absurd (zv.symm.trans h) (by decide)) (fun _ => ?_)
    apply And.intro
    · exact ltb rfl
    refine And.intro (fun _ => ?_) (fun h => absurd zn h)
    apply And.intro
    · exact ltb rfl
    refine And.intro (fun _ => And.intro rfl ?_) (fun h => absurd zn h)
    apply And.intro
    · exact ltb rfl
    refine And.intro (fun _ => ?_) (fun h => absurd zn h)
    apply And.intro
    · exact ltb rfl
    refine And.intro (fun _ => And.intro rfl (And.intro rfl ?_)) (fun h => absurd zn h)
    refine And.intro (fun h => absurd (zn.symm.trans h) (by decide)) (fun _ => ?_)
    refine vc_sound tabOk (by kernel_rfl) ?_
    refine And.intro (fun h => absurd (zp.symm.trans h) (by decide)) (fun _ => ?_)
    exact ⟨(), Sub.ofL _ _ (Nat.zero_le _) ⟨rfl, rfl, rfl, rfl, rfl, rfl, rfl, rfl, rfl, rfl, rfl, rfl, rfl, rfl, trivial⟩ rfl rfl⟩
  refine WP_seq_cut (α := Unit) (fun _ => ofL [(3, .ptr 0 0), (4, .ptr 1 0), (5, .ptr 2 0), (7, .ptr 3 0), (8, .int 0), (9, .ptr 4 0), (10, .int 0)]) (fun _ => [.box 23 ((encCoord c).map AV.d), .box 55 ((encPom A).map AV.d), .box 55 ((encPom B).map AV.d), .box 55 ((encPom M).map AV.d), .box 55 ((encPom Q).map AV.d)]) (WP_seq (vc_sound tabOk (by kernel_rfl) ?_)) (fun _ => ?_)
  · refine WP_block (WP_loop (α := {i : Nat // i ≤ A.props.length}) (fun i => ofL [(3, .ptr 0 0), (4, .ptr 1 0), (5, .ptr 2 0), (7, .ptr 3 0), (8, .int 0), (9, .ptr 4 0), (10, .int 0), (11, .int (i.1 : Int))]) (fun _ => [.box 23 ((encCoord c).map AV.d), .box 55 ((encPom A).map AV.d), .box 55 ((encPom B).map AV.d), .box 55 ((encPom M).map AV.d), .box 55 ((encPom Q).map AV.d)]) (fun i => A.props.length - i.1) ⟨0, Nat.zero_le _⟩ ?_ ?_)
    · exact Sub.ofL _ _ (Nat.zero_le _) ⟨rfl, rfl, rfl, rfl, rfl, rfl, rfl, rfl, rfl, rfl, rfl, rfl, rfl, rfl, rfl, rfl, trivial⟩ rfl rfl
    rintro ⟨i, hi⟩
    refine WP_seq (vc_sound tabOk (by kernel_rfl) ?_)
    refine And.intro rfl (And.intro (fun h => ?_) (fun h => ?_))
    rotate_left
    · exact ⟨(), Sub.ofL _ _ (Nat.zero_le _) ⟨rfl, rfl, rfl, rfl, rfl, rfl, rfl, rfl, rfl, rfl, rfl, rfl, rfl, rfl, trivial⟩ rfl rfl⟩
    have h : decide ((i : Int) < (A.props.length : Int)) = true := h
    have hlt : i < A.props.length := by have := of_decide_eq_true h; omega
    have hlz : (i : Int) < (A.props.length : Int) := by omega
    have hmem : A.props.getD ((i : Int)).toNat zPair ∈ A.props := by rw [show A.props.getD ((i : Int)).toNat zPair = A.props[i] by simp [List.getD, hlt]]; exact List.getElem_mem hlt
    have z1 : (!inPair M.props (A.props.getD ((i : Int)).toNat zPair)) = false := by rw [in1 _ hmem]; rfl
    have z2 : (!inPair Q.props (A.props.getD ((i : Int)).toNat zPair)) = false := by rw [in2 _ hmem]; rfl
    refine WP_seq (WP_block (WP_seq (vc_sound tabOk (by kernel_rfl) ?_)))
    refine And.intro rfl ?_
    refine And.intro rfl ?_
    refine And.intro rfl ?_
    refine And.intro rfl ?_
    refine And.intro rfl ?_
    refine And.intro rfl (And.intro (Int.natCast_nonneg _) (And.intro hlz (And.intro rfl ?_)))
    refine And.intro (Nat.le_of_ble_eq_true rfl) (And.intro rfl ?_)
    refine And.intro rfl (Exists.intro _ (Exists.intro _ (And.intro (In34_impl M.props (A.props.getD ((i : Int)).toNat zPair) (by omega)) (And.intro (AsLe.refl _) (And.intro rfl ?_)))))
    refine And.intro rfl ?_
    refine And.intro rfl ?_
    apply And.intro
    · exact ltb rfl
    refine And.intro (fun _ => And.intro rfl ?_) (fun h => absurd z1 h)
    apply And.intro
    · exact ltb rfl
    refine And.intro (fun _ => And.intro rfl ?_) (fun h => absurd z1 h)
    apply And.intro
    · exact ltb rfl
    refine And.intro (fun _ => And.intro rfl ?_) (fun h => absurd z1 h)
    apply And.intro
    · exact ltb rfl
    refine And.intro (fun _ => And.intro rfl ?_) (fun h => absurd z1 h)
    apply And.intro
    · exact ltb rfl
    refine And.intro (fun _ => And.intro rfl ?_) (fun h => absurd z1 h)
    apply And.intro
    · exact ltb rfl
    refine And.intro (fun _ => And.intro rfl (And.intro (Int.natCast_nonneg _) (And.intro hlz (And.intro rfl ?_)))) (fun h => absurd z1 h)
    apply And.intro
    · exact ltb rfl
    refine And.intro (fun _ => And.intro (Nat.le_of_ble_eq_true rfl) (And.intro rfl ?_)) (fun h => absurd z1 h)
    apply And.intro
    · exact ltb rfl
    refine And.intro (fun _ => And.intro rfl (Exists.intro _ (Exists.intro _ (And.intro (In34_impl Q.props (A.props.getD ((i : Int)).toNat zPair) (by omega)) (And.intro (AsLe.refl _) (And.intro rfl ?_)))))) (fun h => absurd z1 h)
    apply And.intro
    · exact ltb rfl
    refine And.intro (fun _ => And.intro rfl ?_) (fun h => absurd z1 h)
    refine And.intro (fun h => absurd (z1.symm.trans h) (by decide)) (fun _ => And.intro rfl ?_)
    refine vc_sound tabOk (by kernel_rfl) ?_
    refine And.intro (fun h => absurd (z2.symm.trans h) (by decide)) (fun _ => ?_)
    refine vc_sound tabOk (by kernel_rfl) ?_
    refine And.intro rfl (And.intro ⟨by omega, by show (i : Int) + 1 ≤ _; omega⟩ ?_)
    exact ⟨⟨i + 1, hlt⟩, by show A.props.length - (i + 1) < A.props.length - i; omega, Sub.ofL _ _ (Nat.zero_le _) ⟨rfl, rfl, rfl, rfl, rfl, rfl, rfl, rfl, rfl, rfl, rfl, rfl, rfl, rfl, rfl, rfl, trivial⟩ rfl rfl⟩
  refine WP_seq_cut (α := Unit) (fun _ => ofL [(3, .ptr 0 0), (4, .ptr 1 0), (5, .ptr 2 0), (7, .ptr 3 0), (8, .int 0), (9, .ptr 4 0), (10, .int 0)]) (fun _ => [.box 23 ((encCoord c).map AV.d), .box 55 ((encPom A).map AV.d), .box 55 ((encPom B).map AV.d), .box 55 ((encPom M).map AV.d), .box 55 ((encPom Q).map AV.d)]) (WP_seq (vc_sound tabOk (by kernel_rfl) ?_)) (fun _ => ?_)
  · refine WP_block (WP_loop (α := {i : Nat // i ≤ M.props.length}) (fun i => ofL [(3, .ptr 0 0), (4, .ptr 1 0), (5, .ptr 2 0), (7, .ptr 3 0), (8, .int 0), (9, .ptr 4 0), (10, .int 0), (12, .int (i.1 : Int))]) (fun _ => [.box 23 ((encCoord c).map AV.d), .box 55 ((encPom A).map AV.d), .box 55 ((encPom B).map AV.d), .box 55 ((encPom M).map AV.d), .box 55 ((encPom Q).map AV.d)]) (fun i => M.props.length - i.1) ⟨0, Nat.zero_le _⟩ ?_ ?_)
    · exact Sub.ofL _ _ (Nat.zero_le _) ⟨rfl, rfl, rfl, rfl, rfl, rfl, rfl, rfl, rfl, rfl, rfl, rfl, rfl, rfl, rfl, rfl, trivial⟩ rfl rfl
    rintro ⟨i, hi⟩
    refine WP_seq (vc_sound tabOk (by kernel_rfl) ?_)
    refine And.intro rfl (And.intro (fun h => ?_) (fun h => ?_))
    rotate_left
    · exact ⟨(), Sub.ofL _ _ (Nat.zero_le _) ⟨rfl, rfl, rfl, rfl, rfl, rfl, rfl, rfl, rfl, rfl, rfl, rfl, rfl, rfl, trivial⟩ rfl rfl⟩
    have h : decide ((i : Int) < (M.props.length : Int)) = true := h
    have hlt : i < M.props.length := by have := of_decide_eq_true h; omega
    have hlz : (i : Int) < (M.props.length : Int) := by omega
    have hgi : M.props.getD ((i : Int)).toNat zPair = M.props[i] := by simp [List.getD, hlt]
    have hmem : M.props.getD ((i : Int)).toNat zPair ∈ M.props := by rw [hgi]; exact List.getElem_mem hlt
    have hor := in3 _ hmem
    refine WP_seq (WP_block (WP_seq_cut (α := Unit) (fun _ => ofL [(3, .ptr 0 0), (4, .ptr 1 0), (5, .ptr 2 0), (7, .ptr 3 0), (8, .int 0), (9, .ptr 4 0), (10, .int 0), (12, .int (i : Int)), (151, .bool false)]) (fun _ => [.box 23 ((encCoord c).map AV.d), .box 55 ((encPom A).map AV.d), .box 55 ((encPom B).map AV.d), .box 55 ((encPom M).map AV.d), .box 55 ((encPom Q).map AV.d)]) (vc_sound tabOk (by kernel_rfl) ?_) (fun _ => ?_)))
    rotate_left
    · refine vc_sound tabOk (by kernel_rfl) ?_
      refine And.intro (fun h => by cases h) (fun _ => ?_)
      refine vc_sound tabOk (by kernel_rfl) ?_
      refine And.intro rfl (And.intro ⟨by omega, by show (i : Int) + 1 ≤ _; omega⟩ ?_)
      exact ⟨⟨i + 1, hlt⟩, by show M.props.length - (i + 1) < M.props.length - i; omega, Sub.ofL _ _ (Nat.zero_le _) ⟨rfl, rfl, rfl, rfl, rfl, rfl, rfl, rfl, rfl, rfl, rfl, rfl, rfl, rfl, rfl, rfl, trivial⟩ rfl rfl⟩
    refine And.intro rfl ?_
    refine And.intro rfl ?_
    refine And.intro rfl ?_
    refine And.intro rfl ?_
    refine And.intro rfl ?_
    refine And.intro rfl (And.intro (Int.natCast_nonneg _) (And.intro hlz (And.intro rfl ?_)))
    refine And.intro (Nat.le_of_ble_eq_true rfl) (And.intro rfl ?_)
    refine And.intro rfl (Exists.intro _ (Exists.intro _ (And.intro (In34_impl A.props (M.props.getD ((i : Int)).toNat zPair) (by omega)) (And.intro (AsLe.refl _) (And.intro rfl ?_)))))
    refine And.intro rfl ?_
    refine And.intro rfl ?_
    cases hina : inPair A.props (M.props.getD ((i : Int)).toNat zPair) with
    | true =>
      apply And.intro
      · exact ltb rfl
      refine And.intro (fun h => by cases h) (fun _ => ?_)
      apply And.intro
      · exact ltb rfl
      refine And.intro (fun h => by cases h) (fun _ => ?_)
      apply And.intro
      · exact ltb rfl
      refine And.intro (fun h => by cases h) (fun _ => ?_)
      apply And.intro
      · exact ltb rfl
      refine And.intro (fun h => by cases h) (fun _ => ?_)
      apply And.intro
      · exact ltb rfl
      refine And.intro (fun h => by cases h) (fun _ => ?_)
      apply And.intro
      · exact ltb rfl
      refine And.intro (fun h => by cases h) (fun _ => ?_)
      apply And.intro
      · exact ltb rfl
      refine And.intro (fun h => by cases h) (fun _ => ?_)
      apply And.intro
      · exact ltb rfl
      refine And.intro (fun h => by cases h) (fun _ => ?_)
      apply And.intro
      · exact ltb rfl
      refine And.intro (fun h => by cases h) (fun _ => ?_)
      refine And.intro (fun h => by cases h) (fun _ => And.intro rfl ?_)
      refine And.intro rfl ?_
      cases hi0 : decide ((i : Int) > 0) with
      | false =>
        apply And.intro
        · exact ltb rfl
        refine And.intro (fun _ => And.intro rfl ?_) (fun h => absurd rfl h)
        apply And.intro
        · exact ltb rfl
        refine And.intro (fun _ => And.intro rfl (And.intro rfl ?_)) (fun h => absurd rfl h)
        apply And.intro
        · exact ltb rfl
        refine And.intro (fun _ => And.intro rfl ?_) (fun h => absurd rfl h)
        apply And.intro
        · exact ltb rfl
        refine And.intro (fun h => absurd (hi0.symm.trans h) (by decide)) (fun _ => ?_)
        apply And.intro
        · exact ltb rfl
        refine And.intro (fun h => absurd (hi0.symm.trans h) (by decide)) (fun _ => ?_)
        apply And.intro
        · exact ltb rfl
        refine And.intro (fun h => absurd (hi0.symm.trans h) (by decide)) (fun _ => ?_)
        apply And.intro
        · exact ltb rfl
        refine And.intro (fun h => absurd (hi0.symm.trans h) (by decide)) (fun _ => ?_)
        apply And.intro
        · exact ltb rfl
        refine And.intro (fun h => absurd (hi0.symm.trans h) (by decide)) (fun _ => ?_)
        apply And.intro
        · exact ltb rfl
        refine And.intro (fun h => absurd (hi0.symm.trans h) (by decide)) (fun _ => ?_)
        apply And.intro
        · exact ltb rfl
        refine And.intro (fun h => absurd (hi0.symm.trans h) (by decide)) (fun _ => ?_)
        apply And.intro
        · exact ltb rfl
        refine And.intro (fun h => absurd (hi0.symm.trans h) (by decide)) (fun _ => ?_)
        apply And.intro
        · exact ltb rfl
        refine And.intro (fun h => absurd (hi0.symm.trans h) (by decide)) (fun _ => ?_)
        apply And.intro
        · exact ltb rfl
        refine And.intro (fun h => absurd (hi0.symm.trans h) (by decide)) (fun _ => ?_)
        apply And.intro
        · exact ltb rfl
        refine And.intro (fun h => absurd (hi0.symm.trans h) (by decide)) (fun _ => ?_)
        apply And.intro
        · exact ltb rfl
        refine And.intro (fun h => absurd (hi0.symm.trans h) (by decide)) (fun _ => ?_)
        apply And.intro
        · exact ltb rfl
        refine And.intro (fun h => absurd (hi0.symm.trans h) (by decide)) (fun _ => ?_)
        apply And.intro
        · exact ltb rfl
        refine And.intro (fun h => absurd (hi0.symm.trans h) (by decide)) (fun _ => ?_)
        apply And.intro
        · exact ltb rfl
        refine And.intro (fun _ => And.intro (fun h => absurd (hi0.symm.trans h) (by decide)) (fun _ => And.intro rfl ?_)) (fun h => absurd rfl h)
        refine And.intro (fun h => by cases h) (fun _ => And.intro rfl ?_)
        exact ⟨(), Sub.ofL _ _ (Nat.zero_le _) ⟨rfl, rfl, rfl, rfl, rfl, rfl, rfl, rfl, rfl, rfl, rfl, rfl, rfl, rfl, rfl, rfl, rfl, rfl, trivial⟩ rfl rfl⟩
      | true =>
        have hpos : 0 < i := by have := of_decide_eq_true hi0; omega
        have hi1 : ((i : Int) - 1).toNat = i - 1 := by omega
        have hgj : M.props.getD ((i : Int) - 1).toNat zPair = M.props[i - 1] := by rw [hi1]; simp [List.getD, show i - 1 < M.props.length by omega]
        have hle : (Op.bytesLess (M.props.getD ((i : Int)).toNat zPair).name.toList (M.props.getD ((i : Int) - 1).toNat zPair).name.toList || (M.props.getD ((i : Int)).toNat zPair).name.toList == (M.props.getD ((i : Int) - 1).toNat zPair).name.toList) = false := by
          have hss := (List.pairwise_iff_getElem.1 hSS) (i - 1) i (by omega) hlt (by omega)
          rw [hgi, hgj, bytesLess_ltN, str_beq, decide_eq_false (fun hba => ltN_irrefl _ (ltN_trans hss hba)), decide_eq_false (fun e => by unfold ltN at hss; rw [e] at hss; exact List.lt_irrefl _ hss)]; rfl
        apply And.intro
        · exact ltb rfl
        refine And.intro (fun _ => And.intro rfl ?_) (fun h => absurd rfl h)
        apply And.intro
        · exact ltb rfl
        refine And.intro (fun _ => And.intro rfl (And.intro rfl ?_)) (fun h => absurd rfl h)
        apply And.intro
        · exact ltb rfl
        refine And.intro (fun _ => And.intro rfl ?_) (fun h => absurd rfl h)
        apply And.intro
        · exact ltb rfl
        refine And.intro (fun _ => And.intro rfl ?_) (fun h => absurd hi0 h)
        apply And.intro
        · exact ltb rfl
        refine And.intro (fun _ => And.intro rfl ?_) (fun h => absurd hi0 h)
        apply And.intro
        · exact ltb rfl
        refine And.intro (fun _ => And.intro rfl ?_) (fun h => absurd hi0 h)
        apply And.intro
        · exact ltb rfl
        refine And.intro (fun _ => And.intro rfl (And.intro (Int.natCast_nonneg _) (And.intro hlz (And.intro rfl ?_)))) (fun h => absurd hi0 h)
        apply And.intro
        · exact ltb rfl
        refine And.intro (fun _ => And.intro rfl ?_) (fun h => absurd hi0 h)
        apply And.intro
        · exact ltb rfl
        refine And.intro (fun _ => And.intro rfl ?_) (fun h => absurd hi0 h)
        apply And.intro
        · exact ltb rfl
        refine And.intro (fun _ => And.intro rfl ?_) (fun h => absurd hi0 h)
        apply And.intro
        · exact ltb rfl
        refine And.intro (fun _ => And.intro rfl ?_) (fun h => absurd hi0 h)
        apply And.intro
        · exact ltb rfl
        refine And.intro (fun _ => And.intro rfl ?_) (fun h => absurd hi0 h)
        apply And.intro
        · exact ltb rfl
        refine And.intro (fun _ => And.intro rfl (And.intro (by show _ ≤ (i : Int) - 1 ∧ (i : Int) - 1 ≤ _; omega) (And.intro rfl ?_))) (fun h => absurd hi0 h)
        apply And.intro
        · exact ltb rfl
        refine And.intro (fun _ => And.intro rfl (And.intro (by show 0 ≤ (i : Int) - 1; omega) (And.intro (by show (i : Int) - 1 < (M.props.length : Int); omega) (And.intro rfl ?_)))) (fun h => absurd hi0 h)
        apply And.intro
        · exact ltb rfl
        refine And.intro (fun _ => And.intro rfl ?_) (fun h => absurd hi0 h)
        apply And.intro
        · exact ltb rfl
        refine And.intro (fun _ => And.intro rfl ?_) (fun h => absurd hi0 h)
        apply And.intro
        · exact ltb rfl
        refine And.intro (fun _ => And.intro rfl ?_) (fun h => absurd hi0 h)
        apply And.intro
        · exact ltb rfl
        refine And.intro (fun _ => And.intro (fun _ => And.intro rfl ?_) (fun h => absurd (hi0.symm.trans h) (by decide))) (fun h => absurd rfl h)
        refine And.intro (fun h => by cases h) (fun _ => And.intro rfl ?_)
        refine ⟨(), Sub.ofL _ _ (Nat.zero_le _) ⟨rfl, rfl, rfl, rfl, rfl, rfl, rfl, rfl, rfl, rfl, rfl, rfl, rfl, rfl, rfl, rfl, ?_, rfl, trivial⟩ rfl rfl⟩
        exact congrArg AV.bool hle
    | false =>
      have hinb : inPair B.props (M.props.getD ((i : Int)).toNat zPair) = true := by
        rcases hor with h | h
        · rw [hina] at h; cases h
        · exact h
      have z3 : (!inPair B.props (M.props.getD ((i : Int)).toNat zPair)) = false := by rw [hinb]; rfl
      apply And.intro
      · exact ltb rfl
      refine And.intro (fun _ => And.intro rfl ?_) (fun h => absurd rfl h)
      apply And.intro
      · exact ltb rfl
      refine And.intro (fun _ => And.intro rfl ?_) (fun h => absurd rfl h)
      apply And.intro
      · exact ltb rfl
      refine And.intro (fun _ => And.intro rfl ?_) (fun h => absurd rfl h)
      apply And.intro
      · exact ltb rfl
      refine And.intro (fun _ => And.intro rfl ?_) (fun h => absurd rfl h)
      apply And.intro
      · exact ltb rfl
      refine And.intro (fun _ => And.intro rfl ?_) (fun h => absurd rfl h)
      apply And.intro
      · exact ltb rfl
      refine And.intro (fun _ => And.intro rfl (And.intro (Int.natCast_nonneg _) (And.intro hlz (And.intro rfl ?_)))) (fun h => absurd rfl h)
      apply And.intro
      · exact ltb rfl
      refine And.intro (fun _ => And.intro (Nat.le_of_ble_eq_true rfl) (And.intro rfl ?_)) (fun h => absurd rfl h)
      apply And.intro
      · exact ltb rfl
      refine And.intro (fun _ => And.intro rfl (Exists.intro _ (Exists.intro _ (And.intro (In34_impl B.props (M.props.getD ((i : Int)).toNat zPair) (by omega)) (And.intro (AsLe.refl _) (And.intro rfl ?_)))))) (fun h => absurd rfl h)
      apply And.intro
      · exact ltb rfl
      refine And.intro (fun _ => And.intro rfl ?_) (fun h => absurd rfl h)
      refine And.intro (fun _ => And.intro rfl ?_) (fun h => by cases h)
      refine And.intro rfl ?_
      cases hi0 : decide ((i : Int) > 0) with
      | false =>
        apply And.intro
        · exact ltb rfl
        refine And.intro (fun _ => And.intro rfl ?_) (fun h => absurd z3 h)
        apply And.intro
        · exact ltb rfl
        refine And.intro (fun _ => And.intro rfl (And.intro rfl ?_)) (fun h => absurd z3 h)
        apply And.intro
        · exact ltb rfl
        refine And.intro (fun _ => And.intro rfl ?_) (fun h => absurd z3 h)
        apply And.intro
        · exact ltb rfl
        refine And.intro (fun h => absurd (hi0.symm.trans h) (by decide)) (fun _ => ?_)
        apply And.intro
        · exact ltb rfl
        refine And.intro (fun h => absurd (hi0.symm.trans h) (by decide)) (fun _ => ?_)
        apply And.intro
        · exact ltb rfl
        refine And.intro (fun h => absurd (hi0.symm.trans h) (by decide)) (fun _ => ?_)
        apply And.intro
        · exact ltb rfl
        refine And.intro (fun h => absurd (hi0.symm.trans h) (by decide)) (fun _ => ?_)
        apply And.intro
        · exact ltb rfl
        refine And.intro (fun h => absurd (hi0.symm.trans h) (by decide)) (fun _ => ?_)
        apply And.intro
        · exact ltb rfl
        refine And.intro (fun h => absurd (hi0.symm.trans h) (by decide)) (fun _ => ?_)
        apply And.intro
        · exact ltb rfl
        refine And.intro (fun h => absurd (hi0.symm.trans h) (by decide)) (fun _ => ?_)
        apply And.intro
        · exact ltb rfl
        refine And.intro (fun h => absurd (hi0.symm.trans h) (by decide)) (fun _ => ?_)
        apply And.intro
        · exact ltb rfl
        refine And.intro (fun h => absurd (hi0.symm.trans h) (by decide)) (fun _ => ?_)
        apply And.intro
        · exact ltb rfl
        refine And.intro (fun h => absurd (hi0.symm.trans h) (by decide)) (fun _ => ?_)
        apply And.intro
        · exact ltb rfl
        refine And.intro (fun h => absurd (hi0.symm.trans h) (by decide)) (fun _ => ?_)
        apply And.intro
        · exact ltb rfl
        refine And.intro (fun h => absurd (hi0.symm.trans h) (by decide)) (fun _ => ?_)
        apply And.intro
        · exact ltb rfl
        refine And.intro (fun h => absurd (hi0.symm.trans h) (by decide)) (fun _ => ?_)
        apply And.intro
        · exact ltb rfl
        refine And.intro (fun h => absurd (hi0.symm.trans h) (by decide)) (fun _ => ?_)
        apply And.intro
        · exact ltb rfl
        refine And.intro (fun _ => And.intro (fun h => absurd (hi0.symm.trans h) (by decide)) (fun _ => And.intro rfl ?_)) (fun h => absurd z3 h)
        refine And.intro (fun h => absurd (z3.symm.trans h) (by decide)) (fun _ => And.intro rfl ?_)
        exact ⟨(), Sub.ofL _ _ (Nat.zero_le _) ⟨rfl, rfl, rfl, rfl, rfl, rfl, rfl, rfl, rfl, rfl, rfl, rfl, rfl, rfl, rfl, rfl, rfl, rfl, trivial⟩ rfl rfl⟩
      | true =>
        have hpos : 0 < i := by have := of_decide_eq_true hi0; omega
        have hi1 : ((i : Int) - 1).toNat = i - 1 := by omega
        have hgj : M.props.getD ((i : Int) - 1).toNat zPair = M.props[i - 1] := by rw [hi1]; simp [List.getD, show i - 1 < M.props.length by omega]
        have hle : (Op.bytesLess (M.props.getD ((i : Int)).toNat zPair).name.toList (M.props.getD ((i : Int) - 1).toNat zPair).name.toList || (M.props.getD ((i : Int)).toNat zPair).name.toList == (M.props.getD ((i : Int) - 1).toNat zPair).name.toList) = false := by
          have hss := (List.pairwise_iff_getElem.1 hSS) (i - 1) i (by omega) hlt (by omega)
          rw [hgi, hgj, bytesLess_ltN, str_beq, decide_eq_false (fun hba => ltN_irrefl _ (ltN_trans hss hba)), decide_eq_false (fun e => by unfold ltN at hss; rw [e] at hss; exact List.lt_irrefl _ hss)]; rfl
        apply And.intro
        · exact ltb rfl
        refine And.intro (fun _ => And.intro rfl ?_) (fun h => absurd z3 h)
        apply And.intro
        · exact ltb rfl
        refine And.intro (fun _ => And.intro rfl (And.intro rfl ?_)) (fun h => absurd z3 h)
        apply And.intro
        · exact ltb rfl
        refine And.intro (fun _ => And.intro rfl ?_) (fun h => absurd z3 h)
        apply And.intro
        · exact ltb rfl
        refine And.intro (fun _ => And.intro rfl ?_) (fun h => absurd hi0 h)
        apply And.intro
        · exact ltb rfl
        refine And.intro (fun _ => And.intro rfl ?_) (fun h => absurd hi0 h)
        apply And.intro
        · exact ltb rfl
        refine And.intro (fun _ => And.intro rfl ?_) (fun h => absurd hi0 h)
        apply And.intro
        · exact ltb rfl
        refine And.intro (fun _ => And.intro rfl (And.intro (Int.natCast_nonneg _) (And.intro hlz (And.intro rfl ?_)))) (fun h => absurd hi0 h)
        apply And.intro
        · exact ltb rfl
        refine And.intro (fun _ => And.intro rfl ?_) (fun h => absurd hi0 h)
        apply And.intro
        · exact ltb rfl
        refine And.intro (fun _ => And.intro rfl ?_) (fun h => absurd hi0 h)
        apply And.intro
        · exact ltb rfl
        refine And.intro (fun _ => And.intro rfl ?_) (fun h => absurd hi0 h)
        apply And.intro
        · exact ltb rfl
        refine And.intro (fun _ => And.intro rfl ?_) (fun h => absurd hi0 h)
        apply And.intro
        · exact ltb rfl
        refine And.intro (fun _ => And.intro rfl ?_) (fun h => absurd hi0 h)
        apply And.intro
        · exact ltb rfl
        refine And.intro (fun _ => And.intro rfl (And.intro (by show _ ≤ (i : Int) - 1 ∧ (i : Int) - 1 ≤ _; omega) (And.intro rfl ?_))) (fun h => absurd hi0 h)
        apply And.intro
        · exact ltb rfl
        refine And.intro (fun _ => And.intro rfl (And.intro (by show 0 ≤ (i : Int) - 1; omega) (And.intro (by show (i : Int) - 1 < (M.props.length : Int); omega) (And.intro rfl ?_)))) (fun h => absurd hi0 h)
        apply And.intro
        · exact ltb rfl
        refine And.intro (fun _ => And.intro rfl ?_) (fun h => absurd hi0 h)
        apply And.intro
        · exact ltb rfl
        refine And.intro (fun _ => And.intro rfl ?_) (fun h => absurd hi0 h)
        apply And.intro
        · exact ltb rfl
        refine And.intro (fun _ => And.intro rfl ?_) (fun h => absurd hi0 h)
        apply And.intro
        · exact ltb rfl
        refine And.intro (fun _ => And.intro (fun _ => And.intro rfl ?_) (fun h => absurd (hi0.symm.trans h) (by decide))) (fun h => absurd z3 h)
        refine And.intro (fun h => absurd (z3.symm.trans h) (by decide)) (fun _ => And.intro rfl ?_)
        refine ⟨(), Sub.ofL _ _ (Nat.zero_le _) ⟨rfl, rfl, rfl, rfl, rfl, rfl, rfl, rfl, rfl, rfl, rfl, rfl, rfl, rfl, rfl, rfl, ?_, rfl, trivial⟩ rfl rfl⟩
        exact congrArg AV.bool hle
  refine WP_seq (vc_sound tabOk (by kernel_rfl) ?_)
  refine WP_seq_cut (α := Unit) (fun _ => ofL [(3, .ptr 0 0), (4, .ptr 1 0), (5, .ptr 2 0), (7, .ptr 3 0), (8, .int 0), (9, .ptr 4 0), (10, .int 0), (13, .int (Q.deps.length : Int))]) (fun _ => [.box 23 ((encCoord c).map AV.d), .box 55 ((encPom A).map AV.d), .box 55 ((encPom B).map AV.d), .box 55 ((encPom M).map AV.d), .box 55 ((encPom Q).map AV.d)]) (WP_seq (vc_sound tabOk (by kernel_rfl) ?_)) (fun _ => ?_)
  · have hlss : decide ((M.deps.length : Int) < (Q.deps.length : Int)) = false := decide_eq_false (by omega)
    refine And.intro rfl ?_
    refine And.intro rfl ?_
    refine And.intro rfl ?_
    refine And.intro rfl ?_
    refine And.intro rfl (And.intro rfl ?_)
    refine And.intro rfl ?_
    apply And.intro
    · exact ltb rfl
    refine And.intro (fun _ => And.intro rfl ?_) (fun h => absurd hlss h)
    apply And.intro
    · exact ltb rfl
    refine And.intro (fun _ => And.intro rfl ?_) (fun h => absurd hlss h)
    apply And.intro
    · exact ltb rfl
    refine And.intro (fun _ => And.intro rfl ?_) (fun h => absurd hlss h)
    apply And.intro
    · exact ltb rfl
    refine And.intro (fun _ => And.intro rfl (And.intro (Int.natCast_nonneg _) (And.intro (Nat.zero_le _) (And.intro (by show Q.deps.length ≤ M.deps.length; omega) (And.intro rfl ?_))))) (fun h => absurd hlss h)
    apply And.intro
    · exact ltb rfl
    refine And.intro (fun _ => And.intro rfl ?_) (fun h => absurd hlss h)
    apply And.intro
    · exact ltb rfl
    refine And.intro (fun _ => And.intro rfl ?_) (fun h => absurd hlss h)
    apply And.intro
    · exact ltb rfl
    refine And.intro (fun _ => And.intro rfl (Exists.intro _ (Exists.intro _ (And.intro (SameDep_self Q.deps (by omega) qw) (And.intro (And.intro (DLe.of_eq (congrArg (fun x => DV.one (dDeps x)) htake)) (And.intro (DLe.refl _) (And.intro (DLe.refl _) trivial))) (And.intro rfl ?_)))))) (fun h => absurd hlss h)
    apply And.intro
    · exact ltb rfl
    refine And.intro (fun _ => And.intro rfl ?_) (fun h => absurd hlss h)
    refine And.intro (fun h => absurd (hlss.symm.trans h) (by decide)) (fun _ => And.intro rfl ?_)
    refine vc_sound tabOk (by kernel_rfl) ?_
    refine And.intro (fun h => by cases h) (fun _ => ?_)
    exact ⟨(), Sub.ofL _ _ (Nat.zero_le _) ⟨rfl, rfl, rfl, rfl, rfl, rfl, rfl, rfl, rfl, rfl, rfl, rfl, rfl, rfl, rfl, rfl, trivial⟩ rfl rfl⟩
  refine WP_seq_cut (α := Unit) (fun _ => ofL [(3, .ptr 0 0), (4, .ptr 1 0), (5, .ptr 2 0), (7, .ptr 3 0), (8, .int 0), (9, .ptr 4 0), (10, .int 0)]) (fun _ => [.box 23 ((encCoord c).map AV.d), .box 55 ((encPom A).map AV.d), .box 55 ((encPom B).map AV.d), .box 55 ((encPom M).map AV.d), .box 55 ((encPom Q).map AV.d)]) (WP_seq (vc_sound tabOk (by kernel_rfl) ?_)) (fun _ => ?_)
  rotate_left
  · refine vc_sound tabOk (by kernel_rfl) ?_
    exact And.intro (DLe.refl _) trivial
  refine WP_block (WP_loop (α := {i : Nat // Q.deps.length ≤ i ∧ i ≤ M.deps.length}) (fun i => ofL [(3, .ptr 0 0), (4, .ptr 1 0), (5, .ptr 2 0), (7, .ptr 3 0), (8, .int 0), (9, .ptr 4 0), (10, .int 0), (13, .int (Q.deps.length : Int)), (14, .int (i.1 : Int))]) (fun _ => [.box 23 ((encCoord c).map AV.d), .box 55 ((encPom A).map AV.d), .box 55 ((encPom B).map AV.d), .box 55 ((encPom M).map AV.d), .box 55 ((encPom Q).map AV.d)]) (fun i => M.deps.length - i.1) ⟨Q.deps.length, Nat.le_refl _, hnle⟩ ?_ ?_)
  · exact Sub.ofL _ _ (Nat.zero_le _) ⟨rfl, rfl, rfl, rfl, rfl, rfl, rfl, rfl, rfl, rfl, rfl, rfl, rfl, rfl, rfl, rfl, rfl, rfl, trivial⟩ rfl rfl
  rintro ⟨i, hni, hi⟩
  refine WP_seq (vc_sound tabOk (by kernel_rfl) ?_)
  refine And.intro rfl (And.intro (fun h => ?_) (fun h => ?_))
  rotate_left
  · exact ⟨(), Sub.ofL _ _ (Nat.zero_le _) ⟨rfl, rfl, rfl, rfl, rfl, rfl, rfl, rfl, rfl, rfl, rfl, rfl, rfl, rfl, trivial⟩ rfl rfl⟩
  have h : decide ((i : Int) < (M.deps.length : Int)) = true := h
  have hlt : i < M.deps.length := by have := of_decide_eq_true h; omega
  have hlz : (i : Int) < (M.deps.length : Int) := by omega
  have hgi : M.deps.getD ((i : Int)).toNat zDep = M.deps[i] := by simp [List.getD, hlt]
  have hwi : (M.deps.getD ((i : Int)).toNat zDep).wt ≤ 4194304 := by rw [hgi]; exact mw _ (List.getElem_mem hlt)
  refine WP_seq_cut (α := Unit) (fun _ => ofL [(3, .ptr 0 0), (4, .ptr 1 0), (5, .ptr 2 0), (7, .ptr 3 0), (8, .int 0), (9, .ptr 4 0), (10, .int 0), (13, .int (Q.deps.length : Int)), (14, .int (i : Int))]) (fun _ => [.box 23 ((encCoord c).map AV.d), .box 55 ((encPom A).map AV.d), .box 55 ((encPom B).map AV.d), .box 55 ((encPom M).map AV.d), .box 55 ((encPom Q).map AV.d)]) (WP_block (WP_seq (vc_sound tabOk (by kernel_rfl) ?_))) (fun _ => ?_)
  rotate_left
  · refine vc_sound tabOk (by kernel_rfl) ?_
    refine And.intro rfl (And.intro ⟨by omega, by show (i : Int) + 1 ≤ _; omega⟩ ?_)
    exact ⟨⟨i + 1, by omega, hlt⟩, by show M.deps.length - (i + 1) < M.deps.length - i; omega, Sub.ofL _ _ (Nat.zero_le _) ⟨rfl, rfl, rfl, rfl, rfl, rfl, rfl, rfl, rfl, rfl, rfl, rfl, rfl, rfl, rfl, rfl, rfl, rfl, trivial⟩ rfl rfl⟩
  refine WP_block (WP_loop (α := {k : Nat // k ≤ Q.deps.length}) (fun k => ofL [(3, .ptr 0 0), (4, .ptr 1 0), (5, .ptr 2 0), (7, .ptr 3 0), (8, .int 0), (9, .ptr 4 0), (10, .int 0), (13, .int (Q.deps.length : Int)), (14, .int (i : Int)), (15, .int (k.1 : Int))]) (fun _ => [.box 23 ((encCoord c).map AV.d), .box 55 ((encPom A).map AV.d), .box 55 ((encPom B).map AV.d), .box 55 ((encPom M).map AV.d), .box 55 ((encPom Q).map AV.d)]) (fun k => Q.deps.length - k.1) ⟨0, Nat.zero_le _⟩ ?_ ?_)
  · exact Sub.ofL _ _ (Nat.zero_le _) ⟨rfl, rfl, rfl, rfl, rfl, rfl, rfl, rfl, rfl, rfl, rfl, rfl, rfl, rfl, rfl, rfl, rfl, rfl, rfl, rfl, trivial⟩ rfl rfl
  rintro ⟨k, hk⟩
  refine WP_seq (vc_sound tabOk (by kernel_rfl) ?_)
  refine And.intro rfl (And.intro (fun h => ?_) (fun h => ?_))
  rotate_left
  · exact ⟨(), Sub.ofL _ _ (Nat.zero_le _) ⟨rfl, rfl, rfl, rfl, rfl, rfl, rfl, rfl, rfl, rfl, rfl, rfl, rfl, rfl, rfl, rfl, rfl, rfl, trivial⟩ rfl rfl⟩
  have h : decide ((k : Int) < (Q.deps.length : Int)) = true := h
  have hkn : k < Q.deps.length := by have := of_decide_eq_true h; omega
  have hkl : k < M.deps.length := by omega
  have hkz : (k : Int) < (M.deps.length : Int) := by omega
  have hgk : M.deps.getD ((k : Int)).toNat zDep = M.deps[k] := by simp [List.getD, hkl]
  have hwk : (M.deps.getD ((k : Int)).toNat zDep).wt ≤ 4194304 := by rw [hgk]; exact mw _ (List.getElem_mem hkl)
  have hne := (List.pairwise_iff_getElem.1 hpair) k i hkl hlt (by omega)
  have hik : ((ikeyOf (M.deps.getD ((i : Int)).toNat zDep)).toList == (ikeyOf (M.deps.getD ((k : Int)).toNat zDep)).toList) = false := by
    rw [hgi, hgk, str_beq, decide_eq_false hne]
  refine WP_seq (WP_block (WP_seq_cut (α := Unit) (fun _ => ofL [(3, .ptr 0 0), (4, .ptr 1 0), (5, .ptr 2 0), (7, .ptr 3 0), (8, .int 0), (9, .ptr 4 0), (10, .int 0), (13, .int (Q.deps.length : Int)), (14, .int (i : Int)), (15, .int (k : Int)), (210, .bool false)]) (fun _ => [.box 23 ((encCoord c).map AV.d), .box 55 ((encPom A).map AV.d), .box 55 ((encPom B).map AV.d), .box 55 ((encPom M).map AV.d), .box 55 ((encPom Q).map AV.d)]) (vc_sound tabOk (by kernel_rfl) ?_) (fun _ => ?_)))
  rotate_left
  · refine vc_sound tabOk (by kernel_rfl) ?_
    refine And.intro (fun h => by cases h) (fun _ => ?_)
    refine vc_sound tabOk (by kernel_rfl) ?_
    refine And.intro rfl (And.intro ⟨by omega, by show (k : Int) + 1 ≤ _; omega⟩ ?_)
    exact ⟨⟨k + 1, hkn⟩, by show Q.deps.length - (k + 1) < Q.deps.length - k; omega, Sub.ofL _ _ (Nat.zero_le _) ⟨rfl, rfl, rfl, rfl, rfl, rfl, rfl, rfl, rfl, rfl, rfl, rfl, rfl, rfl, rfl, rfl, rfl, rfl, rfl, rfl, trivial⟩ rfl rfl⟩
  refine And.intro rfl ?_
  refine And.intro rfl ?_
  refine And.intro rfl ?_
  refine And.intro rfl (And.intro (Int.natCast_nonneg _) (And.intro hlz (And.intro rfl ?_)))
  refine And.intro (Nat.le_of_ble_eq_true rfl) (And.intro rfl ?_)
  refine And.intro rfl (Exists.intro _ (Exists.intro _ (And.intro (refKey05_impl (M.deps.getD ((i : Int)).toNat zDep) hwi) (And.intro (AsLe.refl _) (And.intro rfl ?_)))))
  refine And.intro rfl ?_
  refine And.intro rfl ?_
  refine And.intro rfl ?_
  refine And.intro rfl (And.intro (Int.natCast_nonneg _) (And.intro hkz (And.intro rfl ?_)))
  refine And.intro (Nat.le_of_ble_eq_true rfl) (And.intro rfl ?_)
  refine And.intro rfl (Exists.intro _ (Exists.intro _ (And.intro (refKey05_impl (M.deps.getD ((k : Int)).toNat zDep) hwk) (And.intro (AsLe.refl _) (And.intro rfl ?_)))))
  refine And.intro rfl ?_
  refine And.intro rfl ?_
  cases hkk : ((keyOf (M.deps.getD ((i : Int)).toNat zDep)).toList == (keyOf (M.deps.getD ((k : Int)).toNat zDep)).toList) with
  | false =>
    apply And.intro
    · exact ltb rfl
    refine And.intro (fun h => by cases h) (fun _ => ?_)
    apply And.intro
    · exact ltb rfl
    refine And.intro (fun h => by cases h) (fun _ => ?_)
    apply And.intro
    · exact ltb rfl
    refine And.intro (fun h => by cases h) (fun _ => ?_)
    apply And.intro
    · exact ltb rfl
    refine And.intro (fun h => by cases h) (fun _ => ?_)
    apply And.intro
    · exact ltb rfl
    refine And.intro (fun h => by cases h) (fun _ => ?_)
    apply And.intro
    · exact ltb rfl
    refine And.intro (fun h => by cases h) (fun _ => ?_)
    apply And.intro
    · exact ltb rfl
    refine And.intro (fun h => by cases h) (fun _ => ?_)
    apply And.intro
    · exact ltb rfl
    refine And.intro (fun h => by cases h) (fun _ => ?_)
    apply And.intro
    · exact ltb rfl
    refine And.intro (fun h => by cases h) (fun _ => ?_)
    apply And.intro
    · exact ltb rfl
    refine And.intro (fun h => by cases h) (fun _ => ?_)
    apply And.intro
    · exact ltb rfl
    refine And.intro (fun h => by cases h) (fun _ => ?_)
    apply And.intro
    · exact ltb rfl
    refine And.intro (fun h => by cases h) (fun _ => ?_)
    apply And.intro
    · exact ltb rfl
    refine And.intro (fun h => by cases h) (fun _ => ?_)
    refine And.intro (fun h => by cases h) (fun _ => And.intro rfl ?_)
    exact ⟨(), Sub.ofL _ _ (Nat.zero_le _) ⟨rfl, rfl, rfl, rfl, rfl, rfl, rfl, rfl, rfl, rfl, rfl, rfl, rfl, rfl, rfl, rfl, rfl, rfl, rfl, rfl, rfl, rfl, trivial⟩ rfl rfl⟩
  | true =>
    apply And.intro
    · exact ltb rfl
    refine And.intro (fun _ => And.intro rfl ?_) (fun h => absurd rfl h)
    apply And.intro
    · exact ltb rfl
    refine And.intro (fun _ => And.intro rfl ?_) (fun h => absurd rfl h)
    apply And.intro
    · exact ltb rfl
    refine And.intro (fun _ => And.intro rfl ?_) (fun h => absurd rfl h)
    apply And.intro
    · exact ltb rfl
    refine And.intro (fun _ => And.intro rfl (And.intro (Int.natCast_nonneg _) (And.intro hlz (And.intro rfl ?_)))) (fun h => absurd rfl h)
    apply And.intro
    · exact ltb rfl
    refine And.intro (fun _ => And.intro (Nat.le_of_ble_eq_true rfl) (And.intro rfl ?_)) (fun h => absurd rfl h)
    apply And.intro
    · exact ltb rfl
    refine And.intro (fun _ => And.intro rfl (Exists.intro _ (Exists.intro _ (And.intro (refKey_impl (M.deps.getD ((i : Int)).toNat zDep) hwi) (And.intro (AsLe.refl _) (And.intro rfl ?_)))))) (fun h => absurd rfl h)
    apply And.intro
    · exact ltb rfl
    refine And.intro (fun _ => And.intro rfl ?_) (fun h => absurd rfl h)
    apply And.intro
    · exact ltb rfl
    refine And.intro (fun _ => And.intro rfl ?_) (fun h => absurd rfl h)
    apply And.intro
    · exact ltb rfl
    refine And.intro (fun _ => And.intro rfl ?_) (fun h => absurd rfl h)
    apply And.intro
    · exact ltb rfl
    refine And.intro (fun _ => And.intro rfl (And.intro (Int.natCast_nonneg _) (And.intro hkz (And.intro rfl ?_)))) (fun h => absurd rfl h)
    apply And.intro
    · exact ltb rfl
    refine And.intro (fun _ => And.intro (Nat.le_of_ble_eq_true rfl) (And.intro rfl ?_)) (fun h => absurd rfl h)
    apply And.intro
    · exact ltb rfl
    refine And.intro (fun _ => And.intro rfl (Exists.intro _ (Exists.intro _ (And.intro (refKey_impl (M.deps.getD ((k : Int)).toNat zDep) hwk) (And.intro (AsLe.refl _) (And.intro rfl ?_)))))) (fun h => absurd rfl h)
    apply And.intro
    · exact ltb rfl
    refine And.intro (fun _ => And.intro rfl ?_) (fun h => absurd rfl h)
    refine And.intro (fun _ => And.intro rfl ?_) (fun h => by cases h)
    refine ⟨(), Sub.ofL _ _ (Nat.zero_le _) ⟨rfl, rfl, rfl, rfl, rfl, rfl, rfl, rfl, rfl, rfl, rfl, rfl, rfl, rfl, rfl, rfl, rfl, rfl, rfl, rfl, ?_, rfl, trivial⟩ rfl rfl⟩
    exact congrArg AV.bool hik
end Go.Proofs.Nw.K
end
