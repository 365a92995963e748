/- Bundle 8: NwC17, NwC18, NwC19, NwC20, NwC21, NwC22. -/
import Derived.Test.YtjfpnnmagnljnaaNwA7
section
open Go Go.RowKit Go.Proofs Go.Sort
set_option linter.unusedVariables false
set_option linter.unusedSimpArgs false
namespace Go.Proofs.Nw.K

/-! ### plain: pairs laid in one by one, by their names, are the sorted first ones -/
def ltN (a b : Pair) : Prop := a.name.toList < b.name.toList
instance (a b : Pair) : Decidable (ltN a b) := inferInstanceAs (Decidable (a.name.toList < b.name.toList))
def insR (x : Pair) : List Pair → List Pair
  | [] => [x]
  | y :: r => if ltN y x then y :: insR x r else if y.name = x.name then y :: r else x :: y :: r
def refPropsOf (l : List Pair) : List Pair := l.foldl (fun out x => insR x out) []
def SS (l : List Pair) : Prop := l.Pairwise ltN

theorem ltN_irrefl (a : Pair) : ¬ ltN a a := List.lt_irrefl _
theorem ltN_trans {a b c : Pair} (h : ltN a b) (k : ltN b c) : ltN a c := List.lt_trans h k
theorem ltN_total {a b : Pair} (h : ¬ ltN b a) (hne : b.name ≠ a.name) : ltN a b := by
  unfold ltN at *
  rcases List.le_iff_lt_or_eq.1 (List.not_lt.1 h) with h | h
  · exact h
  · exact absurd (toList_inj.1 h).symm hne

theorem ins_at (x : Pair) : ∀ (out : List Pair) (n : Nat), n ≤ out.length → (∀ k (h : k < out.length), k < n → ltN out[k] x) → (∀ h : n < out.length, ¬ ltN out[n] x) →
    insR x out = (if (∀ h : n < out.length, out[n].name ≠ x.name) then out.take n ++ [x] ++ out.drop n else out)
  | [], n, hn, _, _ => by
    have : n = 0 := by simpa using hn
    subst this
    rw [if_pos (fun h => absurd h (by simp))]; rfl
  | y :: r, 0, _, _, h2 => by
    have h2 := h2 (by simp)
    simp only [List.getElem_cons_zero] at h2
    rw [insR, if_neg h2]
    by_cases he : y.name = x.name
    · rw [if_pos he, if_neg (fun hh => hh (by simp) he)]
    · rw [if_neg he, if_pos (show ∀ h : 0 < (y :: r).length, (y :: r)[0].name ≠ x.name from fun _ => he)]; rfl
  | y :: r, n + 1, hn, h1, h2 => by
    have hy := h1 0 (by simp) (by omega)
    simp only [List.getElem_cons_zero] at hy
    have ih := ins_at x r n (by simpa using hn) (fun k hk hkn => by have := h1 (k + 1) (by simpa using hk) (by omega); simpa using this) (fun h => by have := h2 (by simpa using h); simpa using this)
    rw [insR, if_pos hy, ih]
    by_cases hc : ∀ h : n < r.length, r[n].name ≠ x.name
    · rw [if_pos hc, if_pos (fun h => by have := hc (by simpa using h); simpa using this)]; rfl
    · rw [if_neg hc, if_neg (fun hh => hc (fun h => by have := hh (by simpa using h); simpa using this))]

theorem insR_has (x : Pair) : ∀ out : List Pair, SS out → hasName x.name out = true → insR x out = out
  | [], _, h => by simp [hasName] at h
  | y :: r, hs, h => by
    obtain ⟨hs1, hs2⟩ := List.pairwise_cons.1 hs
    obtain ⟨d, hd, he⟩ := hasName_iff.1 h
    by_cases hy : ltN y x
    · rw [insR, if_pos hy]
      rcases List.mem_cons.1 hd with rfl | hd
      · exact absurd hy (by unfold ltN; rw [he]; exact List.lt_irrefl _)
      · rw [insR_has x r hs2 (hasName_iff.2 ⟨d, hd, he⟩)]
    · rw [insR, if_neg hy]
      by_cases hn : y.name = x.name
      · rw [if_pos hn]
      · rcases List.mem_cons.1 hd with rfl | hd
        · exact absurd he.symm hn
        · have := hs1 d hd
          unfold ltN at this hy
          rw [← he] at this
          exact absurd this hy

theorem insR_new (x : Pair) : ∀ out : List Pair, SS out → ¬ hasName x.name out = true → (insR x out).Perm (x :: out) ∧ SS (insR x out)
  | [], _, _ => ⟨List.Perm.refl _, List.pairwise_singleton _ _⟩
  | y :: r, hs, h => by
    obtain ⟨hs1, hs2⟩ := List.pairwise_cons.1 hs
    have hyx : y.name ≠ x.name := fun e => h (hasName_iff.2 ⟨y, by simp, e.symm⟩)
    have hr : ¬ hasName x.name r = true := fun e => h (by obtain ⟨d, hd, he⟩ := hasName_iff.1 e; exact hasName_iff.2 ⟨d, by simp [hd], he⟩)
    by_cases hy : ltN y x
    · obtain ⟨p, s⟩ := insR_new x r hs2 hr
      rw [insR, if_pos hy]
      refine ⟨(p.cons y).trans (List.Perm.swap x y r), List.pairwise_cons.2 ⟨fun z hz => ?_, s⟩⟩
      rcases List.mem_cons.1 (p.mem_iff.1 hz) with rfl | hz
      · exact hy
      · exact hs1 z hz
    · rw [insR, if_neg hy, if_neg hyx]
      have hxy : ltN x y := ltN_total hy hyx
      refine ⟨List.Perm.refl _, List.pairwise_cons.2 ⟨fun z hz => ?_, hs⟩⟩
      rcases List.mem_cons.1 hz with rfl | hz
      · exact hxy
      · exact ltN_trans hxy (hs1 z hz)

theorem hasName_perm {a b : List Pair} (p : a.Perm b) (k : Str) : hasName k a = true ↔ hasName k b = true := by
  rw [hasName_iff, hasName_iff]
  exact ⟨fun ⟨d, hd, h⟩ => ⟨d, p.mem_iff.1 hd, h⟩, fun ⟨d, hd, h⟩ => ⟨d, p.mem_iff.2 hd, h⟩⟩

theorem fold_ins (l : List Pair) : ∀ out out' : List Pair, SS out → out.Perm out' → SS (l.foldl (fun out x => insR x out) out) ∧ (l.foldl (fun out x => insR x out) out).Perm (l.foldl stepN out') := by
  induction l with
  | nil => intro out out' hs p; exact ⟨hs, p⟩
  | cons x r ih =>
    intro out out' hs p
    simp only [List.foldl_cons]
    by_cases hh : hasName x.name out = true
    · have h2 := (hasName_perm p _).1 hh
      rw [insR_has x out hs hh, stepN, if_pos h2]
      exact ih _ _ hs p
    · have h2 : ¬ hasName x.name out' = true := fun e => hh ((hasName_perm p _).2 e)
      obtain ⟨p1, s1⟩ := insR_new x out hs hh
      rw [stepN, if_neg h2]
      refine ih _ _ s1 (p1.trans ?_)
      exact (p.cons x).trans (List.perm_append_singleton x out').symm

theorem sorted_eq : ∀ {l1 l2 : List Pair}, l1.Perm l2 → SS l1 → l2.Pairwise (fun a b => ¬ ltN b a) → l1 = l2
  | [], l2, p, _, _ => by rw [List.nil_perm.1 p]
  | a :: r1, [], p, _, _ => by simp at p
  | a :: r1, b :: r2, p, h1, h2 => by
    obtain ⟨h11, h12⟩ := List.pairwise_cons.1 h1
    obtain ⟨h21, h22⟩ := List.pairwise_cons.1 h2
    by_cases e : a = b
    · subst e
      rw [sorted_eq ((List.perm_cons a).1 p) h12 h22]
    · have ha : a ∈ r2 := by
        rcases List.mem_cons.1 (p.mem_iff.1 (List.mem_cons_self (a := a) (l := r1))) with h | h
        · exact absurd h e
        · exact h
      have hb : b ∈ r1 := by
        rcases List.mem_cons.1 (p.mem_iff.2 (List.mem_cons_self (a := b) (l := r2))) with h | h
        · exact absurd h.symm e
        · exact h
      exact absurd (h11 b hb) (h21 a ha)

theorem refPropsOf_eq (l : List Pair) : refPropsOf l = propsOf l := by
  obtain ⟨s, p⟩ := fold_ins l [] [] List.Pairwise.nil (List.Perm.refl _)
  obtain ⟨q1, q2⟩ := sortP_facts (foldN l)
  exact sorted_eq (p.trans q1.symm) s q2
theorem propsOf_SS (l : List Pair) : SS (propsOf l) := by
  rw [← refPropsOf_eq]
  exact (fold_ins l [] [] List.Pairwise.nil (List.Perm.refl _)).1
theorem refPropsOf_snoc (l : List Pair) (x : Pair) : refPropsOf (l ++ [x]) = insR x (refPropsOf l) := by simp [refPropsOf]
theorem refPropsOf_length (l : List Pair) : (refPropsOf l).length ≤ l.length := by rw [refPropsOf_eq]; exact propsOf_length l
end Go.Proofs.Nw.K
end
section
open Go Go.RowKit Go.Proofs Go.Sort
set_option linter.unusedVariables false
set_option linter.unusedSimpArgs false
namespace Go.Proofs.Nw.K

theorem bytesLess_ltN (a b : Pair) : Op.bytesLess a.name.toList b.name.toList = decide (ltN a b) := by
  rw [Go.Proofs.bytesLess_eq]; rfl

theorem refProps_impl (l : List Pom) (hl : l.length ≤ 4194304) (hP : (propsIn l).length ≤ 4194304) : Impl Try.prog 50 [.one (dPoms l)] [.one (dPairs (propsOf (propsIn l)))] := by
  refine impl_vc tabOk Try.func50 rfl rfl (by exact Nat.le_of_ble_eq_true rfl) ?_
  refine WP_seq (vc_sound tabOk (by kernel_rfl) ?_)
  refine WP_seq (vc_sound tabOk (by kernel_rfl) ?_)
  refine WP_seq_cut (α := Unit) (fun _ => ofL [(3, .d (dPairs (refPropsOf (propsIn l))))]) (fun _ => []) (WP_seq (vc_sound tabOk (by kernel_rfl) ?_)) (fun _ => ?_)
  rotate_left
  · refine vc_sound tabOk (by kernel_rfl) ?_
    rw [refPropsOf_eq]
    exact And.intro (DLe.refl _) trivial
  refine WP_block (WP_loop (α := {i : Nat // i ≤ l.length}) (fun i => ofL [(0, .d (dPoms l)), (3, .d (dPairs (refPropsOf (propsIn (l.take i.1))))), (4, .int (i.1 : Int))]) (fun i => []) (fun i => l.length - i.1) ⟨0, Nat.zero_le _⟩ ?_ ?_)
  · exact (Sub.le 3 rfl (DLe.nils zPair)).trans (Sub.ofL _ _ (Nat.zero_le _) ⟨rfl, rfl, rfl, rfl, rfl, rfl, trivial⟩ rfl rfl)
  rintro ⟨i, hi⟩
  refine WP_seq (vc_sound tabOk (by kernel_rfl) ?_)
  refine And.intro rfl (And.intro (fun h => ?_) (fun h => ?_))
  rotate_left
  · have h : decide ((i : Int) < (l.length : Int)) = false := h
    obtain rfl : i = l.length := by have := of_decide_eq_false h; omega
    refine ⟨(), Sub.ofL _ _ (Nat.zero_le _) ⟨?_, rfl, trivial⟩ rfl rfl⟩
    show AV.d (dPairs (refPropsOf (propsIn (l.take l.length)))) = _
    rw [List.take_length]
  have h : decide ((i : Int) < (l.length : Int)) = true := h
  have hlt : i < l.length := by have := of_decide_eq_true h; omega
  have hg : l.getD ((i : Int)).toNat zPom = l[i] := by simp [List.getD, hlt]
  have eP := flat_succ Pom.props l i hlt
  have bP := flat_take Pom.props l (i + 1)
  rw [eP, List.length_append] at bP
  have hPl : (propsIn (l.take i)).length + l[i].props.length ≤ (propsIn l).length := bP
  have hacc : ∀ k, (refPropsOf (propsIn (l.take i) ++ l[i].props.take k)).length ≤ 4194304 := fun k => by
    have := refPropsOf_length (propsIn (l.take i) ++ l[i].props.take k)
    rw [List.length_append] at this
    have h2 : (l[i].props.take k).length ≤ l[i].props.length := by rw [List.length_take]; omega
    omega
  have hlz : (i : Int) < (l.length : Int) := by omega
  refine WP_seq_cut (α := Unit) (fun _ => ofL [(0, .d (dPoms l)), (3, .d (dPairs (refPropsOf (propsIn (l.take (i + 1)))))), (4, .int (i : Int))]) (fun _ => []) (WP_block (WP_seq (vc_sound tabOk (by kernel_rfl) ?_))) (fun _ => ?_)
  rotate_left
  · refine vc_sound tabOk (by kernel_rfl) ?_
    refine And.intro rfl (And.intro ⟨by omega, by show (i : Int) + 1 ≤ _; omega⟩ ?_)
    exact ⟨⟨i + 1, hlt⟩, by show l.length - (i + 1) < l.length - i; omega, Sub.ofL _ _ (Nat.zero_le _) ⟨rfl, rfl, rfl, rfl, rfl, rfl, trivial⟩ rfl rfl⟩
  refine WP_block (WP_loop (α := {k : Nat // k ≤ l[i].props.length}) (fun k => ofL [(0, .d (dPoms l)), (3, .d (dPairs (refPropsOf (propsIn (l.take i) ++ l[i].props.take k.1)))), (4, .int (i : Int)), (5, .int (k.1 : Int))]) (fun _ => []) (fun k => l[i].props.length - k.1) ⟨0, Nat.zero_le _⟩ ?_ ?_)
  · refine Sub.ofL _ _ (Nat.zero_le _) ⟨rfl, rfl, ?_, rfl, rfl, rfl, rfl, rfl, trivial⟩ rfl rfl
    rw [List.take_zero, List.append_nil]; rfl
  rintro ⟨k, hk⟩
  refine WP_seq (vc_sound tabOk (by kernel_rfl) ?_)
  refine And.intro rfl (And.intro (Int.natCast_nonneg _) (And.intro hlz ?_))
  refine And.intro rfl (And.intro (fun h => ?_) (fun h => ?_))
  rotate_left
  · have h : decide ((k : Int) < ((l.getD ((i : Int)).toNat zPom).props.length : Int)) = false := h
    rw [hg] at h
    obtain rfl : k = l[i].props.length := by have := of_decide_eq_false h; omega
    refine ⟨(), Sub.ofL _ _ (Nat.zero_le _) ⟨rfl, rfl, ?_, rfl, rfl, rfl, trivial⟩ rfl rfl⟩
    show AV.d (dPairs (refPropsOf (propsIn (l.take i) ++ l[i].props.take l[i].props.length))) = _
    rw [List.take_length, show propsIn (l.take (i + 1)) = propsIn (l.take i) ++ l[i].props from eP]
  have h : decide ((k : Int) < ((l.getD ((i : Int)).toNat zPom).props.length : Int)) = true := h
  have hkl : k < l[i].props.length := by rw [hg] at h; have := of_decide_eq_true h; omega
  have hkz : (k : Int) < ((l.getD ((i : Int)).toNat zPom).props.length : Int) := by rw [hg]; omega
  have hgk : (l.getD ((i : Int)).toNat zPom).props.getD ((k : Int)).toNat zPair = l[i].props[k] := by rw [hg]; simp [List.getD, hkl]
  have stp : refPropsOf (propsIn (l.take i) ++ l[i].props.take (k + 1)) = insR l[i].props[k] (refPropsOf (propsIn (l.take i) ++ l[i].props.take k)) := by
    rw [List.take_succ_eq_append_getElem hkl, ← List.append_assoc, refPropsOf_snoc]
  have hol := hacc k
  generalize hout : refPropsOf (propsIn (l.take i) ++ l[i].props.take k) = out at *
  refine WP_seq_cut (α := Unit) (fun _ => ofL [(0, .d (dPoms l)), (3, .d (dPairs (refPropsOf (propsIn (l.take i) ++ l[i].props.take (k + 1))))), (4, .int (i : Int)), (5, .int (k : Int))]) (fun _ => []) (WP_block (WP_seq (vc_sound tabOk (by kernel_rfl) ?_))) (fun _ => ?_)
  rotate_left
  · refine vc_sound tabOk (by kernel_rfl) ?_
    refine And.intro rfl (And.intro ⟨by omega, by show (k : Int) + 1 ≤ _; omega⟩ ?_)
    exact ⟨⟨k + 1, hkl⟩, by show l[i].props.length - (k + 1) < l[i].props.length - k; omega, Sub.ofL _ _ (Nat.zero_le _) ⟨rfl, rfl, rfl, rfl, rfl, rfl, rfl, rfl, trivial⟩ rfl rfl⟩
  refine And.intro rfl (And.intro (Int.natCast_nonneg _) (And.intro hlz ?_))
  refine And.intro rfl (And.intro (Int.natCast_nonneg _) (And.intro hkz ?_))
  refine And.intro (Nat.le_of_ble_eq_true rfl) ?_
  refine And.intro rfl (And.intro (Nat.le_of_ble_eq_true rfl) ?_)
  refine WP_sub (Sub.ofL [(0, .d (dPoms l)), (3, .d (dPairs out)), (4, .int (i : Int)), (5, .int (k : Int)), (6, .ptr 0 0)] [.box 66 ((encPair l[i].props[k]).map AV.d)] (Nat.zero_le _) ⟨rfl, rfl, ?_, rfl, rfl, rfl, rfl, rfl, rfl, rfl, trivial⟩ ?_ rfl) ?_
  · rw [← hout]; rfl
  · rw [← hgk]; rfl
  generalize hxx : l[i].props[k] = x at *
  refine WP_seq (vc_sound tabOk (by kernel_rfl) ?_)
  refine WP_seq_cut (α := {n : Nat // n ≤ out.length ∧ (∀ j (h : j < out.length), j < n → ltN out[j] x) ∧ ∀ h : n < out.length, ¬ ltN out[n] x}) (fun n => ofL [(0, .d (dPoms l)), (3, .d (dPairs out)), (4, .int (i : Int)), (5, .int (k : Int)), (6, .ptr 0 0), (7, .int (n.1 : Int))]) (fun _ => [.box 66 ((encPair x).map AV.d)])
    (WP_block (WP_loop (α := {n : Nat // n ≤ out.length ∧ ∀ j (h : j < out.length), j < n → ltN out[j] x}) (fun n => ofL [(0, .d (dPoms l)), (3, .d (dPairs out)), (4, .int (i : Int)), (5, .int (k : Int)), (6, .ptr 0 0), (7, .int (n.1 : Int))]) (fun _ => [.box 66 ((encPair x).map AV.d)]) (fun n => out.length - n.1) ⟨0, Nat.zero_le _, fun j _ hj => absurd hj (Nat.not_lt_zero _)⟩ ?_ ?_)) ?_
  · exact Sub.ofL _ _ (Nat.zero_le _) ⟨rfl, rfl, rfl, rfl, rfl, rfl, rfl, rfl, rfl, rfl, rfl, rfl, trivial⟩ rfl rfl
  · rintro ⟨n, hn, hlo⟩
    refine WP_seq (WP_seq (vc_sound tabOk (by kernel_rfl) ?_))
    refine And.intro rfl (And.intro rfl (And.intro rfl (And.intro rfl (And.intro rfl (And.intro rfl ?_)))))
    cases hc : decide ((n : Int) < (out.length : Int)) with
    | false =>
      obtain rfl : n = out.length := by have := of_decide_eq_false hc; omega
      apply And.intro
      · exact ltb rfl
      refine And.intro (fun h => by cases h) (fun _ => ?_)
      apply And.intro
      · exact ltb rfl
      refine And.intro (fun h => by cases h) (fun _ => ?_)
      apply And.intro
      · exact ltb rfl
      refine And.intro (fun h => by cases h) (fun _ => ?_)
      apply And.intro
      · exact ltb rfl
      refine And.intro (fun h => by cases h) (fun _ => ?_)
      apply And.intro
      · exact ltb rfl
      refine And.intro (fun h => by cases h) (fun _ => ?_)
      apply And.intro
      · exact ltb rfl
      refine And.intro (fun h => by cases h) (fun _ => ?_)
      apply And.intro
      · exact ltb rfl
      refine And.intro (fun h => by cases h) (fun _ => ?_)
      apply And.intro
      · exact ltb rfl
      refine And.intro (fun h => by cases h) (fun _ => ?_)
      refine And.intro (fun h => by cases h) (fun _ => And.intro rfl ?_)
      refine vc_sound tabOk (by kernel_rfl) ?_
      refine And.intro (fun h => by cases h) (fun _ => ?_)
      exact ⟨⟨out.length, hn, hlo, fun h => absurd h (Nat.lt_irrefl _)⟩, Sub.ofL _ _ (Nat.zero_le _) ⟨rfl, rfl, rfl, rfl, rfl, rfl, rfl, rfl, rfl, rfl, rfl, rfl, trivial⟩ rfl rfl⟩
    | true =>
      have hnl : n < out.length := by have := of_decide_eq_true hc; omega
      have hgn : out.getD ((n : Int)).toNat zPair = out[n] := by simp [List.getD, hnl]
      have hlt2 : Op.bytesLess (out.getD ((n : Int)).toNat zPair).name.toList x.name.toList = decide (ltN out[n] x) := by rw [hgn, bytesLess_ltN]
      apply And.intro
      · exact ltb rfl
      refine And.intro (fun _ => And.intro rfl ?_) (fun h => absurd rfl h)
      apply And.intro
      · exact ltb rfl
      refine And.intro (fun _ => And.intro rfl ?_) (fun h => absurd rfl h)
      apply And.intro
      · exact ltb rfl
      refine And.intro (fun _ => And.intro rfl (And.intro (Int.natCast_nonneg _) (And.intro (by show (n : Int) < (out.length : Int); omega) (And.intro rfl ?_)))) (fun h => absurd rfl h)
      apply And.intro
      · exact ltb rfl
      refine And.intro (fun _ => And.intro rfl ?_) (fun h => absurd rfl h)
      apply And.intro
      · exact ltb rfl
      refine And.intro (fun _ => And.intro rfl ?_) (fun h => absurd rfl h)
      apply And.intro
      · exact ltb rfl
      refine And.intro (fun _ => And.intro rfl ?_) (fun h => absurd rfl h)
      apply And.intro
      · exact ltb rfl
      refine And.intro (fun _ => And.intro rfl ?_) (fun h => absurd rfl h)
      apply And.intro
      · exact ltb rfl
      refine And.intro (fun _ => And.intro rfl ?_) (fun h => absurd rfl h)
      refine And.intro (fun _ => And.intro rfl ?_) (fun h => by cases h)
      refine vc_sound tabOk (by kernel_rfl) ?_
      refine And.intro (fun hb => ?_) (fun hb => ?_)
      · have hb : Op.bytesLess (out.getD ((n : Int)).toNat zPair).name.toList x.name.toList = true := hb
        rw [hlt2] at hb
        refine vc_sound tabOk (by kernel_rfl) ?_
        refine And.intro rfl (And.intro ⟨by omega, by show (n : Int) + 1 ≤ _; omega⟩ ?_)
        refine ⟨⟨n + 1, hnl, fun j hj hjn => ?_⟩, by show out.length - (n + 1) < out.length - n; omega, Sub.ofL _ _ (Nat.zero_le _) ⟨rfl, rfl, rfl, rfl, rfl, rfl, rfl, rfl, rfl, rfl, rfl, rfl, trivial⟩ rfl rfl⟩
        rcases Nat.lt_or_ge j n with hj2 | hj2
        · exact hlo j hj hj2
        · obtain rfl : j = n := by omega
          exact of_decide_eq_true hb
      · have hb : Op.bytesLess (out.getD ((n : Int)).toNat zPair).name.toList x.name.toList = false := hb
        rw [hlt2] at hb
        exact ⟨⟨n, hn, hlo, fun _ => of_decide_eq_false hb⟩, Sub.ofL _ _ (Nat.zero_le _) ⟨rfl, rfl, rfl, rfl, rfl, rfl, rfl, rfl, rfl, rfl, rfl, rfl, trivial⟩ rfl rfl⟩
  rintro ⟨n, hn, hlo, hhi⟩
  have hins := ins_at x out n hn hlo hhi
  rw [← stp] at hins
  refine WP_seq_cut (α := Unit) (fun _ => ofL [(0, .d (dPoms l)), (3, .d (dPairs out)), (4, .int (i : Int)), (5, .int (k : Int)), (6, .ptr 0 0), (7, .int (n : Int)), (61, .bool (decide (∀ h : n < out.length, out[n].name ≠ x.name)))]) (fun _ => [.box 66 ((encPair x).map AV.d)]) (vc_sound tabOk (by kernel_rfl) ?_) (fun _ => ?_)
  · refine And.intro rfl (And.intro rfl (And.intro rfl (And.intro rfl (And.intro rfl (And.intro rfl ?_)))))
    cases hc : ((n : Int) == (out.length : Int)) with
    | true =>
      obtain rfl : n = out.length := by have := eq_of_beq hc; omega
      apply And.intro
      · exact ltb rfl
      refine And.intro (fun h => by cases h) (fun _ => ?_)
      apply And.intro
      · exact ltb rfl
      refine And.intro (fun h => by cases h) (fun _ => ?_)
      apply And.intro
      · exact ltb rfl
      refine And.intro (fun h => by cases h) (fun _ => ?_)
      apply And.intro
      · exact ltb rfl
      refine And.intro (fun h => by cases h) (fun _ => ?_)
      apply And.intro
      · exact ltb rfl
      refine And.intro (fun h => by cases h) (fun _ => ?_)
      apply And.intro
      · exact ltb rfl
      refine And.intro (fun h => by cases h) (fun _ => ?_)
      apply And.intro
      · exact ltb rfl
      refine And.intro (fun h => by cases h) (fun _ => ?_)
      apply And.intro
      · exact ltb rfl
      refine And.intro (fun h => by cases h) (fun _ => ?_)
      refine And.intro (fun _ => And.intro rfl ?_) (fun h => by cases h)
      refine ⟨(), Sub.ofL _ _ (Nat.zero_le _) ⟨rfl, rfl, rfl, rfl, rfl, rfl, rfl, rfl, rfl, rfl, rfl, rfl, ?_, rfl, trivial⟩ rfl rfl⟩
      show AV.bool true = _
      rw [decide_eq_true (fun h => absurd h (Nat.lt_irrefl _))]
    | false =>
      have hnl : n < out.length := by
        have : ¬ (n : Int) = (out.length : Int) := by intro e; rw [e] at hc; simp at hc
        omega
      have hgn : out.getD ((n : Int)).toNat zPair = out[n] := by simp [List.getD, hnl]
      apply And.intro
      · exact ltb rfl
      refine And.intro (fun _ => And.intro rfl ?_) (fun h => absurd rfl h)
      apply And.intro
      · exact ltb rfl
      refine And.intro (fun _ => And.intro rfl ?_) (fun h => absurd rfl h)
      apply And.intro
      · exact ltb rfl
      refine And.intro (fun _ => And.intro rfl (And.intro (Int.natCast_nonneg _) (And.intro (by show (n : Int) < (out.length : Int); omega) (And.intro rfl ?_)))) (fun h => absurd rfl h)
      apply And.intro
      · exact ltb rfl
      refine And.intro (fun _ => And.intro rfl ?_) (fun h => absurd rfl h)
      apply And.intro
      · exact ltb rfl
      refine And.intro (fun _ => And.intro rfl ?_) (fun h => absurd rfl h)
      apply And.intro
      · exact ltb rfl
      refine And.intro (fun _ => And.intro rfl ?_) (fun h => absurd rfl h)
      apply And.intro
      · exact ltb rfl
      refine And.intro (fun _ => And.intro rfl ?_) (fun h => absurd rfl h)
      apply And.intro
      · exact ltb rfl
      refine And.intro (fun _ => And.intro rfl ?_) (fun h => absurd rfl h)
      refine And.intro (fun h => by cases h) (fun _ => And.intro rfl ?_)
      refine ⟨(), Sub.ofL _ _ (Nat.zero_le _) ⟨rfl, rfl, rfl, rfl, rfl, rfl, rfl, rfl, rfl, rfl, rfl, rfl, ?_, rfl, trivial⟩ rfl rfl⟩
      show AV.bool (!((out.getD ((n : Int)).toNat zPair).name.toList == x.name.toList)) = _
      rw [hgn, str_beq]
      congr 1
      by_cases he : out[n].name = x.name
      · have h2 : decide (∀ h : n < out.length, out[n].name ≠ x.name) = false := decide_eq_false (fun hh => hh hnl he)
        rw [h2]; simp [he]
      · have h2 : decide (∀ h : n < out.length, out[n].name ≠ x.name) = true := decide_eq_true (fun _ => he)
        rw [h2]; simp [he]
  refine WP_cond rfl (fun hb => ?_) (fun hb => WP_skip ?_)
  · have hb : decide (∀ h : n < out.length, out[n].name ≠ x.name) = true := hb
    rw [if_pos (of_decide_eq_true hb)] at hins
    have hr1 : ((out.take n).map encPair).length = n := by rw [List.length_map, List.length_take]; omega
    have hdl : ((out.take out.length).drop n).length = out.length - n := by rw [List.take_length, List.length_drop]
    have hml : (((out.take out.length).drop n).map encPair).length = out.length - n := by rw [List.length_map, hdl]
    refine vc_draw3 tabOk 11 [false, false, false, true, false, false, true, false, false, false, true]
      [[.box 66 ((encPair x).map AV.d), .row 0 66 2 ((out.take n).map encPair)],
       [.box 66 ((encPair x).map AV.d), .row 1 66 2 (((out.take n).map encPair).take ((out.take n).map encPair).length ++ [encPair x])],
       [.box 66 ((encPair x).map AV.d), .row 2 66 2 ((((out.take n).map encPair).take ((out.take n).map encPair).length ++ [encPair x]).take (((out.take n).map encPair).length + 1) ++ ((out.take out.length).drop n).map encPair)]] (by kernel_rfl) ?_
    refine And.intro rfl (And.intro (And.intro (And.intro rfl rfl) (And.intro (And.intro rfl rfl) (And.intro (And.intro rfl rfl) (And.intro (And.intro rfl rfl) trivial)))) ?_)
    refine And.intro rfl (And.intro (And.intro (And.intro rfl rfl) (And.intro (And.intro rfl rfl) (And.intro (And.intro rfl rfl) (And.intro (And.intro rfl rfl) trivial)))) ?_)
    refine And.intro rfl (And.intro (Int.natCast_nonneg _) (And.intro (Nat.zero_le _) (And.intro (show n ≤ out.length from hn) (And.intro rfl (And.intro (And.intro (And.intro rfl (And.intro (Int.natCast_nonneg _) (And.intro (Nat.zero_le _) (And.intro (show n ≤ out.length from hn) (And.intro rfl rfl))))) (And.intro (And.intro rfl (And.intro (Int.natCast_nonneg _) (And.intro (Nat.zero_le _) (And.intro (show n ≤ out.length from hn) (And.intro rfl rfl))))) (And.intro (And.intro rfl (And.intro (Int.natCast_nonneg _) (And.intro (Nat.zero_le _) (And.intro (show n ≤ out.length from hn) (And.intro rfl rfl))))) (And.intro (And.intro rfl (And.intro (Int.natCast_nonneg _) (And.intro (Nat.zero_le _) (And.intro (show n ≤ out.length from hn) (And.intro rfl rfl))))) trivial)))) ?_)))))
    refine And.intro rfl (And.intro rfl (And.intro ?_ (And.intro ?_ (And.intro rfl ?_))))
    · show ((out.take n).map encPair).length * 32 ≤ _; omega
    · show ((out.take n).map encPair).length ≤ _; simp only [maxLen]; omega
    refine And.intro rfl (And.intro rfl (And.intro (And.intro (And.intro rfl (And.intro rfl rfl)) (And.intro (And.intro rfl (And.intro rfl rfl)) (And.intro (And.intro rfl (And.intro rfl rfl)) (And.intro (And.intro rfl (And.intro rfl rfl)) trivial)))) ?_))
    refine And.intro rfl (And.intro (by decide) (And.intro (by decide) (And.intro rfl (Or.inl (And.intro rfl (And.intro (And.intro (And.intro rfl (And.intro (by decide) (And.intro (by decide) (And.intro rfl (Or.inl (And.intro rfl rfl)))))) (And.intro (And.intro rfl (And.intro (by decide) (And.intro (by decide) (And.intro rfl (Or.inl (And.intro rfl rfl)))))) (And.intro (And.intro rfl (And.intro (by decide) (And.intro (by decide) (And.intro rfl (Or.inl (And.intro rfl rfl)))))) (And.intro (And.intro rfl (And.intro (by decide) (And.intro (by decide) (And.intro rfl (Or.inl (And.intro rfl rfl)))))) trivial)))) ?_))))))
    refine And.intro rfl (And.intro ⟨rfl, rfl, rfl, rfl⟩ (And.intro rfl (And.intro ?_ (And.intro ?_ (And.intro rfl ?_)))))
    · show (((out.take n).map encPair).length + 1) * 32 ≤ _; omega
    · show ((out.take n).map encPair).length + 1 ≤ _; simp only [maxLen]; omega
    refine And.intro rfl (And.intro (And.intro (And.intro rfl rfl) (And.intro (And.intro rfl rfl) (And.intro (And.intro rfl rfl) (And.intro (And.intro rfl rfl) trivial)))) ?_)
    refine And.intro rfl (And.intro (And.intro (And.intro rfl rfl) (And.intro (And.intro rfl rfl) (And.intro (And.intro rfl rfl) (And.intro (And.intro rfl rfl) trivial)))) ?_)
    refine And.intro rfl (And.intro (Int.natCast_nonneg _) (And.intro (show n ≤ out.length from hn) (And.intro (Nat.le_refl _) (And.intro rfl (And.intro (And.intro (And.intro rfl (And.intro (Int.natCast_nonneg _) (And.intro (show n ≤ out.length from hn) (And.intro (Nat.le_refl _) (And.intro rfl rfl))))) (And.intro (And.intro rfl (And.intro (Int.natCast_nonneg _) (And.intro (show n ≤ out.length from hn) (And.intro (Nat.le_refl _) (And.intro rfl rfl))))) (And.intro (And.intro rfl (And.intro (Int.natCast_nonneg _) (And.intro (show n ≤ out.length from hn) (And.intro (Nat.le_refl _) (And.intro rfl rfl))))) (And.intro (And.intro rfl (And.intro (Int.natCast_nonneg _) (And.intro (show n ≤ out.length from hn) (And.intro (Nat.le_refl _) (And.intro rfl rfl))))) trivial)))) ?_)))))
    refine And.intro rfl (And.intro ⟨rfl, rfl, rfl, rfl⟩ (And.intro rfl (And.intro ?_ (And.intro ?_ (And.intro rfl ?_)))))
    · show (((out.take n).map encPair).length + 1 + (((out.take out.length).drop n).map encPair).length) * 32 ≤ _
      rw [hml]; omega
    · show ((out.take n).map encPair).length + 1 + (((out.take out.length).drop n).map encPair).length ≤ _
      rw [hml]; simp only [maxLen]; omega
    have hrows : (((out.take n).map encPair).take ((out.take n).map encPair).length ++ [encPair x]).take (((out.take n).map encPair).length + 1) ++ ((out.take out.length).drop n).map encPair = (refPropsOf (propsIn (l.take i) ++ l[i].props.take (k + 1))).map encPair := by
      rw [hins, List.take_length, List.take_of_length_le (by simp), List.take_length]
      simp
    refine ⟨(), (Sub.shut 3 1 2 (((out.take n).map encPair).length + 1 + (((out.take out.length).drop n).map encPair).length) 66 2 ((((out.take n).map encPair).take ((out.take n).map encPair).length ++ [encPair x]).take (((out.take n).map encPair).length + 1) ++ ((out.take out.length).drop n).map encPair) ?_ ?_ ?_).trans ((Sub.le 3 rfl (DLe.tl zPair hrows)).trans (Sub.ofL [(0, .d (dPoms l)), (3, .d (dPairs (refPropsOf (propsIn (l.take i) ++ l[i].props.take (k + 1))))), (4, .int (i : Int)), (5, .int (k : Int))] [] (Nat.zero_le _) ⟨rfl, rfl, rfl, rfl, rfl, rfl, rfl, rfl, trivial⟩ rfl rfl))⟩
    · rfl
    · rfl
    simp only [List.length_append, List.length_take, List.length_drop, List.length_map, List.length_cons, List.length_nil]; omega
  · have hb : decide (∀ h : n < out.length, out[n].name ≠ x.name) = false := hb
    rw [if_neg (of_decide_eq_false hb)] at hins
    refine ⟨(), Sub.ofL _ _ (Nat.zero_le _) ⟨rfl, rfl, ?_, rfl, rfl, rfl, rfl, rfl, trivial⟩ rfl rfl⟩
    rw [hins]; rfl
end Go.Proofs.Nw.K
end
section
open Go Go.RowKit Go.Proofs Go.Sort
set_option linter.unusedVariables false
set_option linter.unusedSimpArgs false
namespace Go.Proofs.Nw.K

theorem packOf_eq (p : Pom) : packOf p = (if p.packaging.toList == emp.toList then jar else p.packaging) := by
  simp only [packOf, orOf]
  split
  · rw [if_neg (by rw [str_beq]; decide)]
  · rfl

theorem refMerge_impl (c : Coord) (l : List Pom) (hl : l.length ≤ 4194304) (hP : (propsIn l).length ≤ 4194304) (hM : (managedIn l).length ≤ 4194304) (hMw : ∀ d ∈ managedIn l, d.wt ≤ 4194304) (hD : (depsIn l).length ≤ 4194304) (hDw : ∀ d ∈ depsIn l, d.wt ≤ 4194304) :
    Impl Try.prog 27 [.agg (encCoord c), .one (dPoms l)] [.agg (encPom (mergeOf c l)), .one (dint (mergeErr c l))] := by
  refine impl_vc tabOk Try.func27 rfl rfl (by exact Nat.le_of_ble_eq_true rfl) ?_
  refine WP_seq (vc_sound tabOk (by kernel_rfl) ?_)
  refine WP_sub (Sub.ofL [(1, .d (dPoms l)), (2, .ptr 0 0), (4, .ptr 1 0), (5, .int 0)] [.box 23 ((encCoord c).map AV.d), .box 55 [.d (dstr emp), .d (dstr emp), .d (dstr emp), .d (dstr emp), .d (dstr emp), .d (dstr emp), .d (dstr emp), .nils, .nils, .nils]] (Nat.zero_le _) ⟨rfl, rfl, rfl, rfl, rfl, rfl, rfl, rfl, trivial⟩ rfl rfl) ?_
  refine WP_seq (vc_draw3 tabOk 8 [false, false, false, false, false, false, false, true] [[.box 23 ((encCoord c).map AV.d), .box 55 [.d (dstr emp), .d (dstr emp), .d (dstr emp), .d (dstr emp), .d (dstr emp), .d (dstr emp), .d (dstr emp), .nils, .nils, .nils], .box 55 [.d (dstr emp), .d (dstr emp), .d (dstr emp), .d (dstr emp), .d (dstr emp), .d (dstr emp), .d (dstr emp), .nils, .nils, .nils]]] (by kernel_rfl) ?_)
  refine And.intro rfl (And.intro (And.intro (And.intro rfl rfl) (And.intro (And.intro rfl rfl) trivial)) ?_)
  refine And.intro rfl (And.intro (And.intro (And.intro rfl rfl) (And.intro (And.intro rfl rfl) trivial)) ?_)
  refine And.intro rfl (And.intro (And.intro (And.intro rfl rfl) (And.intro (And.intro rfl rfl) trivial)) ?_)
  refine And.intro rfl (And.intro (And.intro (And.intro rfl rfl) (And.intro (And.intro rfl rfl) trivial)) ?_)
  refine And.intro rfl (And.intro (And.intro (And.intro rfl rfl) (And.intro (And.intro rfl rfl) trivial)) ?_)
  refine And.intro rfl (Exists.intro _ (Exists.intro _ (And.intro (refProps_impl l hl hP) (And.intro (AsLe.refl _) (And.intro rfl (And.intro (And.intro (And.intro rfl (Exists.intro _ (Exists.intro _ (And.intro (refProps_impl l hl hP) (And.intro (AsLe.refl _) (And.intro rfl rfl)))))) (And.intro (And.intro rfl (Exists.intro _ (Exists.intro _ (And.intro (refProps_impl l hl hP) (And.intro (AsLe.refl _) (And.intro rfl rfl)))))) trivial)) ?_))))))
  refine And.intro rfl (And.intro (And.intro (And.intro rfl rfl) (And.intro (And.intro rfl rfl) trivial)) ?_)
  refine And.intro rfl ?_
  refine And.intro rfl (And.intro (Nat.le_of_ble_eq_true rfl) ?_)
  refine WP_seq (vc_sound tabOk (by kernel_rfl) ?_)
  refine WP_seq_cut (α := Unit) (fun _ => ofL [(1, .d (dPoms l)), (4, .ptr 1 0), (5, .int 0), (6, .ptr 2 0), (7, .h 3 l.length 0 (managedIn l).length), (8, .h 4 l.length 0 (depsIn l).length)])
    (fun _ => [.box 23 ((encCoord c).map AV.d), .box 55 [.d (dstr emp), .d (dstr emp), .d (dstr emp), .d (dstr emp), .d (dstr emp), .d (dstr emp), .d (dstr emp), .nils, .nils, .nils], .box 55 [.d (dstr emp), .d (dstr emp), .d (dstr emp), .d (dstr c.group), .d (dstr emp), .d (dstr c.version), .d (dstr jar), .d (dPairs (propsOf (propsIn l))), .nils, .nils], .row l.length 35 8 ((managedIn l).map encDep), .row l.length 35 8 ((depsIn l).map encDep)]) (WP_seq (vc_sound tabOk (by kernel_rfl) ?_)) (fun _ => ?_)
  · refine WP_block (WP_loop (α := {i : Nat // i ≤ l.length}) (fun i => ofL [(1, .d (dPoms l)), (4, .ptr 1 0), (5, .int 0), (6, .ptr 2 0), (7, .h 3 i.1 0 (managedIn (l.take i.1)).length), (8, .h 4 i.1 0 (depsIn (l.take i.1)).length), (9, .int (i.1 : Int))])
      (fun i => [.box 23 ((encCoord c).map AV.d), .box 55 [.d (dstr emp), .d (dstr emp), .d (dstr emp), .d (dstr emp), .d (dstr emp), .d (dstr emp), .d (dstr emp), .nils, .nils, .nils], .box 55 [.d (dstr emp), .d (dstr emp), .d (dstr emp), .d (dstr c.group), .d (dstr emp), .d (dstr c.version), .d (dstr jar), .d (dPairs (propsOf (propsIn l))), .nils, .nils], .row i.1 35 8 ((managedIn (l.take i.1)).map encDep), .row i.1 35 8 ((depsIn (l.take i.1)).map encDep)]) (fun i => l.length - i.1) ⟨0, Nat.zero_le _⟩ ?_ ?_)
    · exact (Sub.nilsRow 7 35 8 rfl).trans ((Sub.nilsRow 8 35 8 rfl).trans (Sub.ofL _ _ (Nat.zero_le _) ⟨rfl, rfl, rfl, rfl, rfl, rfl, rfl, rfl, rfl, rfl, rfl, rfl, rfl, rfl, trivial⟩ rfl rfl))
    rintro ⟨i, hi⟩
    refine WP_seq (vc_sound tabOk (by kernel_rfl) ?_)
    refine And.intro rfl (And.intro (fun h => ?_) (fun h => ?_))
    rotate_left
    · have h : decide ((i : Int) < (l.length : Int)) = false := h
      obtain rfl : i = l.length := by have := of_decide_eq_false h; omega
      refine ⟨(), Sub.ofL _ _ (Nat.zero_le _) ⟨rfl, rfl, rfl, rfl, rfl, rfl, rfl, rfl, ?_, rfl, ?_, rfl, trivial⟩ ?_ rfl⟩
      · show AV.h 3 l.length 0 (managedIn (l.take l.length)).length = _
        rw [List.take_length]
      · show AV.h 4 l.length 0 (depsIn (l.take l.length)).length = _
        rw [List.take_length]
      · simp only [List.take_length]
    have h : decide ((i : Int) < (l.length : Int)) = true := h
    have hlt : i < l.length := by have := of_decide_eq_true h; omega
    have hlz : (i : Int) < (l.length : Int) := by omega
    have hg : l.getD ((i : Int)).toNat zPom = l[i] := by simp [List.getD, hlt]
    have eM := flat_succ Pom.managed l i hlt
    have eD := flat_succ Pom.deps l i hlt
    have bM := flat_take Pom.managed l (i + 1)
    have bD := flat_take Pom.deps l (i + 1)
    rw [eM, List.length_append] at bM
    rw [eD, List.length_append] at bD
    have hMl : (managedIn (l.take i)).length + l[i].managed.length ≤ 4194304 := Nat.le_trans bM hM
    have hDl : (depsIn (l.take i)).length + l[i].deps.length ≤ 4194304 := Nat.le_trans bD hD
    refine WP_seq (WP_block (vc_draw3 tabOk 14 [false, false, false, false, false, false, true, false, false, false, false, false, false, true]
      [[.box 23 ((encCoord c).map AV.d), .box 55 [.d (dstr emp), .d (dstr emp), .d (dstr emp), .d (dstr emp), .d (dstr emp), .d (dstr emp), .d (dstr emp), .nils, .nils, .nils], .box 55 [.d (dstr emp), .d (dstr emp), .d (dstr emp), .d (dstr c.group), .d (dstr emp), .d (dstr c.version), .d (dstr jar), .d (dPairs (propsOf (propsIn l))), .nils, .nils], .row (i + 1) 35 8 (((managedIn (l.take i)).map encDep).take (managedIn (l.take i)).length ++ l[i].managed.map encDep), .row i 35 8 ((depsIn (l.take i)).map encDep)],
       [.box 23 ((encCoord c).map AV.d), .box 55 [.d (dstr emp), .d (dstr emp), .d (dstr emp), .d (dstr emp), .d (dstr emp), .d (dstr emp), .d (dstr emp), .nils, .nils, .nils], .box 55 [.d (dstr emp), .d (dstr emp), .d (dstr emp), .d (dstr c.group), .d (dstr emp), .d (dstr c.version), .d (dstr jar), .d (dPairs (propsOf (propsIn l))), .nils, .nils], .row (i + 1) 35 8 (((managedIn (l.take i)).map encDep).take (managedIn (l.take i)).length ++ l[i].managed.map encDep), .row (i + 1) 35 8 (((depsIn (l.take i)).map encDep).take (depsIn (l.take i)).length ++ l[i].deps.map encDep)]] (by kernel_rfl) ?_))
    refine And.intro rfl (And.intro (And.intro (And.intro rfl rfl) (And.intro (And.intro rfl rfl) (And.intro (And.intro rfl rfl) trivial))) ?_)
    refine And.intro rfl (And.intro (And.intro (And.intro rfl rfl) (And.intro (And.intro rfl rfl) (And.intro (And.intro rfl rfl) trivial))) ?_)
    refine And.intro rfl (And.intro (And.intro (And.intro rfl rfl) (And.intro (And.intro rfl rfl) (And.intro (And.intro rfl rfl) trivial))) ?_)
    refine And.intro rfl (And.intro (Int.natCast_nonneg _) (And.intro hlz (And.intro rfl (And.intro (And.intro (And.intro rfl (And.intro (Int.natCast_nonneg _) (And.intro hlz (And.intro rfl rfl)))) (And.intro (And.intro rfl (And.intro (Int.natCast_nonneg _) (And.intro hlz (And.intro rfl rfl)))) (And.intro (And.intro rfl (And.intro (Int.natCast_nonneg _) (And.intro hlz (And.intro rfl rfl)))) trivial))) ?_))))
    refine And.intro rfl (And.intro (And.intro (And.intro rfl rfl) (And.intro (And.intro rfl rfl) (And.intro (And.intro rfl rfl) trivial))) ?_)
    refine And.intro rfl (And.intro (And.intro (And.intro rfl rfl) (And.intro (And.intro rfl rfl) (And.intro (And.intro rfl rfl) trivial))) ?_)
    refine And.intro rfl (And.intro ⟨rfl, rfl, rfl, rfl⟩ (And.intro rfl (And.intro ?_ (And.intro ?_ (And.intro ?_ ?_)))))
    · show ((managedIn (l.take i)).length + ((l.getD ((i : Int)).toNat zPom).managed.map encDep).length) * 128 ≤ _
      rw [hg, List.length_map]; omega
    · show (managedIn (l.take i)).length + ((l.getD ((i : Int)).toNat zPom).managed.map encDep).length ≤ _
      rw [hg, List.length_map]; simp only [maxLen]; omega
    · rw [← hg]; rfl
    refine And.intro rfl (And.intro (And.intro (And.intro rfl rfl) (And.intro (And.intro rfl rfl) (And.intro (And.intro rfl rfl) trivial))) ?_)
    refine And.intro rfl (And.intro (And.intro (And.intro rfl rfl) (And.intro (And.intro rfl rfl) (And.intro (And.intro rfl rfl) trivial))) ?_)
    refine And.intro rfl (And.intro (And.intro (And.intro rfl rfl) (And.intro (And.intro rfl rfl) (And.intro (And.intro rfl rfl) trivial))) ?_)
    refine And.intro rfl (And.intro (Int.natCast_nonneg _) (And.intro hlz (And.intro rfl (And.intro (And.intro (And.intro rfl (And.intro (Int.natCast_nonneg _) (And.intro hlz (And.intro rfl rfl)))) (And.intro (And.intro rfl (And.intro (Int.natCast_nonneg _) (And.intro hlz (And.intro rfl rfl)))) (And.intro (And.intro rfl (And.intro (Int.natCast_nonneg _) (And.intro hlz (And.intro rfl rfl)))) trivial))) ?_))))
    refine And.intro rfl (And.intro (And.intro (And.intro rfl rfl) (And.intro (And.intro rfl rfl) (And.intro (And.intro rfl rfl) trivial))) ?_)
    refine And.intro rfl (And.intro (And.intro (And.intro rfl rfl) (And.intro (And.intro rfl rfl) (And.intro (And.intro rfl rfl) trivial))) ?_)
    refine And.intro rfl (And.intro ⟨rfl, rfl, rfl, rfl⟩ (And.intro rfl (And.intro ?_ (And.intro ?_ (And.intro ?_ ?_)))))
    · show ((depsIn (l.take i)).length + ((l.getD ((i : Int)).toNat zPom).deps.map encDep).length) * 128 ≤ _
      rw [hg, List.length_map]; omega
    · show (depsIn (l.take i)).length + ((l.getD ((i : Int)).toNat zPom).deps.map encDep).length ≤ _
      rw [hg, List.length_map]; simp only [maxLen]; omega
    · rw [← hg]; rfl
    refine vc_sound tabOk (by kernel_rfl) ?_
    refine And.intro rfl (And.intro ⟨by omega, by show (i : Int) + 1 ≤ _; omega⟩ ?_)
    have t2 : ((managedIn (l.take i)).map encDep).take (managedIn (l.take i)).length = (managedIn (l.take i)).map encDep := List.take_of_length_le (by rw [List.length_map]; exact Nat.le_refl _)
    have t3 : ((depsIn (l.take i)).map encDep).take (depsIn (l.take i)).length = (depsIn (l.take i)).map encDep := List.take_of_length_le (by rw [List.length_map]; exact Nat.le_refl _)
    have q2 : managedIn (l.take (i + 1)) = managedIn (l.take i) ++ l[i].managed := eM
    have q3 : depsIn (l.take (i + 1)) = depsIn (l.take i) ++ l[i].deps := eD
    refine ⟨⟨i + 1, hlt⟩, by show l.length - (i + 1) < l.length - i; omega, Sub.ofL _ _ (Nat.zero_le _) ⟨rfl, rfl, rfl, rfl, rfl, rfl, rfl, rfl, ?_, rfl, ?_, rfl, rfl, rfl, trivial⟩ ?_ rfl⟩
    · show AV.h 3 (i + 1) 0 ((managedIn (l.take i)).length + ((l.getD ((i : Int)).toNat zPom).managed.map encDep).length) = AV.h 3 (i + 1) 0 (managedIn (l.take (i + 1))).length
      rw [q2, hg, List.length_map, List.length_append]
    · show AV.h 4 (i + 1) 0 ((depsIn (l.take i)).length + ((l.getD ((i : Int)).toNat zPom).deps.map encDep).length) = AV.h 4 (i + 1) 0 (depsIn (l.take (i + 1))).length
      rw [q3, hg, List.length_map, List.length_append]
    · simp only [t2, t3, q2, q3, List.map_append]; rfl
  · refine WP_seq (vc_sound tabOk (by kernel_rfl) ?_)
    refine And.intro rfl (Or.inr (Or.inl (And.intro ⟨rfl, rfl, (List.length_map _).symm⟩ (Exists.intro _ (Exists.intro _ (And.intro (refFirst_impl (managedIn l) hM hMw) (And.intro (And.intro (DLe.tl zDep rfl) trivial) ?_)))))))
    refine And.intro rfl (Or.inr (Or.inl (And.intro ⟨rfl, rfl, (List.length_map _).symm⟩ (Exists.intro _ (Exists.intro _ (And.intro (refFirst_impl (depsIn l) hD hDw) (And.intro (And.intro (DLe.tl zDep rfl) trivial) ?_)))))))
    refine And.intro rfl (And.intro (Nat.le_of_ble_eq_true rfl) ?_)
    refine And.intro rfl (And.intro (Nat.le_of_ble_eq_true rfl) ?_)
    refine WP_sub (Sub.ofL [(1, .d (dPoms l)), (4, .ptr 1 0), (5, .int 0), (6, .ptr 2 0)] [.box 23 ((encCoord c).map AV.d), .box 55 [.d (dstr emp), .d (dstr emp), .d (dstr emp), .d (dstr emp), .d (dstr emp), .d (dstr emp), .d (dstr emp), .nils, .nils, .nils], .box 55 [.d (dstr emp), .d (dstr emp), .d (dstr emp), .d (dstr c.group), .d (dstr emp), .d (dstr c.version), .d (dstr jar), .d (dPairs (propsOf (propsIn l))), .d (dDeps (firstOf (managedIn l))), .d (dDeps (firstOf (depsIn l)))]] (Nat.zero_le _) ⟨rfl, rfl, rfl, rfl, rfl, rfl, rfl, rfl, trivial⟩ rfl rfl) ?_
    refine WP_seq_cut (α := Unit) (fun _ => ofL [(4, .ptr 1 0), (5, .int 0), (6, .ptr 2 0)]) (fun _ => [.box 23 ((encCoord c).map AV.d), .box 55 [.d (dstr emp), .d (dstr emp), .d (dstr emp), .d (dstr emp), .d (dstr emp), .d (dstr emp), .d (dstr emp), .nils, .nils, .nils], .box 55 ((encPom (merged c l)).map AV.d)]) (WP_seq (vc_sound tabOk (by kernel_rfl) ?_)) (fun _ => ?_)
    · refine And.intro rfl ?_
      refine WP_cond rfl (fun hb => ?_) (fun hb => WP_skip ?_)
      · have hb : decide ((l.length : Int) > 0) = true := hb
        have hpos : 0 < l.length := by have := of_decide_eq_true hb; omega
        have hz : (0 : Int) < (l.length : Int) := by omega
        have hg : l.getD (Int.toNat 0) zPom = l[0] := by show l.getD 0 zPom = l[0]; simp [List.getD, hpos]
        obtain ⟨n1, n2⟩ : nameTo l l.length = l[0].name ∧ packTo l l.length = packOf l[0] := by
          cases l with
          | nil => simp at hpos
          | cons x r => unfold nameTo packTo; rw [List.take_length]; exact ⟨rfl, rfl⟩
        refine vc_draw2 tabOk 10 (by kernel_rfl) ?_
        refine And.intro rfl ?_
        refine And.intro rfl (And.intro (Int.le_refl _) (And.intro hz (And.intro rfl ?_)))
        refine And.intro rfl (And.intro rfl (And.intro rfl ?_))
        refine And.intro rfl (And.intro (Int.le_refl _) (And.intro hz (And.intro rfl ?_)))
        refine And.intro rfl (And.intro rfl ?_)
        refine And.intro rfl (Exists.intro _ (Exists.intro _ (And.intro (or51_impl (l.getD (Int.toNat 0) zPom).packaging jar) (And.intro (AsLe.refl _) (And.intro rfl ?_)))))
        refine And.intro rfl ?_
        refine And.intro rfl (And.intro (Nat.le_of_ble_eq_true rfl) ?_)
        refine And.intro rfl (And.intro (Nat.le_of_ble_eq_true rfl) ?_)
        refine ⟨(), Sub.ofL _ _ (Nat.zero_le _) ⟨rfl, rfl, rfl, rfl, rfl, rfl, trivial⟩ ?_ rfl⟩
        rw [merged, n1, n2, packOf_eq, ← hg]; rfl
      · have hb : decide ((l.length : Int) > 0) = false := hb
        have h0 : l = [] := List.eq_nil_of_length_eq_zero (by have := of_decide_eq_false hb; omega)
        refine ⟨(), Sub.ofL _ _ (Nat.zero_le _) ⟨rfl, rfl, rfl, rfl, rfl, rfl, trivial⟩ ?_ rfl⟩
        subst h0; rfl
    refine vc_sound tabOk (by kernel_rfl) ?_
    refine And.intro rfl ?_
    have hbg : mergeBig (merged c l) = (decide (((merged c l).props.length : Int) > 100) || decide (((merged c l).managed.length : Int) > 200) || decide (((merged c l).deps.length : Int) > 200)) := rfl
    cases g1 : decide (((merged c l).props.length : Int) > 100) with
    | true =>
      have hbig : mergeBig (merged c l) = true := by rw [hbg, g1]; rfl
      apply And.intro
      · exact ltb rfl
      refine And.intro (fun h => by cases h) (fun _ => ?_)
      apply And.intro
      · exact ltb rfl
      refine And.intro (fun h => by cases h) (fun _ => ?_)
      apply And.intro
      · exact ltb rfl
      refine And.intro (fun h => by cases h) (fun _ => ?_)
      apply And.intro
      · exact ltb rfl
      refine And.intro (fun h => by cases h) (fun _ => ?_)
      refine And.intro (fun _ => ?_) (fun h => by cases h)
      apply And.intro
      · exact ltb rfl
      refine And.intro (fun h => by cases h) (fun _ => ?_)
      apply And.intro
      · exact ltb rfl
      refine And.intro (fun h => by cases h) (fun _ => ?_)
      apply And.intro
      · exact ltb rfl
      refine And.intro (fun h => by cases h) (fun _ => ?_)
      apply And.intro
      · exact ltb rfl
      refine And.intro (fun h => by cases h) (fun _ => ?_)
      refine And.intro (fun _ => ?_) (fun h => by cases h)
      refine And.intro (fun _ => ?_) (fun h => by cases h)
      refine And.intro rfl (And.intro (Nat.le_of_ble_eq_true rfl) ?_)
      refine And.intro rfl (And.intro (DLe.agg ?_) (And.intro (DLe.of_eq ?_) trivial))
      · rw [mergeOf, if_pos hbig]
        exact ⟨DLe.refl _, DLe.refl _, DLe.refl _, DLe.refl _, DLe.refl _, DLe.refl _, DLe.refl _, DLe.nils _, DLe.nils _, DLe.nils _, trivial⟩
      · rw [mergeErr, if_pos hbig]
    | false =>
      apply And.intro
      · exact ltb rfl
      refine And.intro (fun _ => ?_) (fun h => absurd rfl h)
      apply And.intro
      · exact ltb rfl
      refine And.intro (fun _ => ?_) (fun h => absurd rfl h)
      apply And.intro
      · exact ltb rfl
      refine And.intro (fun _ => ?_) (fun h => absurd rfl h)
      apply And.intro
      · exact ltb rfl
      refine And.intro (fun _ => And.intro rfl ?_) (fun h => absurd rfl h)
      refine And.intro (fun h => by cases h) (fun _ => ?_)
      cases g2 : decide (((merged c l).managed.length : Int) > 200) with
      | true =>
        have hbig : mergeBig (merged c l) = true := by rw [hbg, g1, g2]; rfl
        apply And.intro
        · exact ltb rfl
        refine And.intro (fun h => by cases h) (fun _ => ?_)
        apply And.intro
        · exact ltb rfl
        refine And.intro (fun h => by cases h) (fun _ => ?_)
        apply And.intro
        · exact ltb rfl
        refine And.intro (fun h => by cases h) (fun _ => ?_)
        apply And.intro
        · exact ltb rfl
        refine And.intro (fun h => by cases h) (fun _ => ?_)
        refine And.intro (fun _ => ?_) (fun h => by cases h)
        refine And.intro (fun _ => ?_) (fun h => by cases h)
        refine And.intro rfl (And.intro (Nat.le_of_ble_eq_true rfl) ?_)
        refine And.intro rfl (And.intro (DLe.agg ?_) (And.intro (DLe.of_eq ?_) trivial))
        · rw [mergeOf, if_pos hbig]
          exact ⟨DLe.refl _, DLe.refl _, DLe.refl _, DLe.refl _, DLe.refl _, DLe.refl _, DLe.refl _, DLe.nils _, DLe.nils _, DLe.nils _, trivial⟩
        · rw [mergeErr, if_pos hbig]
      | false =>
        apply And.intro
        · exact ltb rfl
        refine And.intro (fun _ => ?_) (fun h => absurd rfl h)
        apply And.intro
        · exact ltb rfl
        refine And.intro (fun _ => ?_) (fun h => absurd rfl h)
        apply And.intro
        · exact ltb rfl
        refine And.intro (fun _ => ?_) (fun h => absurd rfl h)
        apply And.intro
        · exact ltb rfl
        refine And.intro (fun _ => And.intro rfl ?_) (fun h => absurd rfl h)
        refine And.intro (fun h => by cases h) (fun _ => ?_)
        cases g3 : decide (((merged c l).deps.length : Int) > 200) with
        | true =>
          have hbig : mergeBig (merged c l) = true := by rw [hbg, g1, g2, g3]; rfl
          refine And.intro (fun _ => ?_) (fun h => by cases h)
          refine And.intro rfl (And.intro (Nat.le_of_ble_eq_true rfl) ?_)
          refine And.intro rfl (And.intro (DLe.agg ?_) (And.intro (DLe.of_eq ?_) trivial))
          · rw [mergeOf, if_pos hbig]
            exact ⟨DLe.refl _, DLe.refl _, DLe.refl _, DLe.refl _, DLe.refl _, DLe.refl _, DLe.refl _, DLe.nils _, DLe.nils _, DLe.nils _, trivial⟩
          · rw [mergeErr, if_pos hbig]
        | false =>
          have hbig : ¬ mergeBig (merged c l) = true := by rw [hbg, g1, g2, g3]; decide
          refine And.intro (fun h => by cases h) (fun _ => ?_)
          refine And.intro rfl (And.intro rfl (And.intro (Nat.le_of_ble_eq_true rfl) ?_))
          refine And.intro rfl (And.intro (DLe.of_eq ?_) (And.intro (DLe.of_eq ?_) trivial))
          · rw [mergeOf, if_neg hbig]; rfl
          · rw [mergeErr, if_neg hbig]
end Go.Proofs.Nw.K
end
section
open Go Go.RowKit Go.Proofs
set_option linter.unusedVariables false
set_option linter.unusedSimpArgs false
namespace Go.Proofs.Nw.K

abbrev dbyte (c : Int) : D := .sc (.int .u8 c)
theorem Impl_pure1 {f : FuncId} {v u : Value} (hu : scal u = true) (h : ∀ W, Calls Try.prog f #[v] W fun e w' => e = .returned u ∧ w' = W) : Impl Try.prog f [.one (.sc v)] [.one (.sc u)] := by
  intro w σ vs hs hv
  obtain ⟨hl, hg⟩ := hv
  match vs, hl with
  | [x], _ =>
    have hx := hg 0 x _ rfl rfl
    have hx : x = v := RepA_sc (gh := []) (st := []) (show RepA σ [] [] x (.d (.sc v)) from hx)
    subst hx
    refine (h w).mono fun e w' ⟨he, hw⟩ => ?_
    subst hw
    exact ⟨u, σ, he, Below.refl _ _, hs, fun _ _ => ⟨rfl, rfl⟩, Rep.sc hu⟩

def spaceB (c : Int) : Bool := c == 9 || (c == 10 || (c == 13 || c == 32))
def allowedB (c : Int) : Bool := spaceB c || decide (c > 32)
def digitB (c : Int) : Bool := decide (c ≥ 48) && decide (c ≤ 57)
def letterB (c : Int) : Bool := (decide (c ≥ 97) && decide (c ≤ 122)) || ((decide (c ≥ 65) && decide (c ≤ 90)) || c == 95)
def withinB (c : Int) : Bool := letterB c || (digitB c || (c == 45 || (c == 46 || c == 58)))

theorem Space91 (c : Int) (W : World) : Calls Try.prog 91 #[.int .u8 c] W fun e w' => e = .returned (.bool (spaceB c)) ∧ w' = W := by
  go_enter Try.func91, Try.ntmps91
  go_wp2
  all_goals (refine ⟨rfl, _, results_tmp (t := 2) rfl _ _ _, ?_, rfl⟩)
  all_goals simp_all [spaceB, Bool.or_assoc]
theorem Digit92 (c : Int) (W : World) : Calls Try.prog 92 #[.int .u8 c] W fun e w' => e = .returned (.bool (digitB c)) ∧ w' = W := by
  go_enter Try.func92, Try.ntmps92
  go_wp2
  all_goals (refine ⟨rfl, _, results_tmp (t := 2) rfl _ _ _, ?_, rfl⟩)
  all_goals simp_all [digitB]
  all_goals omega
theorem letter81 (c : Int) (W : World) : Calls Try.prog 81 #[.int .u8 c] W fun e w' => e = .returned (.bool (letterB c)) ∧ w' = W := by
  go_enter Try.func81, Try.ntmps81
  go_wp2
  all_goals (refine ⟨rfl, _, results_tmp (t := 2) rfl _ _ _, ?_, rfl⟩)
  all_goals simp_all [letterB, Bool.or_assoc]
  all_goals first | omega | (rw [decide_eq_false (show ¬ 97 ≤ c by omega), decide_eq_false (show ¬ 65 ≤ c by omega)]; simp)
theorem Allowed78 (c : Int) (W : World) : Calls Try.prog 78 #[.int .u8 c] W fun e w' => e = .returned (.bool (allowedB c)) ∧ w' = W := by
  have hcon := fun W => Space91 c W
  have hd : allowedB c = (spaceB c || decide (c > 32)) := rfl
  rw [hd]
  generalize spaceB c = b at *
  go_enter Try.func78, Try.ntmps78
  go_wp2_with (go_at_call 91; refine (hcon _).mono ?_; rintro e w' ⟨rfl, hw⟩; rw [hw])
  all_goals (refine ⟨rfl, _, results_tmp (t := 2) rfl _ _ _, ?_, rfl⟩)
  all_goals simp_all
theorem within82 (c : Int) (W : World) : Calls Try.prog 82 #[.int .u8 c] W fun e w' => e = .returned (.bool (withinB c)) ∧ w' = W := by
  have hcon := fun W => letter81 c W
  have hcon2 := fun W => Digit92 c W
  have hd : withinB c = (letterB c || (digitB c || (c == 45 || (c == 46 || c == 58)))) := rfl
  rw [hd]
  generalize letterB c = b at *
  generalize digitB c = b2 at *
  go_enter Try.func82, Try.ntmps82
  go_wp2_with (first | (go_at_call 81; refine (hcon _).mono ?_; rintro e w' ⟨rfl, hw⟩; rw [hw]) | (go_at_call 92; refine (hcon2 _).mono ?_; rintro e w' ⟨rfl, hw⟩; rw [hw]))
  all_goals (refine ⟨rfl, _, results_tmp (t := 2) rfl _ _ _, ?_, rfl⟩)
  all_goals simp_all [Bool.or_assoc]
theorem Space_impl (c : Int) : Impl Try.prog 91 [.one (dbyte c)] [.one (dbool (spaceB c))] := Impl_pure1 rfl (Space91 c)
theorem Allowed_impl (c : Int) : Impl Try.prog 78 [.one (dbyte c)] [.one (dbool (allowedB c))] := Impl_pure1 rfl (Allowed78 c)
theorem letter_impl (c : Int) : Impl Try.prog 81 [.one (dbyte c)] [.one (dbool (letterB c))] := Impl_pure1 rfl (letter81 c)
theorem within_impl (c : Int) : Impl Try.prog 82 [.one (dbyte c)] [.one (dbool (withinB c))] := Impl_pure1 rfl (within82 c)
end Go.Proofs.Nw.K
end
section
open Go Go.RowKit Go.Proofs
set_option linter.unusedVariables false
set_option linter.unusedSimpArgs false
namespace Go.Proofs.Nw.K

/-! ### newelref01.Trim -/
def trimA : Nat → Str → Str
  | 0, s => s
  | n + 1, s => if spaceB (byteAt s 0) = true then trimA n (s.extract 1 s.size) else s
def trimZ : Nat → Str → Str
  | 0, s => s
  | n + 1, s => if spaceB (byteAt s n) = true then trimZ n (s.extract 0 n) else s
theorem trimA_size : ∀ (n : Nat) (s : Str), (trimA n s).size ≤ s.size
  | 0, s => Nat.le_refl _
  | n + 1, s => by
    unfold trimA
    split
    · have := trimA_size n (s.extract 1 s.size)
      rw [ByteArray.size_extract] at this; omega
    · exact Nat.le_refl _
theorem trimZ_size : ∀ (n : Nat) (s : Str), (trimZ n s).size ≤ s.size
  | 0, s => Nat.le_refl _
  | n + 1, s => by
    unfold trimZ
    split
    · have := trimZ_size n (s.extract 0 n)
      rw [ByteArray.size_extract] at this; omega
    · exact Nat.le_refl _
def trimOf (s : Str) : Str := trimZ (trimA s.size s).size (trimA s.size s)
theorem trimOf_size (s : Str) : (trimOf s).size ≤ s.size := Nat.le_trans (trimZ_size _ _) (trimA_size _ _)

theorem Trim_impl (s : Str) (hs : s.size ≤ 4194304) : Impl Try.prog 79 [.one (dstr s)] [.one (dstr (trimOf s))] := by
  have hA := trimA_size s.size s
  refine impl_vc tabOk Try.func79 rfl rfl (by exact Nat.le_of_ble_eq_true rfl) ?_
  refine WP_seq (vc_sound tabOk (by kernel_rfl) ?_)
  refine WP_seq_cut (α := Unit) (fun _ => ofL [(0, .str (trimA s.size s))]) (fun _ => []) (WP_block (WP_loop (α := {x : Str // x.size ≤ s.size ∧ trimA x.size x = trimA s.size s}) (fun x => ofL [(0, .str x.1)]) (fun _ => []) (fun x => x.1.size) ⟨s, Nat.le_refl _, rfl⟩ ?_ ?_)) (fun _ => ?_)
  · exact Sub.ofL _ _ (Nat.zero_le _) ⟨rfl, rfl, trivial⟩ rfl rfl
  · rintro ⟨x, hx, ht⟩
    refine WP_seq (WP_seq (vc_sound tabOk (by kernel_rfl) ?_))
    refine And.intro rfl ?_
    cases hc : decide ((x.size : Int) > 0) with
    | false =>
      have h0 : x.size = 0 := by have := of_decide_eq_false hc; omega
      apply And.intro
      · exact ltb rfl
      refine And.intro (fun h => by cases h) (fun _ => ?_)
      apply And.intro
      · exact ltb rfl
      refine And.intro (fun h => by cases h) (fun _ => ?_)
      apply And.intro
      · exact ltb rfl
      refine And.intro (fun h => by cases h) (fun _ => ?_)
      refine And.intro (fun h => by cases h) (fun _ => ?_)
      refine vc_sound tabOk (by kernel_rfl) ?_
      refine And.intro (fun h => by cases h) (fun _ => ?_)
      refine ⟨(), Sub.ofL _ _ (Nat.zero_le _) ⟨?_, rfl, trivial⟩ rfl rfl⟩
      rw [h0] at ht
      exact congrArg AV.str ht
    | true =>
      have hpos : 0 < x.size := by have := of_decide_eq_true hc; omega
      apply And.intro
      · exact ltb rfl
      refine And.intro (fun _ => ?_) (fun h => absurd rfl h)
      apply And.intro
      · exact ltb rfl
      refine And.intro (fun _ => And.intro rfl (And.intro (Int.le_refl _) (And.intro (by show (0 : Int) < (x.size : Int); omega) ?_))) (fun h => absurd rfl h)
      apply And.intro
      · exact ltb rfl
      refine And.intro (fun _ => And.intro rfl (Exists.intro _ (Exists.intro _ (And.intro (Space_impl (byteAt x 0)) (And.intro (AsLe.refl _) ?_))))) (fun h => absurd rfl h)
      refine And.intro (fun _ => ?_) (fun h => by cases h)
      refine vc_sound tabOk (by kernel_rfl) ?_
      obtain ⟨m, hm⟩ : ∃ m, x.size = m + 1 := ⟨x.size - 1, by omega⟩
      rw [hm, trimA] at ht
      refine And.intro (fun hb => ?_) (fun hb => ?_)
      · have hb : spaceB (byteAt x 0) = true := hb
        rw [if_pos hb] at ht
        refine vc_sound tabOk (by kernel_rfl) ?_
        refine And.intro rfl (And.intro (by decide) (And.intro (by show 1 ≤ x.size; omega) (And.intro (Nat.le_refl _) ?_)))
        have hsz : (x.extract 1 x.size).size = m := by rw [ByteArray.size_extract]; omega
        refine ⟨⟨x.extract 1 x.size, by omega, by rw [hsz]; exact ht⟩, by show (x.extract 1 x.size).size < x.size; omega, Sub.ofL _ _ (Nat.zero_le _) ⟨rfl, rfl, trivial⟩ rfl rfl⟩
      · have hb : spaceB (byteAt x 0) = false := hb
        rw [if_neg (by rw [hb]; decide)] at ht
        refine ⟨(), Sub.ofL _ _ (Nat.zero_le _) ⟨?_, rfl, trivial⟩ rfl rfl⟩
        exact congrArg AV.str ht
  generalize hr : trimA s.size s = r at *
  have hres : trimOf s = trimZ r.size r := by unfold trimOf; rw [hr]
  rw [hres]
  refine WP_seq_cut (α := Unit) (fun _ => ofL [(0, .str (trimZ r.size r))]) (fun _ => []) (WP_block (WP_loop (α := {x : Str // x.size ≤ r.size ∧ trimZ x.size x = trimZ r.size r}) (fun x => ofL [(0, .str x.1)]) (fun _ => []) (fun x => x.1.size) ⟨r, Nat.le_refl _, rfl⟩ ?_ ?_)) (fun _ => ?_)
  · exact Sub.ofL _ _ (Nat.zero_le _) ⟨rfl, rfl, trivial⟩ rfl rfl
  · rintro ⟨x, hx, ht⟩
    refine WP_seq (WP_seq (vc_sound tabOk (by kernel_rfl) ?_))
    refine And.intro rfl ?_
    cases hc : decide ((x.size : Int) > 0) with
    | false =>
      have h0 : x.size = 0 := by have := of_decide_eq_false hc; omega
      apply And.intro
      · exact ltb rfl
      refine And.intro (fun h => by cases h) (fun _ => ?_)
      apply And.intro
      · exact ltb rfl
      refine And.intro (fun h => by cases h) (fun _ => ?_)
      apply And.intro
      · exact ltb rfl
      refine And.intro (fun h => by cases h) (fun _ => ?_)
      apply And.intro
      · exact ltb rfl
      refine And.intro (fun h => by cases h) (fun _ => ?_)
      apply And.intro
      · exact ltb rfl
      refine And.intro (fun h => by cases h) (fun _ => ?_)
      apply And.intro
      · exact ltb rfl
      refine And.intro (fun h => by cases h) (fun _ => ?_)
      refine And.intro (fun h => by cases h) (fun _ => ?_)
      refine vc_sound tabOk (by kernel_rfl) ?_
      refine And.intro (fun h => by cases h) (fun _ => ?_)
      refine ⟨(), Sub.ofL _ _ (Nat.zero_le _) ⟨?_, rfl, trivial⟩ rfl rfl⟩
      rw [h0] at ht
      exact congrArg AV.str ht
    | true =>
      obtain ⟨m, hm⟩ : ∃ m, x.size = m + 1 := ⟨x.size - 1, by have := of_decide_eq_true hc; omega⟩
      have hx1 : ((x.size : Int) - 1).toNat = m := by omega
      apply And.intro
      · exact ltb rfl
      refine And.intro (fun _ => ?_) (fun h => absurd rfl h)
      apply And.intro
      · exact ltb rfl
      refine And.intro (fun _ => ?_) (fun h => absurd rfl h)
      apply And.intro
      · exact ltb rfl
      refine And.intro (fun _ => ?_) (fun h => absurd rfl h)
      apply And.intro
      · exact ltb rfl
      refine And.intro (fun _ => And.intro rfl (And.intro (by show _ ≤ (x.size : Int) - 1 ∧ (x.size : Int) - 1 ≤ _; omega) ?_)) (fun h => absurd rfl h)
      apply And.intro
      · exact ltb rfl
      refine And.intro (fun _ => And.intro rfl (And.intro (by show 0 ≤ (x.size : Int) - 1; omega) (And.intro (by show (x.size : Int) - 1 < (x.size : Int); omega) ?_))) (fun h => absurd rfl h)
      apply And.intro
      · exact ltb rfl
      refine And.intro (fun _ => And.intro rfl (Exists.intro _ (Exists.intro _ (And.intro (Space_impl (byteAt x ((x.size : Int) - 1).toNat)) (And.intro (AsLe.refl _) ?_))))) (fun h => absurd rfl h)
      refine And.intro (fun _ => ?_) (fun h => by cases h)
      refine vc_sound tabOk (by kernel_rfl) ?_
      rw [hm, trimZ] at ht
      refine And.intro (fun hb => ?_) (fun hb => ?_)
      · have hb : spaceB (byteAt x ((x.size : Int) - 1).toNat) = true := hb
        rw [hx1] at hb
        rw [if_pos hb] at ht
        refine vc_sound tabOk (by kernel_rfl) ?_
        refine And.intro rfl (And.intro (by show _ ≤ (x.size : Int) - 1 ∧ (x.size : Int) - 1 ≤ _; omega) ?_)
        refine And.intro rfl (And.intro (by show 0 ≤ (x.size : Int) - 1; omega) (And.intro (Nat.zero_le _) (And.intro (by show ((x.size : Int) - 1).toNat ≤ x.size; omega) ?_)))
        have hsz : (x.extract 0 m).size = m := by rw [ByteArray.size_extract]; omega
        refine ⟨⟨x.extract 0 m, by omega, by rw [hsz]; exact ht⟩, by show (x.extract 0 m).size < x.size; omega, Sub.ofL _ _ (Nat.zero_le _) ⟨?_, rfl, trivial⟩ rfl rfl⟩
        show AV.str (x.extract 0 ((x.size : Int) - 1).toNat) = _
        rw [hx1]
      · have hb : spaceB (byteAt x ((x.size : Int) - 1).toNat) = false := hb
        rw [hx1] at hb
        rw [if_neg (by rw [hb]; decide)] at ht
        refine ⟨(), Sub.ofL _ _ (Nat.zero_le _) ⟨?_, rfl, trivial⟩ rfl rfl⟩
        exact congrArg AV.str ht
  refine vc_sound tabOk (by kernel_rfl) ?_
  exact And.intro (DLe.refl _) trivial

/-! ### newelplay.value, or -/
def keptTo (s : Str) (i : Nat) : List Int := ((List.range i).map fun j => byteAt s j).filter allowedB
theorem keptTo_succ (s : Str) (i : Nat) : keptTo s (i + 1) = keptTo s i ++ (if allowedB (byteAt s i) = true then [byteAt s i] else []) := by
  unfold keptTo
  rw [List.range_succ, List.map_append, List.filter_append]
  congr 1
  simp only [List.map_cons, List.map_nil, List.filter_cons, List.filter_nil]
theorem keptTo_length (s : Str) (i : Nat) : (keptTo s i).length ≤ i := by
  unfold keptTo
  exact Nat.le_trans (List.length_filter_le _ _) (by simp)
def strOf (ns : List Int) : Str := ⟨(ns.map fun n => UInt8.ofNat n.toNat).toArray⟩
theorem strOf_size (ns : List Int) : (strOf ns).size = ns.length := by
  show (ns.map fun n => UInt8.ofNat n.toNat).toArray.size = _
  simp
def stopAt (s : Str) : Nat := if s.size ≤ 60 then s.size else 60
def valueOf (s : Str) : Str := trimOf (strOf (keptTo s (stopAt s)))
theorem valueOf_size (s : Str) : (valueOf s).size ≤ 60 := by
  have h1 := trimOf_size (strOf (keptTo s (stopAt s)))
  have h2 := keptTo_length s (stopAt s)
  rw [strOf_size] at h1
  have h3 : stopAt s ≤ 60 := by unfold stopAt; split <;> omega
  unfold valueOf; omega

theorem value_impl (s : Str) : Impl Try.prog 55 [.one (dstr s)] [.one (dstr (valueOf s))] := by
  have hks := keptTo_length s (stopAt s)
  have hst : stopAt s ≤ 60 := by unfold stopAt; split <;> omega
  refine impl_vc tabOk Try.func55 rfl rfl (by exact Nat.le_of_ble_eq_true rfl) ?_
  refine WP_seq (vc_sound tabOk (by kernel_rfl) ?_)
  refine WP_seq (vc_sound tabOk (by kernel_rfl) ?_)
  refine WP_seq_cut (α := Unit) (fun _ => ofL [(3, .h 0 (keptTo s (stopAt s)).length 0 (keptTo s (stopAt s)).length)]) (fun _ => [.row (keptTo s (stopAt s)).length 5 1 ((keptTo s (stopAt s)).map byteRow)]) (WP_seq (vc_sound tabOk (by kernel_rfl) ?_)) (fun _ => ?_)
  · refine WP_block (WP_loop (α := {i : Nat // i ≤ s.size ∧ i ≤ 60}) (fun i => ofL [(0, .str s), (3, .h 0 (keptTo s i.1).length 0 (keptTo s i.1).length), (4, .int (i.1 : Int))]) (fun i => [.row (keptTo s i.1).length 5 1 ((keptTo s i.1).map byteRow)]) (fun i => 60 - i.1) ⟨0, Nat.zero_le _, Nat.zero_le _⟩ ?_ ?_)
    · exact (Sub.nilsRow 3 5 1 rfl).trans (Sub.ofL _ _ (Nat.zero_le _) ⟨rfl, rfl, rfl, rfl, rfl, rfl, trivial⟩ rfl rfl)
    rintro ⟨i, hi, hi60⟩
    refine WP_seq (vc_sound tabOk (by kernel_rfl) ?_)
    refine And.intro rfl ?_
    cases hc : decide ((i : Int) < (s.size : Int)) with
    | false =>
      have hst1 : i = stopAt s := by have := of_decide_eq_false hc; unfold stopAt; split <;> omega
      apply And.intro
      · exact ltb rfl
      refine And.intro (fun h => by cases h) (fun _ => ?_)
      apply And.intro
      · exact ltb rfl
      refine And.intro (fun h => by cases h) (fun _ => ?_)
      refine And.intro (fun h => by cases h) (fun _ => ?_)
      refine And.intro (fun h => by cases h) (fun _ => ?_)
      subst hst1
      exact ⟨(), Sub.ofL _ _ (Nat.zero_le _) ⟨rfl, rfl, trivial⟩ rfl rfl⟩
    | true =>
      have hlt : i < s.size := by have := of_decide_eq_true hc; omega
      apply And.intro
      · exact ltb rfl
      refine And.intro (fun _ => ?_) (fun h => absurd rfl h)
      apply And.intro
      · exact ltb rfl
      refine And.intro (fun _ => And.intro rfl ?_) (fun h => absurd rfl h)
      refine And.intro (fun _ => ?_) (fun h => by cases h)
      refine And.intro (fun h60 => ?_) (fun h60 => ?_)
      rotate_left
      · have h60 : decide ((i : Int) < 60) = false := h60
        have hst1 : i = stopAt s := by have := of_decide_eq_false h60; unfold stopAt; split <;> omega
        subst hst1
        exact ⟨(), Sub.ofL _ _ (Nat.zero_le _) ⟨rfl, rfl, trivial⟩ rfl rfl⟩
      have h60 : decide ((i : Int) < 60) = true := h60
      have hi6 : i < 60 := by have := of_decide_eq_true h60; omega
      have hkl := keptTo_length s i
      have hk1 := keptTo_succ s i
      have hlz : (i : Int) < (s.size : Int) := by omega
      refine WP_seq (WP_block (WP_seq (vc_sound tabOk (by kernel_rfl) ?_)))
      refine And.intro rfl (And.intro (Int.natCast_nonneg _) (And.intro hlz ?_))
      refine And.intro rfl (Exists.intro _ (Exists.intro _ (And.intro (Allowed_impl (byteAt s i)) (And.intro (AsLe.refl _) ?_))))
      refine vc_sound tabOk (by kernel_rfl) ?_
      refine And.intro (fun hb => ?_) (fun hb => ?_)
      · have hb : allowedB (byteAt s i) = true := hb
        rw [if_pos hb] at hk1
        have e1 : (keptTo s (i + 1)).length = (keptTo s i).length + 1 := by rw [hk1]; simp
        refine And.intro rfl (And.intro (Int.natCast_nonneg _) (And.intro hlz ?_))
        refine And.intro rfl (And.intro (by decide) (And.intro (by decide) (And.intro rfl (Or.inl ?_))))
        refine And.intro rfl (And.intro ⟨rfl, rfl, rfl, rfl⟩ (And.intro rfl (And.intro ?_ (And.intro ?_ ?_))))
        · show ((keptTo s i).length + 1) * 1 ≤ _; omega
        · show (keptTo s i).length + 1 ≤ _; simp only [maxLen]; omega
        refine vc_sound tabOk (by kernel_rfl) ?_
        refine And.intro rfl (And.intro ⟨by omega, by show (i : Int) + 1 ≤ _; omega⟩ ?_)
        refine ⟨⟨i + 1, hlt, hi6⟩, by show 60 - (i + 1) < 60 - i; omega, Sub.ofL _ _ (Nat.zero_le _) ⟨rfl, rfl, ?_, rfl, rfl, rfl, trivial⟩ ?_ rfl⟩
        · show AV.h 0 ((keptTo s i).length + 1) 0 ((keptTo s i).length + 1) = AV.h 0 (keptTo s (i + 1)).length 0 (keptTo s (i + 1)).length
          rw [e1]
        · have e2 : ((keptTo s i).map byteRow).take (keptTo s i).length = (keptTo s i).map byteRow := List.take_of_length_le (by rw [List.length_map]; exact Nat.le_refl _)
          show [AO.row ((keptTo s i).length + 1) 5 1 (((keptTo s i).map byteRow).take (keptTo s i).length ++ [byteRow (byteAt s i)])] = [AO.row (keptTo s (i + 1)).length 5 1 ((keptTo s (i + 1)).map byteRow)]
          rw [e2, e1, hk1, List.map_append]; rfl
      · have hb : allowedB (byteAt s i) = false := hb
        rw [if_neg (by rw [hb]; decide), List.append_nil] at hk1
        refine vc_sound tabOk (by kernel_rfl) ?_
        refine And.intro rfl (And.intro ⟨by omega, by show (i : Int) + 1 ≤ _; omega⟩ ?_)
        refine ⟨⟨i + 1, hlt, hi6⟩, by show 60 - (i + 1) < 60 - i; omega, Sub.ofL _ _ (Nat.zero_le _) ⟨rfl, rfl, ?_, rfl, rfl, rfl, trivial⟩ ?_ rfl⟩
        · rw [hk1]; rfl
        · rw [hk1]; rfl
  refine vc_sound tabOk (by kernel_rfl) ?_
  refine And.intro rfl (And.intro rfl (And.intro rfl ?_))
  refine Exists.intro (keptTo s (stopAt s)) (And.intro ?_ ?_)
  · show (((keptTo s (stopAt s)).map byteRow).drop 0).take (keptTo s (stopAt s)).length = _
    rw [List.drop_zero, List.take_of_length_le (by rw [List.length_map]; exact Nat.le_refl _)]
  refine And.intro rfl (Exists.intro _ (Exists.intro _ (And.intro (Trim_impl (strOf (keptTo s (stopAt s))) (by rw [strOf_size]; omega)) (And.intro (AsLe.refl _) ?_))))
  exact And.intro (DLe.refl _) trivial

def orS (a b : Str) : Str := if a.toList == emp.toList then b else a
theorem orS_size (a b : Str) (h : b.size ≤ 60) (k : a.size ≤ 60) : (orS a b).size ≤ 60 := by unfold orS; split <;> assumption
theorem or56_impl (a b : Str) : Impl Try.prog 56 [.one (dstr a), .one (dstr b)] [.one (dstr (orS a b))] := by
  refine impl_vc tabOk Try.func56 rfl rfl (by exact Nat.le_of_ble_eq_true rfl) (vc_sound tabOk (by kernel_rfl) ?_)
  refine And.intro (fun h => ?_) (fun h => ?_)
  · have h : (a.toList == emp.toList) = false := not_true_eq h
    refine And.intro (DLe.of_eq ?_) trivial
    rw [orS, if_neg (by rw [h]; decide)]
  · have h : (a.toList == emp.toList) = true := not_false_eq h
    refine And.intro (DLe.of_eq ?_) trivial
    rw [orS, if_pos h]
end Go.Proofs.Nw.K
end
section
open Go Go.RowKit Go.Proofs
set_option linter.unusedVariables false
set_option linter.unusedSimpArgs false
namespace Go.Proofs.Nw.K

/-! ### newelref01.Name -/
def nameB (s : Str) : Bool := !(decide (s.size = 0)) && (letterB (byteAt s 0) && (List.range s.size).all fun j => withinB (byteAt s j))
theorem Name_impl (s : Str) (hs : s.size ≤ 4194304) : Impl Try.prog 58 [.one (dstr s)] [.one (dbool (nameB s))] := by
  have hd : nameB s = (!(decide (s.size = 0)) && (letterB (byteAt s 0) && (List.range s.size).all fun j => withinB (byteAt s j))) := rfl
  refine impl_vc tabOk Try.func58 rfl rfl (by exact Nat.le_of_ble_eq_true rfl) ?_
  refine WP_seq (vc_sound tabOk (by kernel_rfl) ?_)
  refine WP_seq (vc_sound tabOk (by kernel_rfl) ?_)
  refine And.intro rfl ?_
  cases hc : ((s.size : Int) == 0) with
  | true =>
    have h0 : s.size = 0 := by have := eq_of_beq hc; omega
    apply And.intro
    · exact ltb rfl
    refine And.intro (fun h => by cases h) (fun _ => ?_)
    apply And.intro
    · exact ltb rfl
    refine And.intro (fun h => by cases h) (fun _ => ?_)
    apply And.intro
    · exact ltb rfl
    refine And.intro (fun h => by cases h) (fun _ => ?_)
    apply And.intro
    · exact ltb rfl
    refine And.intro (fun h => by cases h) (fun _ => ?_)
    refine And.intro (fun _ => ?_) (fun h => by cases h)
    refine And.intro (fun _ => ?_) (fun h => by cases h)
    refine And.intro (DLe.of_eq ?_) trivial
    rw [hd, decide_eq_true h0]; rfl
  | false =>
    have h0 : ¬ s.size = 0 := fun e => by rw [e] at hc; cases hc
    apply And.intro
    · exact ltb rfl
    refine And.intro (fun _ => ?_) (fun h => absurd rfl h)
    apply And.intro
    · exact ltb rfl
    refine And.intro (fun _ => And.intro rfl (And.intro (Int.le_refl _) (And.intro (by show (0 : Int) < (s.size : Int); omega) ?_))) (fun h => absurd rfl h)
    apply And.intro
    · exact ltb rfl
    refine And.intro (fun _ => And.intro rfl (Exists.intro _ (Exists.intro _ (And.intro (letter_impl (byteAt s 0)) (And.intro (AsLe.refl _) ?_))))) (fun h => absurd rfl h)
    apply And.intro
    · exact ltb rfl
    refine And.intro (fun _ => ?_) (fun h => absurd rfl h)
    refine And.intro (fun h => by cases h) (fun _ => ?_)
    refine And.intro (fun hb => ?_) (fun hb => ?_)
    · have hb : letterB (byteAt s 0) = false := not_true_eq hb
      refine And.intro (DLe.of_eq ?_) trivial
      rw [hd, hb, decide_eq_false h0]; rfl
    have hb : letterB (byteAt s 0) = true := not_false_eq hb
    have hd2 : nameB s = (List.range s.size).all fun j => withinB (byteAt s j) := by rw [hd, hb, decide_eq_false h0]; rfl
    refine WP_seq (WP_seq (vc_sound tabOk (by kernel_rfl) ?_))
    refine WP_block (WP_loop (α := {i : Nat // i ≤ s.size ∧ ((List.range i).all fun j => withinB (byteAt s j)) = true}) (fun i => ofL [(0, .str s), (3, .int (i.1 : Int))]) (fun _ => []) (fun i => s.size - i.1) ⟨0, Nat.zero_le _, rfl⟩ ?_ ?_)
    · exact Sub.ofL _ _ (Nat.zero_le _) ⟨rfl, rfl, rfl, rfl, trivial⟩ rfl rfl
    rintro ⟨i, hi, hall⟩
    refine vc_sound tabOk (by kernel_rfl) ?_
    refine And.intro rfl (And.intro (fun h => ?_) (fun h => ?_))
    · have h : decide ((i : Int) < (s.size : Int)) = true := h
      have hlt : i < s.size := by have := of_decide_eq_true h; omega
      refine And.intro rfl (And.intro (Int.natCast_nonneg _) (And.intro (by show (i : Int) < (s.size : Int); omega) ?_))
      refine And.intro rfl (Exists.intro _ (Exists.intro _ (And.intro (within_impl (byteAt s i)) (And.intro (AsLe.refl _) ?_))))
      refine And.intro (fun hw => ?_) (fun hw => ?_)
      · have hw : withinB (byteAt s i) = false := not_true_eq hw
        refine And.intro (DLe.of_eq ?_) trivial
        rw [hd2]
        have : ((List.range s.size).all fun j => withinB (byteAt s j)) = false := by
          rw [List.all_eq_false]; exact ⟨i, List.mem_range.2 hlt, by rw [hw]; decide⟩
        rw [this]
      · have hw : withinB (byteAt s i) = true := not_false_eq hw
        refine And.intro rfl (And.intro ⟨by omega, by show (i : Int) + 1 ≤ _; omega⟩ ?_)
        refine ⟨⟨i + 1, hlt, by rw [List.range_succ, List.all_append, hall]; simp [hw]⟩, by show s.size - (i + 1) < s.size - i; omega, Sub.ofL _ _ (Nat.zero_le _) ⟨rfl, rfl, rfl, rfl, trivial⟩ rfl rfl⟩
    · have h : decide ((i : Int) < (s.size : Int)) = false := h
      obtain rfl : i = s.size := by have := of_decide_eq_false h; omega
      refine vc_sound tabOk (by kernel_rfl) ?_
      refine And.intro (DLe.of_eq ?_) trivial
      rw [hd2, hall]

/-! ### newelplay.Dep, deps -/
def sG : Str := ⟨#[103]⟩
def sA : Str := ⟨#[97]⟩
def sStar : Str := ⟨#[42]⟩
def sOne : Str := ⟨#[49]⟩
def plEx (e : Excluded) : Excluded := ⟨orS (valueOf e.group) sStar, orS (valueOf e.name) sStar⟩
def exTo (d : Dep) (i : Nat) : List Excluded := (d.excluded.take i).map plEx
def plDep (d : Dep) : Dep := ⟨orS (valueOf d.group) sG, orS (valueOf d.name) sA, valueOf d.version, valueOf d.type, valueOf d.classifier, valueOf d.scope, d.optional, exTo d 4⟩
theorem exTo_length (d : Dep) (i : Nat) : (exTo d i).length ≤ i := by simp [exTo]; omega
theorem plEx_wt (e : Excluded) : (plEx e).wt ≤ 123 := by
  have h1 := orS_size (valueOf e.group) sStar (by decide) (valueOf_size _)
  have h2 := orS_size (valueOf e.name) sStar (by decide) (valueOf_size _)
  unfold Excluded.wt plEx; simp only; omega
theorem plDep_wt (d : Dep) : (plDep d).wt ≤ 900 := by
  have h1 := orS_size (valueOf d.group) sG (by decide) (valueOf_size _)
  have h2 := orS_size (valueOf d.name) sA (by decide) (valueOf_size _)
  have h3 := valueOf_size d.version
  have h4 := valueOf_size d.type
  have h5 := valueOf_size d.classifier
  have h6 := valueOf_size d.scope
  have h7 : ∀ l : List Excluded, ((l.map plEx).map Excluded.wt).sum ≤ 123 * l.length := fun l => by
    induction l with
    | nil => simp
    | cons e r ih => have := plEx_wt e; simp only [List.map_cons, List.sum_cons, List.length_cons]; omega
  have h8 := h7 (d.excluded.take 4)
  have h9 : (d.excluded.take 4).length ≤ 4 := by rw [List.length_take]; omega
  unfold Dep.wt plDep exTo
  simp only
  omega

set_option maxHeartbeats 2000000 in
theorem plDep_impl (d : Dep) (hd : d.excluded.length ≤ 4194304) : Impl Try.prog 80 [.agg (encDep d)] [.agg (encDep (plDep d))] := by
  refine impl_vc tabOk Try.func80 rfl rfl (by exact Nat.le_of_ble_eq_true rfl) ?_
  refine WP_seq (vc_sound tabOk (by kernel_rfl) ?_)
  refine WP_sub (Sub.ofL [(1, .ptr 0 0), (2, .ptr 1 0)] [.box 35 ((encDep d).map AV.d), .box 35 [.d (dstr emp), .d (dstr emp), .d (dstr emp), .d (dstr emp), .d (dstr emp), .d (dstr emp), .d (dbool false), .nils]] (Nat.zero_le _) ⟨rfl, rfl, rfl, rfl, trivial⟩ rfl rfl) ?_
  refine WP_seq (vc_draw3 tabOk 24 (List.replicate 23 false ++ [true]) [[.box 35 ((encDep d).map AV.d), .box 35 [.d (dstr emp), .d (dstr emp), .d (dstr emp), .d (dstr emp), .d (dstr emp), .d (dstr emp), .d (dbool false), .nils], .box 35 [.d (dstr emp), .d (dstr emp), .d (dstr emp), .d (dstr emp), .d (dstr emp), .d (dstr emp), .d (dbool false), .nils]]] (by kernel_rfl) ?_)
  refine And.intro rfl (And.intro (And.intro (And.intro rfl rfl) (And.intro (And.intro rfl rfl) trivial)) ?_)
  refine And.intro rfl (And.intro (And.intro (And.intro rfl rfl) (And.intro (And.intro rfl rfl) trivial)) ?_)
  refine And.intro rfl (Exists.intro _ (Exists.intro _ (And.intro (value_impl d.group) (And.intro (AsLe.refl _) (And.intro rfl (And.intro (And.intro (And.intro rfl (Exists.intro _ (Exists.intro _ (And.intro (value_impl d.group) (And.intro (AsLe.refl _) (And.intro rfl rfl)))))) (And.intro (And.intro rfl (Exists.intro _ (Exists.intro _ (And.intro (value_impl d.group) (And.intro (AsLe.refl _) (And.intro rfl rfl)))))) trivial)) ?_))))))
  refine And.intro rfl (Exists.intro _ (Exists.intro _ (And.intro (or56_impl (valueOf d.group) sG) (And.intro (AsLe.refl _) (And.intro rfl (And.intro (And.intro (And.intro rfl (Exists.intro _ (Exists.intro _ (And.intro (or56_impl (valueOf d.group) sG) (And.intro (AsLe.refl _) (And.intro rfl rfl)))))) (And.intro (And.intro rfl (Exists.intro _ (Exists.intro _ (And.intro (or56_impl (valueOf d.group) sG) (And.intro (AsLe.refl _) (And.intro rfl rfl)))))) trivial)) ?_))))))
  refine And.intro rfl (And.intro (And.intro (And.intro rfl rfl) (And.intro (And.intro rfl rfl) trivial)) ?_)
  refine And.intro rfl (And.intro (And.intro (And.intro rfl rfl) (And.intro (And.intro rfl rfl) trivial)) ?_)
  refine And.intro rfl (Exists.intro _ (Exists.intro _ (And.intro (value_impl d.name) (And.intro (AsLe.refl _) (And.intro rfl (And.intro (And.intro (And.intro rfl (Exists.intro _ (Exists.intro _ (And.intro (value_impl d.name) (And.intro (AsLe.refl _) (And.intro rfl rfl)))))) (And.intro (And.intro rfl (Exists.intro _ (Exists.intro _ (And.intro (value_impl d.name) (And.intro (AsLe.refl _) (And.intro rfl rfl)))))) trivial)) ?_))))))
  refine And.intro rfl (Exists.intro _ (Exists.intro _ (And.intro (or56_impl (valueOf d.name) sA) (And.intro (AsLe.refl _) (And.intro rfl (And.intro (And.intro (And.intro rfl (Exists.intro _ (Exists.intro _ (And.intro (or56_impl (valueOf d.name) sA) (And.intro (AsLe.refl _) (And.intro rfl rfl)))))) (And.intro (And.intro rfl (Exists.intro _ (Exists.intro _ (And.intro (or56_impl (valueOf d.name) sA) (And.intro (AsLe.refl _) (And.intro rfl rfl)))))) trivial)) ?_))))))
  refine And.intro rfl (And.intro (And.intro (And.intro rfl rfl) (And.intro (And.intro rfl rfl) trivial)) ?_)
  refine And.intro rfl (And.intro (And.intro (And.intro rfl rfl) (And.intro (And.intro rfl rfl) trivial)) ?_)
  refine And.intro rfl (Exists.intro _ (Exists.intro _ (And.intro (value_impl d.version) (And.intro (AsLe.refl _) (And.intro rfl (And.intro (And.intro (And.intro rfl (Exists.intro _ (Exists.intro _ (And.intro (value_impl d.version) (And.intro (AsLe.refl _) (And.intro rfl rfl)))))) (And.intro (And.intro rfl (Exists.intro _ (Exists.intro _ (And.intro (value_impl d.version) (And.intro (AsLe.refl _) (And.intro rfl rfl)))))) trivial)) ?_))))))
  refine And.intro rfl (And.intro (And.intro (And.intro rfl rfl) (And.intro (And.intro rfl rfl) trivial)) ?_)
  refine And.intro rfl (And.intro (And.intro (And.intro rfl rfl) (And.intro (And.intro rfl rfl) trivial)) ?_)
  refine And.intro rfl (Exists.intro _ (Exists.intro _ (And.intro (value_impl d.type) (And.intro (AsLe.refl _) (And.intro rfl (And.intro (And.intro (And.intro rfl (Exists.intro _ (Exists.intro _ (And.intro (value_impl d.type) (And.intro (AsLe.refl _) (And.intro rfl rfl)))))) (And.intro (And.intro rfl (Exists.intro _ (Exists.intro _ (And.intro (value_impl d.type) (And.intro (AsLe.refl _) (And.intro rfl rfl)))))) trivial)) ?_))))))
  refine And.intro rfl (And.intro (And.intro (And.intro rfl rfl) (And.intro (And.intro rfl rfl) trivial)) ?_)
  refine And.intro rfl (And.intro (And.intro (And.intro rfl rfl) (And.intro (And.intro rfl rfl) trivial)) ?_)
  refine And.intro rfl (Exists.intro _ (Exists.intro _ (And.intro (value_impl d.classifier) (And.intro (AsLe.refl _) (And.intro rfl (And.intro (And.intro (And.intro rfl (Exists.intro _ (Exists.intro _ (And.intro (value_impl d.classifier) (And.intro (AsLe.refl _) (And.intro rfl rfl)))))) (And.intro (And.intro rfl (Exists.intro _ (Exists.intro _ (And.intro (value_impl d.classifier) (And.intro (AsLe.refl _) (And.intro rfl rfl)))))) trivial)) ?_))))))
  refine And.intro rfl (And.intro (And.intro (And.intro rfl rfl) (And.intro (And.intro rfl rfl) trivial)) ?_)
  refine And.intro rfl (And.intro (And.intro (And.intro rfl rfl) (And.intro (And.intro rfl rfl) trivial)) ?_)
  refine And.intro rfl (Exists.intro _ (Exists.intro _ (And.intro (value_impl d.scope) (And.intro (AsLe.refl _) (And.intro rfl (And.intro (And.intro (And.intro rfl (Exists.intro _ (Exists.intro _ (And.intro (value_impl d.scope) (And.intro (AsLe.refl _) (And.intro rfl rfl)))))) (And.intro (And.intro rfl (Exists.intro _ (Exists.intro _ (And.intro (value_impl d.scope) (And.intro (AsLe.refl _) (And.intro rfl rfl)))))) trivial)) ?_))))))
  refine And.intro rfl (And.intro (And.intro (And.intro rfl rfl) (And.intro (And.intro rfl rfl) trivial)) ?_)
  refine And.intro rfl (And.intro (And.intro (And.intro rfl rfl) (And.intro (And.intro rfl rfl) trivial)) ?_)
  refine And.intro rfl (And.intro (And.intro (And.intro rfl rfl) (And.intro (And.intro rfl rfl) trivial)) ?_)
  refine And.intro rfl ?_
  refine And.intro rfl (And.intro (Nat.le_of_ble_eq_true rfl) ?_)
  refine WP_seq_cut (α := {i : Nat // i ≤ 4 ∧ exTo d i = exTo d 4}) (fun _ => ofL [(2, .ptr 1 0), (3, .ptr 2 0)]) (fun i => [.box 35 ((encDep d).map AV.d), .box 35 [.d (dstr emp), .d (dstr emp), .d (dstr emp), .d (dstr emp), .d (dstr emp), .d (dstr emp), .d (dbool false), .nils], .box 35 [.d (dstr (orS (valueOf d.group) sG)), .d (dstr (orS (valueOf d.name) sA)), .d (dstr (valueOf d.version)), .d (dstr (valueOf d.type)), .d (dstr (valueOf d.classifier)), .d (dstr (valueOf d.scope)), .d (dbool d.optional), .h 3 i.1 0 (exTo d i.1).length], .row i.1 72 2 ((exTo d i.1).map encExcluded)]) (WP_seq (vc_sound tabOk (by kernel_rfl) ?_)) (fun i => ?_)
  · refine WP_block (WP_loop (α := {i : Nat // i ≤ d.excluded.length ∧ i ≤ 4}) (fun i => ofL [(1, .ptr 0 0), (2, .ptr 1 0), (3, .ptr 2 0), (4, .int (i.1 : Int))]) (fun i => [.box 35 ((encDep d).map AV.d), .box 35 [.d (dstr emp), .d (dstr emp), .d (dstr emp), .d (dstr emp), .d (dstr emp), .d (dstr emp), .d (dbool false), .nils], .box 35 [.d (dstr (orS (valueOf d.group) sG)), .d (dstr (orS (valueOf d.name) sA)), .d (dstr (valueOf d.version)), .d (dstr (valueOf d.type)), .d (dstr (valueOf d.classifier)), .d (dstr (valueOf d.scope)), .d (dbool d.optional), .h 3 i.1 0 (exTo d i.1).length], .row i.1 72 2 ((exTo d i.1).map encExcluded)]) (fun i => 4 - i.1) ⟨0, Nat.zero_le _, Nat.zero_le _⟩ ?_ ?_)
    · exact (Sub.nilsCell (s := 2) (i := 7) 72 2 rfl rfl).trans (Sub.ofL _ _ (Nat.zero_le _) ⟨rfl, rfl, rfl, rfl, rfl, rfl, rfl, rfl, trivial⟩ rfl rfl)
    rintro ⟨i, hi, hi4⟩
    refine WP_seq (vc_sound tabOk (by kernel_rfl) ?_)
    refine And.intro rfl ?_
    cases hc : decide ((i : Int) < (d.excluded.length : Int)) with
    | false =>
      have hil : i = d.excluded.length := by have := of_decide_eq_false hc; omega
      have hx : exTo d i = exTo d 4 := by unfold exTo; rw [List.take_of_length_le (show d.excluded.length ≤ i by omega), List.take_of_length_le (show d.excluded.length ≤ 4 by omega)]
      apply And.intro
      · exact ltb rfl
      refine And.intro (fun h => by cases h) (fun _ => ?_)
      apply And.intro
      · exact ltb rfl
      refine And.intro (fun h => by cases h) (fun _ => ?_)
      refine And.intro (fun h => by cases h) (fun _ => ?_)
      refine And.intro (fun h => by cases h) (fun _ => ?_)
      exact ⟨⟨i, hi4, hx⟩, Sub.ofL _ _ (Nat.zero_le _) ⟨rfl, rfl, rfl, rfl, trivial⟩ rfl rfl⟩
    | true =>
      have hlt : i < d.excluded.length := by have := of_decide_eq_true hc; omega
      apply And.intro
      · exact ltb rfl
      refine And.intro (fun _ => ?_) (fun h => absurd rfl h)
      apply And.intro
      · exact ltb rfl
      refine And.intro (fun _ => And.intro rfl ?_) (fun h => absurd rfl h)
      refine And.intro (fun _ => ?_) (fun h => by cases h)
      refine And.intro (fun h4 => ?_) (fun h4 => ?_)
      rotate_left
      · have h4 : decide ((i : Int) < 4) = false := h4
        obtain rfl : i = 4 := by have := of_decide_eq_false h4; omega
        exact ⟨⟨4, hi4, rfl⟩, Sub.ofL _ _ (Nat.zero_le _) ⟨rfl, rfl, rfl, rfl, trivial⟩ rfl rfl⟩
      have h4 : decide ((i : Int) < 4) = true := h4
      have hi3 : i < 4 := by have := of_decide_eq_true h4; omega
      have hlz : (i : Int) < (d.excluded.length : Int) := by omega
      have hg : d.excluded.getD ((i : Int)).toNat zExcluded = d.excluded[i] := by simp [List.getD, hlt]
      have hel := exTo_length d i
      have hx1 : exTo d (i + 1) = exTo d i ++ [plEx d.excluded[i]] := by unfold exTo; rw [List.take_succ_eq_append_getElem hlt, List.map_append]; rfl
      have e1 : (exTo d (i + 1)).length = (exTo d i).length + 1 := by rw [hx1]; simp
      refine WP_seq (WP_block (vc_draw2 tabOk 20 (by kernel_rfl) ?_))
      refine And.intro rfl (And.intro rfl (And.intro rfl (And.intro rfl (And.intro rfl ?_))))
      refine And.intro rfl (And.intro (Int.natCast_nonneg _) (And.intro hlz (And.intro rfl ?_)))
      refine And.intro rfl (And.intro rfl ?_)
      refine And.intro rfl (Exists.intro _ (Exists.intro _ (And.intro (value_impl (d.excluded.getD ((i : Int)).toNat zExcluded).group) (And.intro (AsLe.refl _) (And.intro rfl ?_)))))
      refine And.intro rfl (Exists.intro _ (Exists.intro _ (And.intro (or56_impl (valueOf (d.excluded.getD ((i : Int)).toNat zExcluded).group) sStar) (And.intro (AsLe.refl _) (And.intro rfl ?_)))))
      refine And.intro rfl (And.intro rfl (And.intro rfl ?_))
      refine And.intro rfl (And.intro (Int.natCast_nonneg _) (And.intro hlz (And.intro rfl ?_)))
      refine And.intro rfl (And.intro rfl ?_)
      refine And.intro rfl (Exists.intro _ (Exists.intro _ (And.intro (value_impl (d.excluded.getD ((i : Int)).toNat zExcluded).name) (And.intro (AsLe.refl _) (And.intro rfl ?_)))))
      refine And.intro rfl (Exists.intro _ (Exists.intro _ (And.intro (or56_impl (valueOf (d.excluded.getD ((i : Int)).toNat zExcluded).name) sStar) (And.intro (AsLe.refl _) (And.intro rfl ?_)))))
      refine And.intro rfl ?_
      refine And.intro rfl (And.intro (by decide) (And.intro (by decide) (And.intro rfl (Or.inl (And.intro rfl ?_)))))
      refine And.intro rfl (And.intro ⟨rfl, rfl, rfl, rfl⟩ (And.intro rfl (And.intro ?_ (And.intro ?_ ?_))))
      · show ((exTo d i).length + 1) * 32 ≤ _; omega
      · show (exTo d i).length + 1 ≤ _; simp only [maxLen]; omega
      refine Or.inl ?_
      refine And.intro ⟨_, _, _, rfl⟩ (And.intro (Nat.le_of_ble_eq_true rfl) ?_)
      refine vc_sound tabOk (by kernel_rfl) ?_
      refine And.intro rfl (And.intro ⟨by omega, by show (i : Int) + 1 ≤ _; omega⟩ ?_)
      refine ⟨⟨i + 1, hlt, hi3⟩, by show 4 - (i + 1) < 4 - i; omega, Sub.ofL _ _ (Nat.zero_le _) ⟨rfl, rfl, rfl, rfl, rfl, rfl, rfl, rfl, trivial⟩ ?_ rfl⟩
      have e2 : ((exTo d i).map encExcluded).take (exTo d i).length = (exTo d i).map encExcluded := List.take_of_length_le (by rw [List.length_map]; exact Nat.le_refl _)
      have e3 : plEx d.excluded[i] = plEx (d.excluded.getD ((i : Int)).toNat zExcluded) := by rw [hg]
      rw [e3] at hx1
      show ([.box 35 ((encDep d).map AV.d), .box 35 [.d (dstr emp), .d (dstr emp), .d (dstr emp), .d (dstr emp), .d (dstr emp), .d (dstr emp), .d (dbool false), .nils], .box 35 [.d (dstr (orS (valueOf d.group) sG)), .d (dstr (orS (valueOf d.name) sA)), .d (dstr (valueOf d.version)), .d (dstr (valueOf d.type)), .d (dstr (valueOf d.classifier)), .d (dstr (valueOf d.scope)), .d (dbool d.optional), .h 3 (i + 1) 0 ((exTo d i).length + 1)], .row (i + 1) 72 2 (((exTo d i).map encExcluded).take (exTo d i).length ++ [encExcluded (plEx (d.excluded.getD ((i : Int)).toNat zExcluded))])] : List AO) = [.box 35 ((encDep d).map AV.d), .box 35 [.d (dstr emp), .d (dstr emp), .d (dstr emp), .d (dstr emp), .d (dstr emp), .d (dstr emp), .d (dbool false), .nils], .box 35 [.d (dstr (orS (valueOf d.group) sG)), .d (dstr (orS (valueOf d.name) sA)), .d (dstr (valueOf d.version)), .d (dstr (valueOf d.type)), .d (dstr (valueOf d.classifier)), .d (dstr (valueOf d.scope)), .d (dbool d.optional), .h 3 (i + 1) 0 (exTo d (i + 1)).length], .row (i + 1) 72 2 ((exTo d (i + 1)).map encExcluded)]
      rw [e2, ← e1, hx1, List.map_append]; rfl
  obtain ⟨i, hi4, hx⟩ := i
  have hn : (exTo d i).length = ((exTo d i).map encExcluded).length := by rw [List.length_map]
  refine WP_sub ((Sub.shutCell (s := 2) (i := 7) (r := 3) (d := dExcludeds (exTo d i)) rfl rfl rfl hn (DLe.tl _ rfl)).trans (Sub.ofL [(2, .ptr 1 0), (3, .ptr 2 0)] [.box 35 ((encDep d).map AV.d), .box 35 [.d (dstr emp), .d (dstr emp), .d (dstr emp), .d (dstr emp), .d (dstr emp), .d (dstr emp), .d (dbool false), .nils], .box 35 ((encDep (⟨orS (valueOf d.group) sG, orS (valueOf d.name) sA, valueOf d.version, valueOf d.type, valueOf d.classifier, valueOf d.scope, d.optional, exTo d i⟩ : Dep)).map AV.d)] (Nat.zero_le _) ⟨rfl, rfl, rfl, rfl, trivial⟩ rfl rfl)) ?_
  have hpd : (⟨orS (valueOf d.group) sG, orS (valueOf d.name) sA, valueOf d.version, valueOf d.type, valueOf d.classifier, valueOf d.scope, d.optional, exTo d i⟩ : Dep) = plDep d := by unfold plDep; rw [hx]
  refine WP_seq (vc_sound tabOk (by kernel_rfl) ?_)
  refine And.intro rfl (And.intro rfl (And.intro (Nat.le_of_ble_eq_true rfl) ?_))
  refine WP_ret ?_
  refine And.intro rfl (And.intro (DLe.of_eq ?_) trivial)
  show DV.agg (encDep (⟨orS (valueOf d.group) sG, orS (valueOf d.name) sA, valueOf d.version, valueOf d.type, valueOf d.classifier, valueOf d.scope, d.optional, exTo d i⟩ : Dep)) = _
  rw [hpd]

def plDeps (l : List Dep) : List Dep := (l.take 6).map plDep
theorem plDeps_ok (l : List Dep) : (plDeps l).length ≤ 6 ∧ ∀ d ∈ plDeps l, d.wt ≤ 900 := by
  refine ⟨by simp [plDeps]; omega, fun d hd => ?_⟩
  obtain ⟨x, _, rfl⟩ := List.mem_map.1 hd
  exact plDep_wt x
theorem plDeps_impl (l : List Dep) (hw : ∀ d ∈ l, d.excluded.length ≤ 4194304) : Impl Try.prog 57 [.one (dDeps l), .one (dint 6)] [.one (dDeps (plDeps l))] := by
  refine impl_vc tabOk Try.func57 rfl rfl (by exact Nat.le_of_ble_eq_true rfl) ?_
  refine WP_seq (vc_sound tabOk (by kernel_rfl) ?_)
  refine WP_seq (vc_sound tabOk (by kernel_rfl) ?_)
  refine WP_seq_cut (α := {i : Nat // (l.take i) = l.take 6}) (fun i => ofL [(5, .h 0 i.1 0 ((l.take i.1).map plDep).length)]) (fun i => [.row i.1 35 8 (((l.take i.1).map plDep).map encDep)]) (WP_seq (vc_sound tabOk (by kernel_rfl) ?_)) (fun i => ?_)
  · refine WP_block (WP_loop (α := {i : Nat // i ≤ l.length ∧ i ≤ 6}) (fun i => ofL [(0, .d (dDeps l)), (1, .int 6), (5, .h 0 i.1 0 ((l.take i.1).map plDep).length), (6, .int (i.1 : Int))]) (fun i => [.row i.1 35 8 (((l.take i.1).map plDep).map encDep)]) (fun i => 6 - i.1) ⟨0, Nat.zero_le _, Nat.zero_le _⟩ ?_ ?_)
    · exact (Sub.nilsRow 5 35 8 rfl).trans (Sub.ofL _ _ (Nat.zero_le _) ⟨rfl, rfl, rfl, rfl, rfl, rfl, rfl, rfl, trivial⟩ rfl rfl)
    rintro ⟨i, hi, hi6⟩
    refine WP_seq (vc_sound tabOk (by kernel_rfl) ?_)
    refine And.intro rfl ?_
    cases hc : decide ((i : Int) < (l.length : Int)) with
    | false =>
      have hx : l.take i = l.take 6 := by
        have := of_decide_eq_false hc
        rw [List.take_of_length_le (show l.length ≤ i by omega), List.take_of_length_le (show l.length ≤ 6 by omega)]
      apply And.intro
      · exact ltb rfl
      refine And.intro (fun h => by cases h) (fun _ => ?_)
      apply And.intro
      · exact ltb rfl
      refine And.intro (fun h => by cases h) (fun _ => ?_)
      apply And.intro
      · exact ltb rfl
      refine And.intro (fun h => by cases h) (fun _ => ?_)
      refine And.intro (fun h => by cases h) (fun _ => ?_)
      refine And.intro (fun h => by cases h) (fun _ => ?_)
      exact ⟨⟨i, hx⟩, Sub.ofL _ _ (Nat.zero_le _) ⟨rfl, rfl, trivial⟩ rfl rfl⟩
    | true =>
      have hlt : i < l.length := by have := of_decide_eq_true hc; omega
      apply And.intro
      · exact ltb rfl
      refine And.intro (fun _ => ?_) (fun h => absurd rfl h)
      apply And.intro
      · exact ltb rfl
      refine And.intro (fun _ => ?_) (fun h => absurd rfl h)
      apply And.intro
      · exact ltb rfl
      refine And.intro (fun _ => And.intro rfl ?_) (fun h => absurd rfl h)
      refine And.intro (fun _ => ?_) (fun h => by cases h)
      refine And.intro (fun h6 => ?_) (fun h6 => ?_)
      rotate_left
      · have h6 : decide ((i : Int) < 6) = false := h6
        obtain rfl : i = 6 := by have := of_decide_eq_false h6; omega
        exact ⟨⟨6, rfl⟩, Sub.ofL _ _ (Nat.zero_le _) ⟨rfl, rfl, trivial⟩ rfl rfl⟩
      have h6 : decide ((i : Int) < 6) = true := h6
      have hi5 : i < 6 := by have := of_decide_eq_true h6; omega
      have hg : l.getD ((i : Int)).toNat zDep = l[i] := by simp [List.getD, hlt]
      have hil : ((l.take i).map plDep).length ≤ 6 := by simp; omega
      have hx1 : (l.take (i + 1)).map plDep = (l.take i).map plDep ++ [plDep l[i]] := by rw [List.take_succ_eq_append_getElem hlt, List.map_append]; rfl
      refine WP_seq (WP_block (vc_sound tabOk (by kernel_rfl) ?_))
      refine And.intro rfl (And.intro (Int.natCast_nonneg _) (And.intro (by show (i : Int) < (l.length : Int); omega) ?_))
      refine And.intro (Nat.le_of_ble_eq_true rfl) ?_
      refine And.intro rfl (Exists.intro _ (Exists.intro _ (And.intro (plDep_impl (l.getD ((i : Int)).toNat zDep) (by rw [hg]; exact hw _ (List.getElem_mem hlt))) (And.intro (AsLe.refl _) ?_))))
      refine And.intro rfl (And.intro (by decide) (And.intro (by decide) (And.intro rfl (Or.inl ?_))))
      refine And.intro rfl (And.intro ⟨rfl, rfl, rfl, rfl⟩ (And.intro rfl (And.intro ?_ (And.intro ?_ ?_))))
      · show (((l.take i).map plDep).length + 1) * 128 ≤ _; omega
      · show ((l.take i).map plDep).length + 1 ≤ _; simp only [maxLen]; omega
      refine vc_sound tabOk (by kernel_rfl) ?_
      refine And.intro rfl (And.intro ⟨by omega, by show (i : Int) + 1 ≤ _; omega⟩ ?_)
      have e2 : (((l.take i).map plDep).map encDep).take ((l.take i).map plDep).length = ((l.take i).map plDep).map encDep := List.take_of_length_le (by rw [List.length_map (f := encDep)]; exact Nat.le_refl _)
      refine ⟨⟨i + 1, hlt, hi5⟩, by show 6 - (i + 1) < 6 - i; omega, Sub.ofL _ _ (Nat.zero_le _) ⟨rfl, rfl, rfl, rfl, ?_, rfl, rfl, rfl, trivial⟩ ?_ rfl⟩
      · show AV.h 0 (i + 1) 0 (((l.take i).map plDep).length + 1) = AV.h 0 (i + 1) 0 ((l.take (i + 1)).map plDep).length
        rw [hx1, List.length_append]; rfl
      · show [AO.row (i + 1) 35 8 ((((l.take i).map plDep).map encDep).take ((l.take i).map plDep).length ++ [encDep (plDep (l.getD ((i : Int)).toNat zDep))])] = [AO.row (i + 1) 35 8 (((l.take (i + 1)).map plDep).map encDep)]
        rw [e2, hx1, hg, List.map_append]; rfl
  obtain ⟨i, hx⟩ := i
  refine vc_sound tabOk (by kernel_rfl) ?_
  refine And.intro ⟨rfl, rfl, ?_⟩ (And.intro (DLe.tl _ ?_) trivial)
  · show ((l.take i).map plDep).length = (((l.take i).map plDep).map encDep).length
    rw [List.length_map (f := encDep)]
  · show ((l.take i).map plDep).map encDep = (plDeps l).map encDep
    rw [hx]; rfl
end Go.Proofs.Nw.K
end
