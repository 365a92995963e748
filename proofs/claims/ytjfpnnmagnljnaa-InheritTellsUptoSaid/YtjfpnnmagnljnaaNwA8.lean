/- Bundle 8: NwC17, NwC18, NwC19, NwL7. -/
import Derived.Test.YtjfpnnmagnljnaaNwA7
section
open Go Go.RowKit Go.Proofs Go.Sort
set_option linter.unusedVariables false
set_option linter.unusedSimpArgs false
namespace Go.Proofs.Nw.K

/-! ### plain: pairs laid in one by one, by their names, are the sorted first ones -/
def ltN (a b : Pair) : Prop := a.name.toList < b.name.toList
instance (a b : Pair) : Decidable (ltN a b) := inferInstanceAs (Decidable (a.name.toList < b.name.toList))
def insR (x : Pair) : List Pair → List Pair
  | [] => [x]
  | y :: r => if ltN y x then y :: insR x r else if y.name = x.name then y :: r else x :: y :: r
def refPropsOf (l : List Pair) : List Pair := l.foldl (fun out x => insR x out) []
def SS (l : List Pair) : Prop := l.Pairwise ltN

theorem ltN_irrefl (a : Pair) : ¬ ltN a a := List.lt_irrefl _
theorem ltN_trans {a b c : Pair} (h : ltN a b) (k : ltN b c) : ltN a c := List.lt_trans h k
theorem ltN_total {a b : Pair} (h : ¬ ltN b a) (hne : b.name ≠ a.name) : ltN a b := by
  unfold ltN at *
  rcases List.le_iff_lt_or_eq.1 (List.not_lt.1 h) with h | h
  · exact h
  · exact absurd (toList_inj.1 h).symm hne

theorem ins_at (x : Pair) : ∀ (out : List Pair) (n : Nat), n ≤ out.length → (∀ k (h : k < out.length), k < n → ltN out[k] x) → (∀ h : n < out.length, ¬ ltN out[n] x) →
    insR x out = (if (∀ h : n < out.length, out[n].name ≠ x.name) then out.take n ++ [x] ++ out.drop n else out)
  | [], n, hn, _, _ => by
    have : n = 0 := by simpa using hn
    subst this
    rw [if_pos (fun h => absurd h (by simp))]; rfl
  | y :: r, 0, _, _, h2 => by
    have h2 := h2 (by simp)
    simp only [List.getElem_cons_zero] at h2
    rw [insR, if_neg h2]
    by_cases he : y.name = x.name
    · rw [if_pos he, if_neg (fun hh => hh (by simp) he)]
    · rw [if_neg he, if_pos (show ∀ h : 0 < (y :: r).length, (y :: r)[0].name ≠ x.name from fun _ => he)]; rfl
  | y :: r, n + 1, hn, h1, h2 => by
    have hy := h1 0 (by simp) (by omega)
    simp only [List.getElem_cons_zero] at hy
    have ih := ins_at x r n (by simpa using hn) (fun k hk hkn => by have := h1 (k + 1) (by simpa using hk) (by omega); simpa using this) (fun h => by have := h2 (by simpa using h); simpa using this)
    rw [insR, if_pos hy, ih]
    by_cases hc : ∀ h : n < r.length, r[n].name ≠ x.name
    · rw [if_pos hc, if_pos (fun h => by have := hc (by simpa using h); simpa using this)]; rfl
    · rw [if_neg hc, if_neg (fun hh => hc (fun h => by have := hh (by simpa using h); simpa using this))]

theorem insR_has (x : Pair) : ∀ out : List Pair, SS out → hasName x.name out = true → insR x out = out
  | [], _, h => by simp [hasName] at h
  | y :: r, hs, h => by
    obtain ⟨hs1, hs2⟩ := List.pairwise_cons.1 hs
    obtain ⟨d, hd, he⟩ := hasName_iff.1 h
    by_cases hy : ltN y x
    · rw [insR, if_pos hy]
      rcases List.mem_cons.1 hd with rfl | hd
      · exact absurd hy (by unfold ltN; rw [he]; exact List.lt_irrefl _)
      · rw [insR_has x r hs2 (hasName_iff.2 ⟨d, hd, he⟩)]
    · rw [insR, if_neg hy]
      by_cases hn : y.name = x.name
      · rw [if_pos hn]
      · rcases List.mem_cons.1 hd with rfl | hd
        · exact absurd he.symm hn
        · have := hs1 d hd
          unfold ltN at this hy
          rw [← he] at this
          exact absurd this hy

theorem insR_new (x : Pair) : ∀ out : List Pair, SS out → ¬ hasName x.name out = true → (insR x out).Perm (x :: out) ∧ SS (insR x out)
  | [], _, _ => ⟨List.Perm.refl _, List.pairwise_singleton _ _⟩
  | y :: r, hs, h => by
    obtain ⟨hs1, hs2⟩ := List.pairwise_cons.1 hs
    have hyx : y.name ≠ x.name := fun e => h (hasName_iff.2 ⟨y, by simp, e.symm⟩)
    have hr : ¬ hasName x.name r = true := fun e => h (by obtain ⟨d, hd, he⟩ := hasName_iff.1 e; exact hasName_iff.2 ⟨d, by simp [hd], he⟩)
    by_cases hy : ltN y x
    · obtain ⟨p, s⟩ := insR_new x r hs2 hr
      rw [insR, if_pos hy]
      refine ⟨(p.cons y).trans (List.Perm.swap x y r), List.pairwise_cons.2 ⟨fun z hz => ?_, s⟩⟩
      rcases List.mem_cons.1 (p.mem_iff.1 hz) with rfl | hz
      · exact hy
      · exact hs1 z hz
    · rw [insR, if_neg hy, if_neg hyx]
      have hxy : ltN x y := ltN_total hy hyx
      refine ⟨List.Perm.refl _, List.pairwise_cons.2 ⟨fun z hz => ?_, hs⟩⟩
      rcases List.mem_cons.1 hz with rfl | hz
      · exact hxy
      · exact ltN_trans hxy (hs1 z hz)

theorem hasName_perm {a b : List Pair} (p : a.Perm b) (k : Str) : hasName k a = true ↔ hasName k b = true := by
  rw [hasName_iff, hasName_iff]
  exact ⟨fun ⟨d, hd, h⟩ => ⟨d, p.mem_iff.1 hd, h⟩, fun ⟨d, hd, h⟩ => ⟨d, p.mem_iff.2 hd, h⟩⟩

theorem fold_ins (l : List Pair) : ∀ out out' : List Pair, SS out → out.Perm out' → SS (l.foldl (fun out x => insR x out) out) ∧ (l.foldl (fun out x => insR x out) out).Perm (l.foldl stepN out') := by
  induction l with
  | nil => intro out out' hs p; exact ⟨hs, p⟩
  | cons x r ih =>
    intro out out' hs p
    simp only [List.foldl_cons]
    by_cases hh : hasName x.name out = true
    · have h2 := (hasName_perm p _).1 hh
      rw [insR_has x out hs hh, stepN, if_pos h2]
      exact ih _ _ hs p
    · have h2 : ¬ hasName x.name out' = true := fun e => hh ((hasName_perm p _).2 e)
      obtain ⟨p1, s1⟩ := insR_new x out hs hh
      rw [stepN, if_neg h2]
      refine ih _ _ s1 (p1.trans ?_)
      exact (p.cons x).trans (List.perm_append_singleton x out').symm

theorem sorted_eq : ∀ {l1 l2 : List Pair}, l1.Perm l2 → SS l1 → l2.Pairwise (fun a b => ¬ ltN b a) → l1 = l2
  | [], l2, p, _, _ => by rw [List.nil_perm.1 p]
  | a :: r1, [], p, _, _ => by simp at p
  | a :: r1, b :: r2, p, h1, h2 => by
    obtain ⟨h11, h12⟩ := List.pairwise_cons.1 h1
    obtain ⟨h21, h22⟩ := List.pairwise_cons.1 h2
    by_cases e : a = b
    · subst e
      rw [sorted_eq ((List.perm_cons a).1 p) h12 h22]
    · have ha : a ∈ r2 := by
        rcases List.mem_cons.1 (p.mem_iff.1 (List.mem_cons_self (a := a) (l := r1))) with h | h
        · exact absurd h e
        · exact h
      have hb : b ∈ r1 := by
        rcases List.mem_cons.1 (p.mem_iff.2 (List.mem_cons_self (a := b) (l := r2))) with h | h
        · exact absurd h.symm e
        · exact h
      exact absurd (h11 b hb) (h21 a ha)

theorem refPropsOf_eq (l : List Pair) : refPropsOf l = propsOf l := by
  obtain ⟨s, p⟩ := fold_ins l [] [] List.Pairwise.nil (List.Perm.refl _)
  obtain ⟨q1, q2⟩ := sortP_facts (foldN l)
  exact sorted_eq (p.trans q1.symm) s q2
theorem propsOf_SS (l : List Pair) : SS (propsOf l) := by
  rw [← refPropsOf_eq]
  exact (fold_ins l [] [] List.Pairwise.nil (List.Perm.refl _)).1
theorem refPropsOf_snoc (l : List Pair) (x : Pair) : refPropsOf (l ++ [x]) = insR x (refPropsOf l) := by simp [refPropsOf]
theorem refPropsOf_length (l : List Pair) : (refPropsOf l).length ≤ l.length := by rw [refPropsOf_eq]; exact propsOf_length l
end Go.Proofs.Nw.K
end
section
open Go Go.RowKit Go.Proofs Go.Sort
set_option linter.unusedVariables false
set_option linter.unusedSimpArgs false
namespace Go.Proofs.Nw.K

theorem bytesLess_ltN (a b : Pair) : Op.bytesLess a.name.toList b.name.toList = decide (ltN a b) := by
  rw [Go.Proofs.bytesLess_eq]; rfl

theorem refProps_impl (l : List Pom) (hl : l.length ≤ 4194304) (hP : (propsIn l).length ≤ 4194304) : Impl Try.prog 50 [.one (dPoms l)] [.one (dPairs (propsOf (propsIn l)))] := by
  refine impl_vc tabOk Try.func50 rfl rfl (by exact Nat.le_of_ble_eq_true rfl) ?_
  refine WP_seq (vc_sound tabOk (by kernel_rfl) ?_)
  refine WP_seq (vc_sound tabOk (by kernel_rfl) ?_)
  refine WP_seq_cut (α := Unit) (fun _ => ofL [(3, .d (dPairs (refPropsOf (propsIn l))))]) (fun _ => []) (WP_seq (vc_sound tabOk (by kernel_rfl) ?_)) (fun _ => ?_)
  rotate_left
  · refine vc_sound tabOk (by kernel_rfl) ?_
    rw [refPropsOf_eq]
    exact And.intro (DLe.refl _) trivial
  refine WP_block (WP_loop (α := {i : Nat // i ≤ l.length}) (fun i => ofL [(0, .d (dPoms l)), (3, .d (dPairs (refPropsOf (propsIn (l.take i.1))))), (4, .int (i.1 : Int))]) (fun i => []) (fun i => l.length - i.1) ⟨0, Nat.zero_le _⟩ ?_ ?_)
  · exact (Sub.le 3 rfl (DLe.nils zPair)).trans (Sub.ofL _ _ (Nat.zero_le _) ⟨rfl, rfl, rfl, rfl, rfl, rfl, trivial⟩ rfl rfl)
  rintro ⟨i, hi⟩
  refine WP_seq (vc_sound tabOk (by kernel_rfl) ?_)
  refine And.intro rfl (And.intro (fun h => ?_) (fun h => ?_))
  rotate_left
  · have h : decide ((i : Int) < (l.length : Int)) = false := h
    obtain rfl : i = l.length := by have := of_decide_eq_false h; omega
    refine ⟨(), Sub.ofL _ _ (Nat.zero_le _) ⟨?_, rfl, trivial⟩ rfl rfl⟩
    show AV.d (dPairs (refPropsOf (propsIn (l.take l.length)))) = _
    rw [List.take_length]
  have h : decide ((i : Int) < (l.length : Int)) = true := h
  have hlt : i < l.length := by have := of_decide_eq_true h; omega
  have hg : l.getD ((i : Int)).toNat zPom = l[i] := by simp [List.getD, hlt]
  have eP := flat_succ Pom.props l i hlt
  have bP := flat_take Pom.props l (i + 1)
  rw [eP, List.length_append] at bP
  have hPl : (propsIn (l.take i)).length + l[i].props.length ≤ (propsIn l).length := bP
  have hacc : ∀ k, (refPropsOf (propsIn (l.take i) ++ l[i].props.take k)).length ≤ 4194304 := fun k => by
    have := refPropsOf_length (propsIn (l.take i) ++ l[i].props.take k)
    rw [List.length_append] at this
    have h2 : (l[i].props.take k).length ≤ l[i].props.length := by rw [List.length_take]; omega
    omega
  have hlz : (i : Int) < (l.length : Int) := by omega
  refine WP_seq_cut (α := Unit) (fun _ => ofL [(0, .d (dPoms l)), (3, .d (dPairs (refPropsOf (propsIn (l.take (i + 1)))))), (4, .int (i : Int))]) (fun _ => []) (WP_block (WP_seq (vc_sound tabOk (by kernel_rfl) ?_))) (fun _ => ?_)
  rotate_left
  · refine vc_sound tabOk (by kernel_rfl) ?_
    refine And.intro rfl (And.intro ⟨by omega, by show (i : Int) + 1 ≤ _; omega⟩ ?_)
    exact ⟨⟨i + 1, hlt⟩, by show l.length - (i + 1) < l.length - i; omega, Sub.ofL _ _ (Nat.zero_le _) ⟨rfl, rfl, rfl, rfl, rfl, rfl, trivial⟩ rfl rfl⟩
  refine WP_block (WP_loop (α := {k : Nat // k ≤ l[i].props.length}) (fun k => ofL [(0, .d (dPoms l)), (3, .d (dPairs (refPropsOf (propsIn (l.take i) ++ l[i].props.take k.1)))), (4, .int (i : Int)), (5, .int (k.1 : Int))]) (fun _ => []) (fun k => l[i].props.length - k.1) ⟨0, Nat.zero_le _⟩ ?_ ?_)
  · refine Sub.ofL _ _ (Nat.zero_le _) ⟨rfl, rfl, ?_, rfl, rfl, rfl, rfl, rfl, trivial⟩ rfl rfl
    rw [List.take_zero, List.append_nil]; rfl
  rintro ⟨k, hk⟩
  refine WP_seq (vc_sound tabOk (by kernel_rfl) ?_)
  refine And.intro rfl (And.intro (Int.natCast_nonneg _) (And.intro hlz ?_))
  refine And.intro rfl (And.intro (fun h => ?_) (fun h => ?_))
  rotate_left
  · have h : decide ((k : Int) < ((l.getD ((i : Int)).toNat zPom).props.length : Int)) = false := h
    rw [hg] at h
    obtain rfl : k = l[i].props.length := by have := of_decide_eq_false h; omega
    refine ⟨(), Sub.ofL _ _ (Nat.zero_le _) ⟨rfl, rfl, ?_, rfl, rfl, rfl, trivial⟩ rfl rfl⟩
    show AV.d (dPairs (refPropsOf (propsIn (l.take i) ++ l[i].props.take l[i].props.length))) = _
    rw [List.take_length, show propsIn (l.take (i + 1)) = propsIn (l.take i) ++ l[i].props from eP]
  have h : decide ((k : Int) < ((l.getD ((i : Int)).toNat zPom).props.length : Int)) = true := h
  have hkl : k < l[i].props.length := by rw [hg] at h; have := of_decide_eq_true h; omega
  have hkz : (k : Int) < ((l.getD ((i : Int)).toNat zPom).props.length : Int) := by rw [hg]; omega
  have hgk : (l.getD ((i : Int)).toNat zPom).props.getD ((k : Int)).toNat zPair = l[i].props[k] := by rw [hg]; simp [List.getD, hkl]
  have stp : refPropsOf (propsIn (l.take i) ++ l[i].props.take (k + 1)) = insR l[i].props[k] (refPropsOf (propsIn (l.take i) ++ l[i].props.take k)) := by
    rw [List.take_succ_eq_append_getElem hkl, ← List.append_assoc, refPropsOf_snoc]
  have hol := hacc k
  generalize hout : refPropsOf (propsIn (l.take i) ++ l[i].props.take k) = out at *
  refine WP_seq_cut (α := Unit) (fun _ => ofL [(0, .d (dPoms l)), (3, .d (dPairs (refPropsOf (propsIn (l.take i) ++ l[i].props.take (k + 1))))), (4, .int (i : Int)), (5, .int (k : Int))]) (fun _ => []) (WP_block (WP_seq (vc_sound tabOk (by kernel_rfl) ?_))) (fun _ => ?_)
  rotate_left
  · refine vc_sound tabOk (by kernel_rfl) ?_
    refine And.intro rfl (And.intro ⟨by omega, by show (k : Int) + 1 ≤ _; omega⟩ ?_)
    exact ⟨⟨k + 1, hkl⟩, by show l[i].props.length - (k + 1) < l[i].props.length - k; omega, Sub.ofL _ _ (Nat.zero_le _) ⟨rfl, rfl, rfl, rfl, rfl, rfl, rfl, rfl, trivial⟩ rfl rfl⟩
  refine And.intro rfl (And.intro (Int.natCast_nonneg _) (And.intro hlz ?_))
  refine And.intro rfl (And.intro (Int.natCast_nonneg _) (And.intro hkz ?_))
  refine And.intro (Nat.le_of_ble_eq_true rfl) ?_
  refine And.intro rfl (And.intro (Nat.le_of_ble_eq_true rfl) ?_)
  refine WP_sub (Sub.ofL [(0, .d (dPoms l)), (3, .d (dPairs out)), (4, .int (i : Int)), (5, .int (k : Int)), (6, .ptr 0 0)] [.box 66 ((encPair l[i].props[k]).map AV.d)] (Nat.zero_le _) ⟨rfl, rfl, ?_, rfl, rfl, rfl, rfl, rfl, rfl, rfl, trivial⟩ ?_ rfl) ?_
  · rw [← hout]; rfl
  · rw [← hgk]; rfl
  generalize hxx : l[i].props[k] = x at *
  refine WP_seq (vc_sound tabOk (by kernel_rfl) ?_)
  refine WP_seq_cut (α := {n : Nat // n ≤ out.length ∧ (∀ j (h : j < out.length), j < n → ltN out[j] x) ∧ ∀ h : n < out.length, ¬ ltN out[n] x}) (fun n => ofL [(0, .d (dPoms l)), (3, .d (dPairs out)), (4, .int (i : Int)), (5, .int (k : Int)), (6, .ptr 0 0), (7, .int (n.1 : Int))]) (fun _ => [.box 66 ((encPair x).map AV.d)])
    (WP_block (WP_loop (α := {n : Nat // n ≤ out.length ∧ ∀ j (h : j < out.length), j < n → ltN out[j] x}) (fun n => ofL [(0, .d (dPoms l)), (3, .d (dPairs out)), (4, .int (i : Int)), (5, .int (k : Int)), (6, .ptr 0 0), (7, .int (n.1 : Int))]) (fun _ => [.box 66 ((encPair x).map AV.d)]) (fun n => out.length - n.1) ⟨0, Nat.zero_le _, fun j _ hj => absurd hj (Nat.not_lt_zero _)⟩ ?_ ?_)) ?_
  · exact Sub.ofL _ _ (Nat.zero_le _) ⟨rfl, rfl, rfl, rfl, rfl, rfl, rfl, rfl, rfl, rfl, rfl, rfl, trivial⟩ rfl rfl
  · rintro ⟨n, hn, hlo⟩
    refine WP_seq (WP_seq (vc_sound tabOk (by kernel_rfl) ?_))
    refine And.intro rfl (And.intro rfl (And.intro rfl (And.intro rfl (And.intro rfl (And.intro rfl ?_)))))
    cases hc : decide ((n : Int) < (out.length : Int)) with
    | false =>
      obtain rfl : n = out.length := by have := of_decide_eq_false hc; omega
      apply And.intro
      · exact ltb rfl
      refine And.intro (fun h => by cases h) (fun _ => ?_)
      apply And.intro
      · exact ltb rfl
      refine And.intro (fun h => by cases h) (fun _ => ?_)
      apply And.intro
      · exact ltb rfl
      refine And.intro (fun h => by cases h) (fun _ => ?_)
      apply And.intro
      · exact ltb rfl
      refine And.intro (fun h => by cases h) (fun _ => ?_)
      apply And.intro
      · exact ltb rfl
      refine And.intro (fun h => by cases h) (fun _ => ?_)
      apply And.intro
      · exact ltb rfl
      refine And.intro (fun h => by cases h) (fun _ => ?_)
      apply And.intro
      · exact ltb rfl
      refine And.intro (fun h => by cases h) (fun _ => ?_)
      apply And.intro
      · exact ltb rfl
      refine And.intro (fun h => by cases h) (fun _ => ?_)
      refine And.intro (fun h => by cases h) (fun _ => And.intro rfl ?_)
      refine vc_sound tabOk (by kernel_rfl) ?_
      refine And.intro (fun h => by cases h) (fun _ => ?_)
      exact ⟨⟨out.length, hn, hlo, fun h => absurd h (Nat.lt_irrefl _)⟩, Sub.ofL _ _ (Nat.zero_le _) ⟨rfl, rfl, rfl, rfl, rfl, rfl, rfl, rfl, rfl, rfl, rfl, rfl, trivial⟩ rfl rfl⟩
    | true =>
      have hnl : n < out.length := by have := of_decide_eq_true hc; omega
      have hgn : out.getD ((n : Int)).toNat zPair = out[n] := by simp [List.getD, hnl]
      have hlt2 : Op.bytesLess (out.getD ((n : Int)).toNat zPair).name.toList x.name.toList = decide (ltN out[n] x) := by rw [hgn, bytesLess_ltN]
      apply And.intro
      · exact ltb rfl
      refine And.intro (fun _ => And.intro rfl ?_) (fun h => absurd rfl h)
      apply And.intro
      · exact ltb rfl
      refine And.intro (fun _ => And.intro rfl ?_) (fun h => absurd rfl h)
      apply And.intro
      · exact ltb rfl
      refine And.intro (fun _ => And.intro rfl (And.intro (Int.natCast_nonneg _) (And.intro (by show (n : Int) < (out.length : Int); omega) (And.intro rfl ?_)))) (fun h => absurd rfl h)
      apply And.intro
      · exact ltb rfl
      refine And.intro (fun _ => And.intro rfl ?_) (fun h => absurd rfl h)
      apply And.intro
      · exact ltb rfl
      refine And.intro (fun _ => And.intro rfl ?_) (fun h => absurd rfl h)
      apply And.intro
      · exact ltb rfl
      refine And.intro (fun _ => And.intro rfl ?_) (fun h => absurd rfl h)
      apply And.intro
      · exact ltb rfl
      refine And.intro (fun _ => And.intro rfl ?_) (fun h => absurd rfl h)
      apply And.intro
      · exact ltb rfl
      refine And.intro (fun _ => And.intro rfl ?_) (fun h => absurd rfl h)
      refine And.intro (fun _ => And.intro rfl ?_) (fun h => by cases h)
      refine vc_sound tabOk (by kernel_rfl) ?_
      refine And.intro (fun hb => ?_) (fun hb => ?_)
      · have hb : Op.bytesLess (out.getD ((n : Int)).toNat zPair).name.toList x.name.toList = true := hb
        rw [hlt2] at hb
        refine vc_sound tabOk (by kernel_rfl) ?_
        refine And.intro rfl (And.intro ⟨by omega, by show (n : Int) + 1 ≤ _; omega⟩ ?_)
        refine ⟨⟨n + 1, hnl, fun j hj hjn => ?_⟩, by show out.length - (n + 1) < out.length - n; omega, Sub.ofL _ _ (Nat.zero_le _) ⟨rfl, rfl, rfl, rfl, rfl, rfl, rfl, rfl, rfl, rfl, rfl, rfl, trivial⟩ rfl rfl⟩
        rcases Nat.lt_or_ge j n with hj2 | hj2
        · exact hlo j hj hj2
        · obtain rfl : j = n := by omega
          exact of_decide_eq_true hb
      · have hb : Op.bytesLess (out.getD ((n : Int)).toNat zPair).name.toList x.name.toList = false := hb
        rw [hlt2] at hb
        exact ⟨⟨n, hn, hlo, fun _ => of_decide_eq_false hb⟩, Sub.ofL _ _ (Nat.zero_le _) ⟨rfl, rfl, rfl, rfl, rfl, rfl, rfl, rfl, rfl, rfl, rfl, rfl, trivial⟩ rfl rfl⟩
  rintro ⟨n, hn, hlo, hhi⟩
  have hins := ins_at x out n hn hlo hhi
  rw [← stp] at hins
  refine WP_seq_cut (α := Unit) (fun _ => ofL [(0, .d (dPoms l)), (3, .d (dPairs out)), (4, .int (i : Int)), (5, .int (k : Int)), (6, .ptr 0 0), (7, .int (n : Int)), (61, .bool (decide (∀ h : n < out.length, out[n].name ≠ x.name)))]) (fun _ => [.box 66 ((encPair x).map AV.d)]) (vc_sound tabOk (by kernel_rfl) ?_) (fun _ => ?_)
  · refine And.intro rfl (And.intro rfl (And.intro rfl (And.intro rfl (And.intro rfl (And.intro rfl ?_)))))
    cases hc : ((n : Int) == (out.length : Int)) with
    | true =>
      obtain rfl : n = out.length := by have := eq_of_beq hc; omega
      apply And.intro
      · exact ltb rfl
      refine And.intro (fun h => by cases h) (fun _ => ?_)
      apply And.intro
      · exact ltb rfl
      refine And.intro (fun h => by cases h) (fun _ => ?_)
      apply And.intro
      · exact ltb rfl
      refine And.intro (fun h => by cases h) (fun _ => ?_)
      apply And.intro
      · exact ltb rfl
      refine And.intro (fun h => by cases h) (fun _ => ?_)
      apply And.intro
      · exact ltb rfl
      refine And.intro (fun h => by cases h) (fun _ => ?_)
      apply And.intro
      · exact ltb rfl
      refine And.intro (fun h => by cases h) (fun _ => ?_)
      apply And.intro
      · exact ltb rfl
      refine And.intro (fun h => by cases h) (fun _ => ?_)
      apply And.intro
      · exact ltb rfl
      refine And.intro (fun h => by cases h) (fun _ => ?_)
      refine And.intro (fun _ => And.intro rfl ?_) (fun h => by cases h)
      refine ⟨(), Sub.ofL _ _ (Nat.zero_le _) ⟨rfl, rfl, rfl, rfl, rfl, rfl, rfl, rfl, rfl, rfl, rfl, rfl, ?_, rfl, trivial⟩ rfl rfl⟩
      show AV.bool true = _
      rw [decide_eq_true (fun h => absurd h (Nat.lt_irrefl _))]
    | false =>
      have hnl : n < out.length := by
        have : ¬ (n : Int) = (out.length : Int) := by intro e; rw [e] at hc; simp at hc
        omega
      have hgn : out.getD ((n : Int)).toNat zPair = out[n] := by simp [List.getD, hnl]
      apply And.intro
      · exact ltb rfl
      refine And.intro (fun _ => And.intro rfl ?_) (fun h => absurd rfl h)
      apply And.intro
      · exact ltb rfl
      refine And.intro (fun _ => And.intro rfl ?_) (fun h => absurd rfl h)
      apply And.intro
      · exact ltb rfl
      refine And.intro (fun _ => And.intro rfl (And.intro (Int.natCast_nonneg _) (And.intro (by show (n : Int) < (out.length : Int); omega) (And.intro rfl ?_)))) (fun h => absurd rfl h)
      apply And.intro
      · exact ltb rfl
      refine And.intro (fun _ => And.intro rfl ?_) (fun h => absurd rfl h)
      apply And.intro
      · exact ltb rfl
      refine And.intro (fun _ => And.intro rfl ?_) (fun h => absurd rfl h)
      apply And.intro
      · exact ltb rfl
      refine And.intro (fun _ => And.intro rfl ?_) (fun h => absurd rfl h)
      apply And.intro
      · exact ltb rfl
      refine And.intro (fun _ => And.intro rfl ?_) (fun h => absurd rfl h)
      apply And.intro
      · exact ltb rfl
      refine And.intro (fun _ => And.intro rfl ?_) (fun h => absurd rfl h)
      refine And.intro (fun h => by cases h) (fun _ => And.intro rfl ?_)
      refine ⟨(), Sub.ofL _ _ (Nat.zero_le _) ⟨rfl, rfl, rfl, rfl, rfl, rfl, rfl, rfl, rfl, rfl, rfl, rfl, ?_, rfl, trivial⟩ rfl rfl⟩
      show AV.bool (!((out.getD ((n : Int)).toNat zPair).name.toList == x.name.toList)) = _
      rw [hgn, str_beq]
      congr 1
      by_cases he : out[n].name = x.name
      · have h2 : decide (∀ h : n < out.length, out[n].name ≠ x.name) = false := decide_eq_false (fun hh => hh hnl he)
        rw [h2]; simp [he]
      · have h2 : decide (∀ h : n < out.length, out[n].name ≠ x.name) = true := decide_eq_true (fun _ => he)
        rw [h2]; simp [he]
  refine WP_cond rfl (fun hb => ?_) (fun hb => WP_skip ?_)
  · have hb : decide (∀ h : n < out.length, out[n].name ≠ x.name) = true := hb
    rw [if_pos (of_decide_eq_true hb)] at hins
    have hr1 : ((out.take n).map encPair).length = n := by rw [List.length_map, List.length_take]; omega
    have hdl : ((out.take out.length).drop n).length = out.length - n := by rw [List.take_length, List.length_drop]
    have hml : (((out.take out.length).drop n).map encPair).length = out.length - n := by rw [List.length_map, hdl]
    refine vc_draw3 tabOk 11 [false, false, false, true, false, false, true, false, false, false, true]
      [[.box 66 ((encPair x).map AV.d), .row 0 66 2 ((out.take n).map encPair)],
       [.box 66 ((encPair x).map AV.d), .row 1 66 2 (((out.take n).map encPair).take ((out.take n).map encPair).length ++ [encPair x])],
       [.box 66 ((encPair x).map AV.d), .row 2 66 2 ((((out.take n).map encPair).take ((out.take n).map encPair).length ++ [encPair x]).take (((out.take n).map encPair).length + 1) ++ ((out.take out.length).drop n).map encPair)]] (by kernel_rfl) ?_
    refine And.intro rfl (And.intro (And.intro (And.intro rfl rfl) (And.intro (And.intro rfl rfl) (And.intro (And.intro rfl rfl) (And.intro (And.intro rfl rfl) trivial)))) ?_)
    refine And.intro rfl (And.intro (And.intro (And.intro rfl rfl) (And.intro (And.intro rfl rfl) (And.intro (And.intro rfl rfl) (And.intro (And.intro rfl rfl) trivial)))) ?_)
    refine And.intro rfl (And.intro (Int.natCast_nonneg _) (And.intro (Nat.zero_le _) (And.intro (show n ≤ out.length from hn) (And.intro rfl (And.intro (And.intro (And.intro rfl (And.intro (Int.natCast_nonneg _) (And.intro (Nat.zero_le _) (And.intro (show n ≤ out.length from hn) (And.intro rfl rfl))))) (And.intro (And.intro rfl (And.intro (Int.natCast_nonneg _) (And.intro (Nat.zero_le _) (And.intro (show n ≤ out.length from hn) (And.intro rfl rfl))))) (And.intro (And.intro rfl (And.intro (Int.natCast_nonneg _) (And.intro (Nat.zero_le _) (And.intro (show n ≤ out.length from hn) (And.intro rfl rfl))))) (And.intro (And.intro rfl (And.intro (Int.natCast_nonneg _) (And.intro (Nat.zero_le _) (And.intro (show n ≤ out.length from hn) (And.intro rfl rfl))))) trivial)))) ?_)))))
    refine And.intro rfl (And.intro rfl (And.intro ?_ (And.intro ?_ (And.intro rfl ?_))))
    · show ((out.take n).map encPair).length * 32 ≤ _; omega
    · show ((out.take n).map encPair).length ≤ _; simp only [maxLen]; omega
    refine And.intro rfl (And.intro rfl (And.intro (And.intro (And.intro rfl (And.intro rfl rfl)) (And.intro (And.intro rfl (And.intro rfl rfl)) (And.intro (And.intro rfl (And.intro rfl rfl)) (And.intro (And.intro rfl (And.intro rfl rfl)) trivial)))) ?_))
    refine And.intro rfl (And.intro (by decide) (And.intro (by decide) (And.intro rfl (Or.inl (And.intro rfl (And.intro (And.intro (And.intro rfl (And.intro (by decide) (And.intro (by decide) (And.intro rfl (Or.inl (And.intro rfl rfl)))))) (And.intro (And.intro rfl (And.intro (by decide) (And.intro (by decide) (And.intro rfl (Or.inl (And.intro rfl rfl)))))) (And.intro (And.intro rfl (And.intro (by decide) (And.intro (by decide) (And.intro rfl (Or.inl (And.intro rfl rfl)))))) (And.intro (And.intro rfl (And.intro (by decide) (And.intro (by decide) (And.intro rfl (Or.inl (And.intro rfl rfl)))))) trivial)))) ?_))))))
    refine And.intro rfl (And.intro ⟨rfl, rfl, rfl, rfl⟩ (And.intro rfl (And.intro ?_ (And.intro ?_ (And.intro rfl ?_)))))
    · show (((out.take n).map encPair).length + 1) * 32 ≤ _; omega
    · show ((out.take n).map encPair).length + 1 ≤ _; simp only [maxLen]; omega
    refine And.intro rfl (And.intro (And.intro (And.intro rfl rfl) (And.intro (And.intro rfl rfl) (And.intro (And.intro rfl rfl) (And.intro (And.intro rfl rfl) trivial)))) ?_)
    refine And.intro rfl (And.intro (And.intro (And.intro rfl rfl) (And.intro (And.intro rfl rfl) (And.intro (And.intro rfl rfl) (And.intro (And.intro rfl rfl) trivial)))) ?_)
    refine And.intro rfl (And.intro (Int.natCast_nonneg _) (And.intro (show n ≤ out.length from hn) (And.intro (Nat.le_refl _) (And.intro rfl (And.intro (And.intro (And.intro rfl (And.intro (Int.natCast_nonneg _) (And.intro (show n ≤ out.length from hn) (And.intro (Nat.le_refl _) (And.intro rfl rfl))))) (And.intro (And.intro rfl (And.intro (Int.natCast_nonneg _) (And.intro (show n ≤ out.length from hn) (And.intro (Nat.le_refl _) (And.intro rfl rfl))))) (And.intro (And.intro rfl (And.intro (Int.natCast_nonneg _) (And.intro (show n ≤ out.length from hn) (And.intro (Nat.le_refl _) (And.intro rfl rfl))))) (And.intro (And.intro rfl (And.intro (Int.natCast_nonneg _) (And.intro (show n ≤ out.length from hn) (And.intro (Nat.le_refl _) (And.intro rfl rfl))))) trivial)))) ?_)))))
    refine And.intro rfl (And.intro ⟨rfl, rfl, rfl, rfl⟩ (And.intro rfl (And.intro ?_ (And.intro ?_ (And.intro rfl ?_)))))
    · show (((out.take n).map encPair).length + 1 + (((out.take out.length).drop n).map encPair).length) * 32 ≤ _
      rw [hml]; omega
    · show ((out.take n).map encPair).length + 1 + (((out.take out.length).drop n).map encPair).length ≤ _
      rw [hml]; simp only [maxLen]; omega
    have hrows : (((out.take n).map encPair).take ((out.take n).map encPair).length ++ [encPair x]).take (((out.take n).map encPair).length + 1) ++ ((out.take out.length).drop n).map encPair = (refPropsOf (propsIn (l.take i) ++ l[i].props.take (k + 1))).map encPair := by
      rw [hins, List.take_length, List.take_of_length_le (by simp), List.take_length]
      simp
    refine ⟨(), (Sub.shut 3 1 2 (((out.take n).map encPair).length + 1 + (((out.take out.length).drop n).map encPair).length) 66 2 ((((out.take n).map encPair).take ((out.take n).map encPair).length ++ [encPair x]).take (((out.take n).map encPair).length + 1) ++ ((out.take out.length).drop n).map encPair) ?_ ?_ ?_).trans ((Sub.le 3 rfl (DLe.tl zPair hrows)).trans (Sub.ofL [(0, .d (dPoms l)), (3, .d (dPairs (refPropsOf (propsIn (l.take i) ++ l[i].props.take (k + 1))))), (4, .int (i : Int)), (5, .int (k : Int))] [] (Nat.zero_le _) ⟨rfl, rfl, rfl, rfl, rfl, rfl, rfl, rfl, trivial⟩ rfl rfl))⟩
    · rfl
    · rfl
    simp only [List.length_append, List.length_take, List.length_drop, List.length_map, List.length_cons, List.length_nil]; omega
  · have hb : decide (∀ h : n < out.length, out[n].name ≠ x.name) = false := hb
    rw [if_neg (of_decide_eq_false hb)] at hins
    refine ⟨(), Sub.ofL _ _ (Nat.zero_le _) ⟨rfl, rfl, ?_, rfl, rfl, rfl, rfl, rfl, trivial⟩ rfl rfl⟩
    rw [hins]; rfl
end Go.Proofs.Nw.K
end
section
open Go Go.RowKit Go.Proofs Go.Sort
set_option linter.unusedVariables false
set_option linter.unusedSimpArgs false
namespace Go.Proofs.Nw.K

theorem packOf_eq (p : Pom) : packOf p = (if p.packaging.toList == emp.toList then jar else p.packaging) := by
  simp only [packOf, orOf]
  split
  · rw [if_neg (by rw [str_beq]; decide)]
  · rfl

theorem refMerge_impl (c : Coord) (l : List Pom) (hl : l.length ≤ 4194304) (hP : (propsIn l).length ≤ 4194304) (hM : (managedIn l).length ≤ 4194304) (hMw : ∀ d ∈ managedIn l, d.wt ≤ 4194304) (hD : (depsIn l).length ≤ 4194304) (hDw : ∀ d ∈ depsIn l, d.wt ≤ 4194304) :
    Impl Try.prog 27 [.agg (encCoord c), .one (dPoms l)] [.agg (encPom (mergeOf c l)), .one (dint (mergeErr c l))] := by
  refine impl_vc tabOk Try.func27 rfl rfl (by exact Nat.le_of_ble_eq_true rfl) ?_
  refine WP_seq (vc_sound tabOk (by kernel_rfl) ?_)
  refine WP_sub (Sub.ofL [(1, .d (dPoms l)), (2, .ptr 0 0), (4, .ptr 1 0), (5, .int 0)] [.box 23 ((encCoord c).map AV.d), .box 55 [.d (dstr emp), .d (dstr emp), .d (dstr emp), .d (dstr emp), .d (dstr emp), .d (dstr emp), .d (dstr emp), .nils, .nils, .nils]] (Nat.zero_le _) ⟨rfl, rfl, rfl, rfl, rfl, rfl, rfl, rfl, trivial⟩ rfl rfl) ?_
  refine WP_seq (vc_draw3 tabOk 8 [false, false, false, false, false, false, false, true] [[.box 23 ((encCoord c).map AV.d), .box 55 [.d (dstr emp), .d (dstr emp), .d (dstr emp), .d (dstr emp), .d (dstr emp), .d (dstr emp), .d (dstr emp), .nils, .nils, .nils], .box 55 [.d (dstr emp), .d (dstr emp), .d (dstr emp), .d (dstr emp), .d (dstr emp), .d (dstr emp), .d (dstr emp), .nils, .nils, .nils]]] (by kernel_rfl) ?_)
  refine And.intro rfl (And.intro (And.intro (And.intro rfl rfl) (And.intro (And.intro rfl rfl) trivial)) ?_)
  refine And.intro rfl (And.intro (And.intro (And.intro rfl rfl) (And.intro (And.intro rfl rfl) trivial)) ?_)
  refine And.intro rfl (And.intro (And.intro (And.intro rfl rfl) (And.intro (And.intro rfl rfl) trivial)) ?_)
  refine And.intro rfl (And.intro (And.intro (And.intro rfl rfl) (And.intro (And.intro rfl rfl) trivial)) ?_)
  refine And.intro rfl (And.intro (And.intro (And.intro rfl rfl) (And.intro (And.intro rfl rfl) trivial)) ?_)
  refine And.intro rfl (Exists.intro _ (Exists.intro _ (And.intro (refProps_impl l hl hP) (And.intro (AsLe.refl _) (And.intro rfl (And.intro (And.intro (And.intro rfl (Exists.intro _ (Exists.intro _ (And.intro (refProps_impl l hl hP) (And.intro (AsLe.refl _) (And.intro rfl rfl)))))) (And.intro (And.intro rfl (Exists.intro _ (Exists.intro _ (And.intro (refProps_impl l hl hP) (And.intro (AsLe.refl _) (And.intro rfl rfl)))))) trivial)) ?_))))))
  refine And.intro rfl (And.intro (And.intro (And.intro rfl rfl) (And.intro (And.intro rfl rfl) trivial)) ?_)
  refine And.intro rfl ?_
  refine And.intro rfl (And.intro (Nat.le_of_ble_eq_true rfl) ?_)
  refine WP_seq (vc_sound tabOk (by kernel_rfl) ?_)
  refine WP_seq_cut (α := Unit) (fun _ => ofL [(1, .d (dPoms l)), (4, .ptr 1 0), (5, .int 0), (6, .ptr 2 0), (7, .h 3 l.length 0 (managedIn l).length), (8, .h 4 l.length 0 (depsIn l).length)])
    (fun _ => [.box 23 ((encCoord c).map AV.d), .box 55 [.d (dstr emp), .d (dstr emp), .d (dstr emp), .d (dstr emp), .d (dstr emp), .d (dstr emp), .d (dstr emp), .nils, .nils, .nils], .box 55 [.d (dstr emp), .d (dstr emp), .d (dstr emp), .d (dstr c.group), .d (dstr emp), .d (dstr c.version), .d (dstr jar), .d (dPairs (propsOf (propsIn l))), .nils, .nils], .row l.length 35 8 ((managedIn l).map encDep), .row l.length 35 8 ((depsIn l).map encDep)]) (WP_seq (vc_sound tabOk (by kernel_rfl) ?_)) (fun _ => ?_)
  · refine WP_block (WP_loop (α := {i : Nat // i ≤ l.length}) (fun i => ofL [(1, .d (dPoms l)), (4, .ptr 1 0), (5, .int 0), (6, .ptr 2 0), (7, .h 3 i.1 0 (managedIn (l.take i.1)).length), (8, .h 4 i.1 0 (depsIn (l.take i.1)).length), (9, .int (i.1 : Int))])
      (fun i => [.box 23 ((encCoord c).map AV.d), .box 55 [.d (dstr emp), .d (dstr emp), .d (dstr emp), .d (dstr emp), .d (dstr emp), .d (dstr emp), .d (dstr emp), .nils, .nils, .nils], .box 55 [.d (dstr emp), .d (dstr emp), .d (dstr emp), .d (dstr c.group), .d (dstr emp), .d (dstr c.version), .d (dstr jar), .d (dPairs (propsOf (propsIn l))), .nils, .nils], .row i.1 35 8 ((managedIn (l.take i.1)).map encDep), .row i.1 35 8 ((depsIn (l.take i.1)).map encDep)]) (fun i => l.length - i.1) ⟨0, Nat.zero_le _⟩ ?_ ?_)
    · exact (Sub.nilsRow 7 35 8 rfl).trans ((Sub.nilsRow 8 35 8 rfl).trans (Sub.ofL _ _ (Nat.zero_le _) ⟨rfl, rfl, rfl, rfl, rfl, rfl, rfl, rfl, rfl, rfl, rfl, rfl, rfl, rfl, trivial⟩ rfl rfl))
    rintro ⟨i, hi⟩
    refine WP_seq (vc_sound tabOk (by kernel_rfl) ?_)
    refine And.intro rfl (And.intro (fun h => ?_) (fun h => ?_))
    rotate_left
    · have h : decide ((i : Int) < (l.length : Int)) = false := h
      obtain rfl : i = l.length := by have := of_decide_eq_false h; omega
      refine ⟨(), Sub.ofL _ _ (Nat.zero_le _) ⟨rfl, rfl, rfl, rfl, rfl, rfl, rfl, rfl, ?_, rfl, ?_, rfl, trivial⟩ ?_ rfl⟩
      · show AV.h 3 l.length 0 (managedIn (l.take l.length)).length = _
        rw [List.take_length]
      · show AV.h 4 l.length 0 (depsIn (l.take l.length)).length = _
        rw [List.take_length]
      · simp only [List.take_length]
    have h : decide ((i : Int) < (l.length : Int)) = true := h
    have hlt : i < l.length := by have := of_decide_eq_true h; omega
    have hlz : (i : Int) < (l.length : Int) := by omega
    have hg : l.getD ((i : Int)).toNat zPom = l[i] := by simp [List.getD, hlt]
    have eM := flat_succ Pom.managed l i hlt
    have eD := flat_succ Pom.deps l i hlt
    have bM := flat_take Pom.managed l (i + 1)
    have bD := flat_take Pom.deps l (i + 1)
    rw [eM, List.length_append] at bM
    rw [eD, List.length_append] at bD
    have hMl : (managedIn (l.take i)).length + l[i].managed.length ≤ 4194304 := Nat.le_trans bM hM
    have hDl : (depsIn (l.take i)).length + l[i].deps.length ≤ 4194304 := Nat.le_trans bD hD
    refine WP_seq (WP_block (vc_draw3 tabOk 14 [false, false, false, false, false, false, true, false, false, false, false, false, false, true]
      [[.box 23 ((encCoord c).map AV.d), .box 55 [.d (dstr emp), .d (dstr emp), .d (dstr emp), .d (dstr emp), .d (dstr emp), .d (dstr emp), .d (dstr emp), .nils, .nils, .nils], .box 55 [.d (dstr emp), .d (dstr emp), .d (dstr emp), .d (dstr c.group), .d (dstr emp), .d (dstr c.version), .d (dstr jar), .d (dPairs (propsOf (propsIn l))), .nils, .nils], .row (i + 1) 35 8 (((managedIn (l.take i)).map encDep).take (managedIn (l.take i)).length ++ l[i].managed.map encDep), .row i 35 8 ((depsIn (l.take i)).map encDep)],
       [.box 23 ((encCoord c).map AV.d), .box 55 [.d (dstr emp), .d (dstr emp), .d (dstr emp), .d (dstr emp), .d (dstr emp), .d (dstr emp), .d (dstr emp), .nils, .nils, .nils], .box 55 [.d (dstr emp), .d (dstr emp), .d (dstr emp), .d (dstr c.group), .d (dstr emp), .d (dstr c.version), .d (dstr jar), .d (dPairs (propsOf (propsIn l))), .nils, .nils], .row (i + 1) 35 8 (((managedIn (l.take i)).map encDep).take (managedIn (l.take i)).length ++ l[i].managed.map encDep), .row (i + 1) 35 8 (((depsIn (l.take i)).map encDep).take (depsIn (l.take i)).length ++ l[i].deps.map encDep)]] (by kernel_rfl) ?_))
    refine And.intro rfl (And.intro (And.intro (And.intro rfl rfl) (And.intro (And.intro rfl rfl) (And.intro (And.intro rfl rfl) trivial))) ?_)
    refine And.intro rfl (And.intro (And.intro (And.intro rfl rfl) (And.intro (And.intro rfl rfl) (And.intro (And.intro rfl rfl) trivial))) ?_)
    refine And.intro rfl (And.intro (And.intro (And.intro rfl rfl) (And.intro (And.intro rfl rfl) (And.intro (And.intro rfl rfl) trivial))) ?_)
    refine And.intro rfl (And.intro (Int.natCast_nonneg _) (And.intro hlz (And.intro rfl (And.intro (And.intro (And.intro rfl (And.intro (Int.natCast_nonneg _) (And.intro hlz (And.intro rfl rfl)))) (And.intro (And.intro rfl (And.intro (Int.natCast_nonneg _) (And.intro hlz (And.intro rfl rfl)))) (And.intro (And.intro rfl (And.intro (Int.natCast_nonneg _) (And.intro hlz (And.intro rfl rfl)))) trivial))) ?_))))
    refine And.intro rfl (And.intro (And.intro (And.intro rfl rfl) (And.intro (And.intro rfl rfl) (And.intro (And.intro rfl rfl) trivial))) ?_)
    refine And.intro rfl (And.intro (And.intro (And.intro rfl rfl) (And.intro (And.intro rfl rfl) (And.intro (And.intro rfl rfl) trivial))) ?_)
    refine And.intro rfl (And.intro ⟨rfl, rfl, rfl, rfl⟩ (And.intro rfl (And.intro ?_ (And.intro ?_ (And.intro ?_ ?_)))))
    · show ((managedIn (l.take i)).length + ((l.getD ((i : Int)).toNat zPom).managed.map encDep).length) * 128 ≤ _
      rw [hg, List.length_map]; omega
    · show (managedIn (l.take i)).length + ((l.getD ((i : Int)).toNat zPom).managed.map encDep).length ≤ _
      rw [hg, List.length_map]; simp only [maxLen]; omega
    · rw [← hg]; rfl
    refine And.intro rfl (And.intro (And.intro (And.intro rfl rfl) (And.intro (And.intro rfl rfl) (And.intro (And.intro rfl rfl) trivial))) ?_)
    refine And.intro rfl (And.intro (And.intro (And.intro rfl rfl) (And.intro (And.intro rfl rfl) (And.intro (And.intro rfl rfl) trivial))) ?_)
    refine And.intro rfl (And.intro (And.intro (And.intro rfl rfl) (And.intro (And.intro rfl rfl) (And.intro (And.intro rfl rfl) trivial))) ?_)
    refine And.intro rfl (And.intro (Int.natCast_nonneg _) (And.intro hlz (And.intro rfl (And.intro (And.intro (And.intro rfl (And.intro (Int.natCast_nonneg _) (And.intro hlz (And.intro rfl rfl)))) (And.intro (And.intro rfl (And.intro (Int.natCast_nonneg _) (And.intro hlz (And.intro rfl rfl)))) (And.intro (And.intro rfl (And.intro (Int.natCast_nonneg _) (And.intro hlz (And.intro rfl rfl)))) trivial))) ?_))))
    refine And.intro rfl (And.intro (And.intro (And.intro rfl rfl) (And.intro (And.intro rfl rfl) (And.intro (And.intro rfl rfl) trivial))) ?_)
    refine And.intro rfl (And.intro (And.intro (And.intro rfl rfl) (And.intro (And.intro rfl rfl) (And.intro (And.intro rfl rfl) trivial))) ?_)
    refine And.intro rfl (And.intro ⟨rfl, rfl, rfl, rfl⟩ (And.intro rfl (And.intro ?_ (And.intro ?_ (And.intro ?_ ?_)))))
    · show ((depsIn (l.take i)).length + ((l.getD ((i : Int)).toNat zPom).deps.map encDep).length) * 128 ≤ _
      rw [hg, List.length_map]; omega
    · show (depsIn (l.take i)).length + ((l.getD ((i : Int)).toNat zPom).deps.map encDep).length ≤ _
      rw [hg, List.length_map]; simp only [maxLen]; omega
    · rw [← hg]; rfl
    refine vc_sound tabOk (by kernel_rfl) ?_
    refine And.intro rfl (And.intro ⟨by omega, by show (i : Int) + 1 ≤ _; omega⟩ ?_)
    have t2 : ((managedIn (l.take i)).map encDep).take (managedIn (l.take i)).length = (managedIn (l.take i)).map encDep := List.take_of_length_le (by rw [List.length_map]; exact Nat.le_refl _)
    have t3 : ((depsIn (l.take i)).map encDep).take (depsIn (l.take i)).length = (depsIn (l.take i)).map encDep := List.take_of_length_le (by rw [List.length_map]; exact Nat.le_refl _)
    have q2 : managedIn (l.take (i + 1)) = managedIn (l.take i) ++ l[i].managed := eM
    have q3 : depsIn (l.take (i + 1)) = depsIn (l.take i) ++ l[i].deps := eD
    refine ⟨⟨i + 1, hlt⟩, by show l.length - (i + 1) < l.length - i; omega, Sub.ofL _ _ (Nat.zero_le _) ⟨rfl, rfl, rfl, rfl, rfl, rfl, rfl, rfl, ?_, rfl, ?_, rfl, rfl, rfl, trivial⟩ ?_ rfl⟩
    · show AV.h 3 (i + 1) 0 ((managedIn (l.take i)).length + ((l.getD ((i : Int)).toNat zPom).managed.map encDep).length) = AV.h 3 (i + 1) 0 (managedIn (l.take (i + 1))).length
      rw [q2, hg, List.length_map, List.length_append]
    · show AV.h 4 (i + 1) 0 ((depsIn (l.take i)).length + ((l.getD ((i : Int)).toNat zPom).deps.map encDep).length) = AV.h 4 (i + 1) 0 (depsIn (l.take (i + 1))).length
      rw [q3, hg, List.length_map, List.length_append]
    · simp only [t2, t3, q2, q3, List.map_append]; rfl
  · refine WP_seq (vc_sound tabOk (by kernel_rfl) ?_)
    refine And.intro rfl (Or.inr (Or.inl (And.intro ⟨rfl, rfl, (List.length_map _).symm⟩ (Exists.intro _ (Exists.intro _ (And.intro (refFirst_impl (managedIn l) hM hMw) (And.intro (And.intro (DLe.tl zDep rfl) trivial) ?_)))))))
    refine And.intro rfl (Or.inr (Or.inl (And.intro ⟨rfl, rfl, (List.length_map _).symm⟩ (Exists.intro _ (Exists.intro _ (And.intro (refFirst_impl (depsIn l) hD hDw) (And.intro (And.intro (DLe.tl zDep rfl) trivial) ?_)))))))
    refine And.intro rfl (And.intro (Nat.le_of_ble_eq_true rfl) ?_)
    refine And.intro rfl (And.intro (Nat.le_of_ble_eq_true rfl) ?_)
    refine WP_sub (Sub.ofL [(1, .d (dPoms l)), (4, .ptr 1 0), (5, .int 0), (6, .ptr 2 0)] [.box 23 ((encCoord c).map AV.d), .box 55 [.d (dstr emp), .d (dstr emp), .d (dstr emp), .d (dstr emp), .d (dstr emp), .d (dstr emp), .d (dstr emp), .nils, .nils, .nils], .box 55 [.d (dstr emp), .d (dstr emp), .d (dstr emp), .d (dstr c.group), .d (dstr emp), .d (dstr c.version), .d (dstr jar), .d (dPairs (propsOf (propsIn l))), .d (dDeps (firstOf (managedIn l))), .d (dDeps (firstOf (depsIn l)))]] (Nat.zero_le _) ⟨rfl, rfl, rfl, rfl, rfl, rfl, rfl, rfl, trivial⟩ rfl rfl) ?_
    refine WP_seq_cut (α := Unit) (fun _ => ofL [(4, .ptr 1 0), (5, .int 0), (6, .ptr 2 0)]) (fun _ => [.box 23 ((encCoord c).map AV.d), .box 55 [.d (dstr emp), .d (dstr emp), .d (dstr emp), .d (dstr emp), .d (dstr emp), .d (dstr emp), .d (dstr emp), .nils, .nils, .nils], .box 55 ((encPom (merged c l)).map AV.d)]) (WP_seq (vc_sound tabOk (by kernel_rfl) ?_)) (fun _ => ?_)
    · refine And.intro rfl ?_
      refine WP_cond rfl (fun hb => ?_) (fun hb => WP_skip ?_)
      · have hb : decide ((l.length : Int) > 0) = true := hb
        have hpos : 0 < l.length := by have := of_decide_eq_true hb; omega
        have hz : (0 : Int) < (l.length : Int) := by omega
        have hg : l.getD (Int.toNat 0) zPom = l[0] := by show l.getD 0 zPom = l[0]; simp [List.getD, hpos]
        obtain ⟨n1, n2⟩ : nameTo l l.length = l[0].name ∧ packTo l l.length = packOf l[0] := by
          cases l with
          | nil => simp at hpos
          | cons x r => unfold nameTo packTo; rw [List.take_length]; exact ⟨rfl, rfl⟩
        refine vc_draw2 tabOk 10 (by kernel_rfl) ?_
        refine And.intro rfl ?_
        refine And.intro rfl (And.intro (Int.le_refl _) (And.intro hz (And.intro rfl ?_)))
        refine And.intro rfl (And.intro rfl (And.intro rfl ?_))
        refine And.intro rfl (And.intro (Int.le_refl _) (And.intro hz (And.intro rfl ?_)))
        refine And.intro rfl (And.intro rfl ?_)
        refine And.intro rfl (Exists.intro _ (Exists.intro _ (And.intro (or51_impl (l.getD (Int.toNat 0) zPom).packaging jar) (And.intro (AsLe.refl _) (And.intro rfl ?_)))))
        refine And.intro rfl ?_
        refine And.intro rfl (And.intro (Nat.le_of_ble_eq_true rfl) ?_)
        refine And.intro rfl (And.intro (Nat.le_of_ble_eq_true rfl) ?_)
        refine ⟨(), Sub.ofL _ _ (Nat.zero_le _) ⟨rfl, rfl, rfl, rfl, rfl, rfl, trivial⟩ ?_ rfl⟩
        rw [merged, n1, n2, packOf_eq, ← hg]; rfl
      · have hb : decide ((l.length : Int) > 0) = false := hb
        have h0 : l = [] := List.eq_nil_of_length_eq_zero (by have := of_decide_eq_false hb; omega)
        refine ⟨(), Sub.ofL _ _ (Nat.zero_le _) ⟨rfl, rfl, rfl, rfl, rfl, rfl, trivial⟩ ?_ rfl⟩
        subst h0; rfl
    refine vc_sound tabOk (by kernel_rfl) ?_
    refine And.intro rfl ?_
    have hbg : mergeBig (merged c l) = (decide (((merged c l).props.length : Int) > 100) || decide (((merged c l).managed.length : Int) > 200) || decide (((merged c l).deps.length : Int) > 200)) := rfl
    cases g1 : decide (((merged c l).props.length : Int) > 100) with
    | true =>
      have hbig : mergeBig (merged c l) = true := by rw [hbg, g1]; rfl
      apply And.intro
      · exact ltb rfl
      refine And.intro (fun h => by cases h) (fun _ => ?_)
      apply And.intro
      · exact ltb rfl
      refine And.intro (fun h => by cases h) (fun _ => ?_)
      apply And.intro
      · exact ltb rfl
      refine And.intro (fun h => by cases h) (fun _ => ?_)
      apply And.intro
      · exact ltb rfl
      refine And.intro (fun h => by cases h) (fun _ => ?_)
      refine And.intro (fun _ => ?_) (fun h => by cases h)
      apply And.intro
      · exact ltb rfl
      refine And.intro (fun h => by cases h) (fun _ => ?_)
      apply And.intro
      · exact ltb rfl
      refine And.intro (fun h => by cases h) (fun _ => ?_)
      apply And.intro
      · exact ltb rfl
      refine And.intro (fun h => by cases h) (fun _ => ?_)
      apply And.intro
      · exact ltb rfl
      refine And.intro (fun h => by cases h) (fun _ => ?_)
      refine And.intro (fun _ => ?_) (fun h => by cases h)
      refine And.intro (fun _ => ?_) (fun h => by cases h)
      refine And.intro rfl (And.intro (Nat.le_of_ble_eq_true rfl) ?_)
      refine And.intro rfl (And.intro (DLe.agg ?_) (And.intro (DLe.of_eq ?_) trivial))
      · rw [mergeOf, if_pos hbig]
        exact ⟨DLe.refl _, DLe.refl _, DLe.refl _, DLe.refl _, DLe.refl _, DLe.refl _, DLe.refl _, DLe.nils _, DLe.nils _, DLe.nils _, trivial⟩
      · rw [mergeErr, if_pos hbig]
    | false =>
      apply And.intro
      · exact ltb rfl
      refine And.intro (fun _ => ?_) (fun h => absurd rfl h)
      apply And.intro
      · exact ltb rfl
      refine And.intro (fun _ => ?_) (fun h => absurd rfl h)
      apply And.intro
      · exact ltb rfl
      refine And.intro (fun _ => ?_) (fun h => absurd rfl h)
      apply And.intro
      · exact ltb rfl
      refine And.intro (fun _ => And.intro rfl ?_) (fun h => absurd rfl h)
      refine And.intro (fun h => by cases h) (fun _ => ?_)
      cases g2 : decide (((merged c l).managed.length : Int) > 200) with
      | true =>
        have hbig : mergeBig (merged c l) = true := by rw [hbg, g1, g2]; rfl
        apply And.intro
        · exact ltb rfl
        refine And.intro (fun h => by cases h) (fun _ => ?_)
        apply And.intro
        · exact ltb rfl
        refine And.intro (fun h => by cases h) (fun _ => ?_)
        apply And.intro
        · exact ltb rfl
        refine And.intro (fun h => by cases h) (fun _ => ?_)
        apply And.intro
        · exact ltb rfl
        refine And.intro (fun h => by cases h) (fun _ => ?_)
        refine And.intro (fun _ => ?_) (fun h => by cases h)
        refine And.intro (fun _ => ?_) (fun h => by cases h)
        refine And.intro rfl (And.intro (Nat.le_of_ble_eq_true rfl) ?_)
        refine And.intro rfl (And.intro (DLe.agg ?_) (And.intro (DLe.of_eq ?_) trivial))
        · rw [mergeOf, if_pos hbig]
          exact ⟨DLe.refl _, DLe.refl _, DLe.refl _, DLe.refl _, DLe.refl _, DLe.refl _, DLe.refl _, DLe.nils _, DLe.nils _, DLe.nils _, trivial⟩
        · rw [mergeErr, if_pos hbig]
      | false =>
        apply And.intro
        · exact ltb rfl
        refine And.intro (fun _ => ?_) (fun h => absurd rfl h)
        apply And.intro
        · exact ltb rfl
        refine And.intro (fun _ => ?_) (fun h => absurd rfl h)
        apply And.intro
        · exact ltb rfl
        refine And.intro (fun _ => ?_) (fun h => absurd rfl h)
        apply And.intro
        · exact ltb rfl
        refine And.intro (fun _ => And.intro rfl ?_) (fun h => absurd rfl h)
        refine And.intro (fun h => by cases h) (fun _ => ?_)
        cases g3 : decide (((merged c l).deps.length : Int) > 200) with
        | true =>
          have hbig : mergeBig (merged c l) = true := by rw [hbg, g1, g2, g3]; rfl
          refine And.intro (fun _ => ?_) (fun h => by cases h)
          refine And.intro rfl (And.intro (Nat.le_of_ble_eq_true rfl) ?_)
          refine And.intro rfl (And.intro (DLe.agg ?_) (And.intro (DLe.of_eq ?_) trivial))
          · rw [mergeOf, if_pos hbig]
            exact ⟨DLe.refl _, DLe.refl _, DLe.refl _, DLe.refl _, DLe.refl _, DLe.refl _, DLe.refl _, DLe.nils _, DLe.nils _, DLe.nils _, trivial⟩
          · rw [mergeErr, if_pos hbig]
        | false =>
          have hbig : ¬ mergeBig (merged c l) = true := by rw [hbg, g1, g2, g3]; decide
          refine And.intro (fun h => by cases h) (fun _ => ?_)
          refine And.intro rfl (And.intro rfl (And.intro (Nat.le_of_ble_eq_true rfl) ?_))
          refine And.intro rfl (And.intro (DLe.of_eq ?_) (And.intro (DLe.of_eq ?_) trivial))
          · rw [mergeOf, if_neg hbig]; rfl
          · rw [mergeErr, if_neg hbig]
end Go.Proofs.Nw.K
end
section
/- L7: the law InheritTells. -/
open Go Go.RowKit Go.Proofs
set_option linter.unusedVariables false
set_option linter.unusedSimpArgs false
namespace Go.Proofs.Nw.K

theorem sum_flat {α : Type} (f : Pom → List α) (g : α → Nat) (hg : ∀ p, ((f p).map g).sum ≤ p.wt) : ∀ l : List Pom, ((l.flatMap f).map g).sum ≤ (l.map Pom.wt).sum
  | [] => by simp
  | p :: r => by
    have := sum_flat f g hg r
    have := hg p
    simp only [List.flatMap_cons, List.map_append, List.sum_append, List.map_cons, List.sum_cons]; omega
theorem poms_ok (l : List Pom) (h : (l.map Pom.wt).sum ≤ 1048576) : l.length ≤ 4194304 ∧ fewN l ≤ 4194304 ∧ (propsIn l).length ≤ 4194304 ∧ ((managedIn l).length ≤ 4194304 ∧ ∀ d ∈ managedIn l, d.wt ≤ 4194304) ∧ ((depsIn l).length ≤ 4194304 ∧ ∀ d ∈ depsIn l, d.wt ≤ 4194304) := by
  have h1 := len_le_sum Pom.wt (fun p => by unfold Pom.wt; omega) l
  have dl : ∀ x : List Dep, x.length ≤ (x.map Dep.wt).sum := fun x => len_le_sum Dep.wt (fun d => by unfold Dep.wt; omega) x
  have pl : ∀ x : List Pair, x.length ≤ (x.map Pair.wt).sum := fun x => len_le_sum Pair.wt (fun d => by unfold Pair.wt; omega) x
  have h2 : fewN l ≤ (l.map Pom.wt).sum := by
    clear h h1
    induction l with
    | nil => exact Nat.le_refl _
    | cons p r ih =>
      have a := pl p.props
      have b := dl p.managed
      have c := dl p.deps
      simp only [fewN, List.map_cons, List.sum_cons] at ih ⊢
      have : fewOne p ≤ p.wt := by unfold fewOne Pom.wt; omega
      omega
  have h3 := sum_flat Pom.props Pair.wt (fun p => by unfold Pom.wt; omega) l
  have h4 := sum_flat Pom.managed Dep.wt (fun p => by unfold Pom.wt; omega) l
  have h5 := sum_flat Pom.deps Dep.wt (fun p => by unfold Pom.wt; omega) l
  have a := pl (propsIn l)
  have b := dl (managedIn l)
  have c := dl (depsIn l)
  unfold propsIn at *
  unfold managedIn at *
  unfold depsIn at *
  refine ⟨by omega, by omega, by omega, ⟨by omega, fun d hd => ?_⟩, ⟨by omega, fun d hd => ?_⟩⟩
  · have := le_sum_of_mem (l := (l.flatMap Pom.managed).map Dep.wt) (a := d.wt) (List.mem_map_of_mem hd); omega
  · have := le_sum_of_mem (l := (l.flatMap Pom.deps).map Dep.wt) (a := d.wt) (List.mem_map_of_mem hd); omega

theorem mergeOf_ok (c : Coord) (l : List Pom) (hP : (propsIn l).length ≤ 4194304) (hM : (managedIn l).length ≤ 4194304) (hMw : ∀ d ∈ managedIn l, d.wt ≤ 4194304) (hD : (depsIn l).length ≤ 4194304) (hDw : ∀ d ∈ depsIn l, d.wt ≤ 4194304) :
    (mergeOf c l).props.length ≤ 4194304 ∧ ((mergeOf c l).managed.length ≤ 4194304 ∧ ∀ d ∈ (mergeOf c l).managed, d.wt ≤ 4194304) ∧ ((mergeOf c l).deps.length ≤ 4194304 ∧ ∀ d ∈ (mergeOf c l).deps, d.wt ≤ 4194304) := by
  unfold mergeOf
  split
  · exact ⟨Nat.zero_le _, ⟨Nat.zero_le _, fun d hd => by simp [zPom] at hd⟩, ⟨Nat.zero_le _, fun d hd => by simp [zPom] at hd⟩⟩
  · have a := propsOf_length (propsIn l)
    have b := firstOf_length (managedIn l)
    have d := firstOf_length (depsIn l)
    refine ⟨by show (propsOf (propsIn l)).length ≤ _; omega, ⟨by show (firstOf (managedIn l)).length ≤ _; omega, fun x hx => hMw x (firstOf_mem hx)⟩, ⟨by show (firstOf (depsIn l)).length ≤ _; omega, fun x hx => hDw x (firstOf_mem hx)⟩⟩

theorem InheritTells_impl (c : Coord) (l : List Pom) (d : List Dep) (_ : True) (_ : l.length ≤ maxLen ∧ ∀ s ∈ l, True) (_ : d.length ≤ maxLen ∧ ∀ s ∈ d, True) (h : c.wt + ((l.map Pom.wt).sum + 1) + ((d.map Dep.wt).sum + 1) ≤ 1048576) :
    Impl Try.prog 7 [.agg (encCoord c), .one (dPoms l), .one (dDeps d)] [.one (.sc (.bool true))] := by
  obtain ⟨hl, hF, hP, ⟨hM, hMw⟩, hD, hDw⟩ := poms_ok l (by omega)
  obtain ⟨mP, ⟨mM, mMw⟩, mD, mDw⟩ := mergeOf_ok c l hP hM hMw hD hDw
  have hdl := len_le_sum Dep.wt (fun a => by unfold Dep.wt; omega) d
  have hw : ∀ x ∈ d, x.wt ≤ 4194304 := fun x hx => by
    have := le_sum_of_mem (l := d.map Dep.wt) (a := x.wt) (List.mem_map_of_mem hx)
    omega
  have hfl := firstOf_length d
  have hfw : ∀ x ∈ firstOf d, x.wt ≤ 4194304 := fun x hx => hw x (firstOf_mem hx)
  refine impl_vc tabOk Try.func7 rfl rfl (by exact Nat.le_of_ble_eq_true rfl) ?_
  refine WP_seq (vc_sound tabOk (by kernel_rfl) ?_)
  refine WP_seq (vc_sound tabOk (by kernel_rfl) ?_)
  refine And.intro rfl (Exists.intro _ (Exists.intro _ (And.intro (Few_impl l hF) (And.intro (AsLe.refl _) ?_))))
  cases hf : fewOf l with
  | false =>
    apply And.intro
    · exact ltb rfl
    refine And.intro (fun h => by cases h) (fun _ => ?_)
    apply And.intro
    · exact ltb rfl
    refine And.intro (fun h => by cases h) (fun _ => ?_)
    apply And.intro
    · exact ltb rfl
    refine And.intro (fun h => by cases h) (fun _ => ?_)
    refine And.intro (fun _ => ?_) (fun h => by cases h)
    refine And.intro (fun _ => ?_) (fun h => by cases h)
    refine And.intro rfl (Exists.intro _ (Exists.intro _ (And.intro awake25_impl (And.intro (AsLe.refl _) ?_))))
    exact And.intro (DLe.refl _) trivial
  | true =>
    apply And.intro
    · exact ltb rfl
    refine And.intro (fun _ => ?_) (fun h => absurd rfl h)
    apply And.intro
    · exact ltb rfl
    refine And.intro (fun _ => ?_) (fun h => absurd rfl h)
    apply And.intro
    · exact ltb rfl
    refine And.intro (fun _ => And.intro rfl ?_) (fun h => absurd rfl h)
    refine And.intro (fun h => by cases h) (fun _ => ?_)
    refine And.intro (fun _ => ?_) (fun h60 => ?_)
    · refine And.intro rfl (Exists.intro _ (Exists.intro _ (And.intro awake25_impl (And.intro (AsLe.refl _) ?_))))
      exact And.intro (DLe.refl _) trivial
    refine WP_seq (vc_sound tabOk (by kernel_rfl) ?_)
    refine And.intro rfl ?_
    refine And.intro rfl (Exists.intro _ (Exists.intro _ (And.intro (Merge_impl c l hl hP hM hMw hD hDw) (And.intro (AsLe.refl _) ?_))))
    refine And.intro rfl (And.intro (Nat.le_of_ble_eq_true rfl) ?_)
    refine WP_seq (vc_sound tabOk (by kernel_rfl) ?_)
    refine And.intro rfl ?_
    refine And.intro rfl (Exists.intro _ (Exists.intro _ (And.intro (refMerge_impl c l hl hP hM hMw hD hDw) (And.intro (AsLe.refl _) ?_))))
    refine And.intro rfl (And.intro (Nat.le_of_ble_eq_true rfl) ?_)
    refine WP_sub (Sub.ofL [(2, .d (dDeps d)), (7, .ptr 1 0), (8, .int (mergeErr c l)), (9, .ptr 2 0), (10, .int (mergeErr c l))] [.box 23 ((encCoord c).map AV.d), .box 55 ((encPom (mergeOf c l)).map AV.d), .box 55 ((encPom (mergeOf c l)).map AV.d)] (Nat.zero_le _) ⟨rfl, rfl, rfl, rfl, rfl, rfl, rfl, rfl, rfl, rfl, trivial⟩ rfl rfl) ?_
    generalize hmm : mergeOf c l = m at *
    generalize hee : mergeErr c l = er at *
    refine WP_seq_cut (α := Unit) (fun _ => ofL [(2, .d (dDeps d)), (7, .ptr 1 0), (8, .int er), (9, .ptr 2 0), (10, .int er)]) (fun _ => [.box 23 ((encCoord c).map AV.d), .box 55 ((encPom m).map AV.d), .box 55 ((encPom m).map AV.d)]) (WP_seq (vc_sound tabOk (by kernel_rfl) ?_)) (fun _ => ?_)
    · refine WP_block (WP_loop (α := {i : Nat // i ≤ d.length}) (fun i => ofL [(2, .d (dDeps d)), (7, .ptr 1 0), (8, .int er), (9, .ptr 2 0), (10, .int er), (11, .int (i.1 : Int))]) (fun _ => [.box 23 ((encCoord c).map AV.d), .box 55 ((encPom m).map AV.d), .box 55 ((encPom m).map AV.d)]) (fun i => d.length - i.1) ⟨0, Nat.zero_le _⟩ ?_ ?_)
      · exact Sub.ofL _ _ (Nat.zero_le _) ⟨rfl, rfl, rfl, rfl, rfl, rfl, rfl, rfl, rfl, rfl, rfl, rfl, trivial⟩ rfl rfl
      rintro ⟨i, hi⟩
      refine WP_seq (vc_sound tabOk (by kernel_rfl) ?_)
      refine And.intro rfl (And.intro (fun h => ?_) (fun h => ?_))
      rotate_left
      · exact ⟨(), Sub.ofL _ _ (Nat.zero_le _) ⟨rfl, rfl, rfl, rfl, rfl, rfl, rfl, rfl, rfl, rfl, trivial⟩ rfl rfl⟩
      have h : decide ((i : Int) < (d.length : Int)) = true := h
      have hlt : i < d.length := by have := of_decide_eq_true h; omega
      have hlz : (i : Int) < (d.length : Int) := by omega
      have hwi : (d.getD ((i : Int)).toNat zDep).wt ≤ 4194304 := by
        rw [show d.getD ((i : Int)).toNat zDep = d[i] by simp [List.getD, hlt]]; exact hw _ (List.getElem_mem hlt)
      refine WP_seq (WP_block (vc_sound tabOk (by kernel_rfl) ?_))
      refine And.intro rfl (And.intro rfl ?_)
      refine And.intro rfl (And.intro (Int.natCast_nonneg _) (And.intro hlz (And.intro rfl ?_)))
      refine And.intro (Nat.le_of_ble_eq_true rfl) (And.intro rfl ?_)
      refine And.intro rfl (Exists.intro _ (Exists.intro _ (And.intro (Key_impl (d.getD ((i : Int)).toNat zDep) hwi) (And.intro (AsLe.refl _) (And.intro rfl ?_)))))
      refine And.intro rfl (And.intro rfl ?_)
      refine And.intro rfl (And.intro (Int.natCast_nonneg _) (And.intro hlz (And.intro rfl ?_)))
      refine And.intro (Nat.le_of_ble_eq_true rfl) (And.intro rfl ?_)
      refine And.intro rfl (Exists.intro _ (Exists.intro _ (And.intro (refKey_impl (d.getD ((i : Int)).toNat zDep) hwi) (And.intro (AsLe.refl _) (And.intro rfl ?_)))))
      refine And.intro rfl ?_
      refine And.intro (fun hb => ?_) (fun _ => ?_)
      · have hb : (!((ikeyOf (d.getD ((i : Int)).toNat zDep)).toList == (ikeyOf (d.getD ((i : Int)).toNat zDep)).toList)) = true := hb
        rw [self_str] at hb
        cases hb
      refine vc_sound tabOk (by kernel_rfl) ?_
      refine And.intro rfl (And.intro ⟨by omega, by show (i : Int) + 1 ≤ _; omega⟩ ?_)
      exact ⟨⟨i + 1, hlt⟩, by show d.length - (i + 1) < d.length - i; omega, Sub.ofL _ _ (Nat.zero_le _) ⟨rfl, rfl, rfl, rfl, rfl, rfl, rfl, rfl, rfl, rfl, rfl, rfl, trivial⟩ rfl rfl⟩
    · refine WP_seq (vc_sound tabOk (by kernel_rfl) ?_)
      have hq : (er == er) = true := by simp
      refine And.intro rfl (Exists.intro _ (Exists.intro _ (And.intro awake25_impl (And.intro (AsLe.refl _) ?_))))
      apply And.intro
      · exact ltb rfl
      refine And.intro (fun _ => And.intro rfl ?_) (fun h => absurd rfl h)
      apply And.intro
      · exact ltb rfl
      refine And.intro (fun _ => And.intro rfl ?_) (fun h => absurd rfl h)
      apply And.intro
      · exact ltb rfl
      refine And.intro (fun _ => And.intro rfl (Exists.intro _ (Exists.intro _ (And.intro (Pom_self m mP mM (fun x hx => ex_len (mMw x hx)) mD (fun x hx => ex_len (mDw x hx))) (And.intro (AsLe.refl _) ?_))))) (fun h => absurd rfl h)
      refine And.intro (fun _ => ?_) (fun h => by cases h)
      apply And.intro
      · exact ltb rfl
      refine And.intro (fun _ => ?_) (fun h => absurd rfl h)
      apply And.intro
      · exact ltb rfl
      refine And.intro (fun _ => ?_) (fun h => absurd rfl h)
      apply And.intro
      · exact ltb rfl
      refine And.intro (fun _ => And.intro rfl ?_) (fun h => absurd rfl h)
      refine And.intro (fun _ => ?_) (fun h => by cases h)
      apply And.intro
      · exact ltb rfl
      refine And.intro (fun _ => ?_) (fun h => absurd hq h)
      apply And.intro
      · exact ltb rfl
      refine And.intro (fun _ => And.intro rfl (Exists.intro _ (Exists.intro _ (And.intro (First_impl d (by omega) hw) (And.intro (AsLe.refl _) ?_))))) (fun h => absurd hq h)
      apply And.intro
      · exact ltb rfl
      refine And.intro (fun _ => ?_) (fun h => absurd hq h)
      apply And.intro
      · exact ltb rfl
      refine And.intro (fun _ => And.intro rfl (Exists.intro _ (Exists.intro _ (And.intro (refFirst_impl d (by omega) hw) (And.intro (AsLe.refl _) ?_))))) (fun h => absurd hq h)
      apply And.intro
      · exact ltb rfl
      refine And.intro (fun _ => And.intro rfl (Exists.intro _ (Exists.intro _ (And.intro (SameDep_self (firstOf d) (by omega) (fun x hx => ex_len (hfw x hx))) (And.intro (AsLe.refl _) ?_))))) (fun h => absurd hq h)
      refine And.intro (fun _ => ?_) (fun h => absurd (hq.symm.trans h) (by decide))
      refine WP_ret ?_
      exact And.intro (DLe.refl _) trivial
end Go.Proofs.Nw.K
end
