/- L8: the law InheritFirst. -/
import Derived.Test.YtjfpnnmagnljnaaNwC14
import Derived.Test.YtjfpnnmagnljnaaNwO1
open Go Go.RowKit Go.Proofs
set_option linter.unusedVariables false
set_option linter.unusedSimpArgs false
namespace Go.Proofs.Nw.K

theorem hasKey_app (k : Str) (a b : List Dep) : hasKey k (a ++ b) = (hasKey k a || hasKey k b) := by simp [hasKey]
theorem hasKey_first (k : Str) (l : List Dep) : ∀ out : List Dep, hasKey k (l.foldl stepF out) = (hasKey k out || hasKey k l) := by
  induction l with
  | nil => intro out; simp [hasKey]
  | cons d r ih =>
    intro out
    rw [List.foldl_cons, ih]
    have hd : hasKey k (d :: r) = (decide (k = ikeyOf d) || hasKey k r) := by simp [hasKey]
    rw [hd]
    unfold stepF
    by_cases hin : hasKey (ikeyOf d) out = true
    · rw [if_pos hin]
      by_cases hk : k = ikeyOf d
      · subst hk; simp [hin]
      · simp [hk]
    · rw [if_neg hin, hasKey_app]
      simp [hasKey, Bool.or_assoc]
theorem hasKey_firstOf (k : Str) (l : List Dep) : hasKey k (firstOf l) = hasKey k l := by
  unfold firstOf; rw [hasKey_first]; simp [hasKey]
theorem foldF_prefix (l : List Dep) : ∀ out : List Dep, out <+: l.foldl stepF out := by
  induction l with
  | nil => intro out; exact List.prefix_refl _
  | cons d r ih =>
    intro out
    refine List.IsPrefix.trans ?_ (ih _)
    unfold stepF
    split
    · exact List.prefix_refl _
    · exact List.prefix_append _ _
theorem firstOf_prefix (l : List Dep) (i : Nat) : firstOf (l.take i) <+: firstOf l := by
  have : firstOf l = (l.drop i).foldl stepF (firstOf (l.take i)) := by
    unfold firstOf
    rw [← List.foldl_append, List.take_append_drop]
  rw [this]; exact foldF_prefix _ _
theorem foldF_id (l : List Dep) : ∀ out : List Dep, (∀ d ∈ l, ¬ hasKey (ikeyOf d) out = true) → l.Pairwise (fun a b => ikeyOf b ≠ ikeyOf a) → l.foldl stepF out = out ++ l := by
  induction l with
  | nil => intro out _ _; simp
  | cons d r ih =>
    intro out h hp
    obtain ⟨hp1, hp2⟩ := List.pairwise_cons.1 hp
    rw [List.foldl_cons, stepF, if_neg (h d (by simp)), ih _ ?_ hp2]
    · simp
    · intro x hx
      rw [hasKey_app]
      have h1 := h x (by simp [hx])
      have h2 := hp1 x hx
      simp [hasKey, h2] at h1 ⊢
      exact h1
theorem foldF_pair (l : List Dep) : ∀ out : List Dep, out.Pairwise (fun a b => ikeyOf b ≠ ikeyOf a) → (l.foldl stepF out).Pairwise (fun a b => ikeyOf b ≠ ikeyOf a) := by
  induction l with
  | nil => intro out h; exact h
  | cons d r ih =>
    intro out h
    refine ih _ ?_
    unfold stepF
    split
    · exact h
    · rename_i hin
      refine List.pairwise_append.2 ⟨h, by simp, fun a ha b hb => ?_⟩
      have hb : b = d := by simpa using hb
      subst hb
      exact fun e => hin (hasKey_iff.2 ⟨a, ha, e⟩)
theorem firstOf_pair (l : List Dep) : (firstOf l).Pairwise (fun a b => ikeyOf b ≠ ikeyOf a) := foldF_pair l [] List.Pairwise.nil
theorem firstOf_idem (l : List Dep) : firstOf (firstOf l) = firstOf l := by
  have := foldF_id (firstOf l) [] (by intro d _; simp [hasKey]) (firstOf_pair l)
  simpa [firstOf] using this
theorem firstOf_mem {l : List Dep} {d : Dep} (h : d ∈ firstOf l) : d ∈ l := by
  have key : ∀ (l out : List Dep), d ∈ l.foldl stepF out → d ∈ out ∨ d ∈ l := by
    intro l
    induction l with
    | nil => intro out h; exact .inl h
    | cons x r ih =>
      intro out h
      rcases ih _ h with h | h
      · unfold stepF at h
        split at h
        · exact .inl h
        · rcases List.mem_append.1 h with h | h
          · exact .inl h
          · have : d = x := by simpa using h
            subst this; exact .inr (by simp)
      · exact .inr (by simp [h])
  rcases key l [] h with h | h
  · simp at h
  · exact h
theorem str_neq (a b : Str) : (!(a.toList == b.toList)) = !decide (a = b) := by rw [str_beq]

theorem InheritFirst_impl (l : List Dep) (_ : l.length ≤ maxLen ∧ ∀ s ∈ l, True) (h : (l.map Dep.wt).sum + 1 ≤ 1048576) :
    Impl Try.prog 8 [.one (dDeps l)] [.one (.sc (.bool true))] := by
  have hl := len_le_sum Dep.wt (fun a => by unfold Dep.wt; omega) l
  have hw : ∀ d ∈ l, d.wt ≤ 4194304 := fun d hd => by
    have := le_sum_of_mem (l := l.map Dep.wt) (a := d.wt) (List.mem_map_of_mem hd)
    omega
  have hfl := firstOf_length l
  have hfw : ∀ d ∈ firstOf l, d.wt ≤ 4194304 := fun d hd => hw d (firstOf_mem hd)
  refine impl_vc tabOk Try.func8 rfl rfl (by exact Nat.le_of_ble_eq_true rfl) ?_
  refine WP_seq (vc_sound tabOk (by kernel_rfl) ?_)
  refine WP_seq (vc_sound tabOk (by kernel_rfl) ?_)
  refine And.intro rfl ?_
  refine And.intro (fun h60 => ?_) (fun h60 => ?_)
  · refine And.intro rfl (Exists.intro _ (Exists.intro _ (And.intro awake25_impl (And.intro (AsLe.refl _) ?_))))
    exact And.intro (DLe.refl _) trivial
  have hl60 : l.length ≤ 60 := by
    have h60 : decide ((l.length : Int) > 60) = false := h60
    have := of_decide_eq_false h60; omega
  refine WP_seq (vc_sound tabOk (by kernel_rfl) ?_)
  refine And.intro rfl (Exists.intro _ (Exists.intro _ (And.intro (First_impl l (by omega) hw) (And.intro (AsLe.refl _) ?_))))
  refine WP_seq (vc_sound tabOk (by kernel_rfl) ?_)
  refine WP_seq_cut (α := Unit) (fun _ => ofL [(0, .d (dDeps l)), (3, .d (dDeps (firstOf l))), (4, .int ((firstOf l).length : Int))]) (fun _ => []) (WP_seq (vc_sound tabOk (by kernel_rfl) ?_)) (fun _ => ?_)
  · refine WP_block (WP_loop (α := {i : Nat // i ≤ l.length}) (fun i => ofL [(0, .d (dDeps l)), (3, .d (dDeps (firstOf l))), (4, .int ((firstOf (l.take i.1)).length : Int)), (5, .int (i.1 : Int))]) (fun i => []) (fun i => l.length - i.1) ⟨0, Nat.zero_le _⟩ ?_ ?_)
    · exact Sub.ofL _ _ (Nat.zero_le _) ⟨rfl, rfl, rfl, rfl, rfl, rfl, rfl, rfl, trivial⟩ rfl rfl
    rintro ⟨i, hi⟩
    refine WP_seq (vc_sound tabOk (by kernel_rfl) ?_)
    refine And.intro rfl (And.intro (fun h => ?_) (fun h => ?_))
    rotate_left
    · have h : decide ((i : Int) < (l.length : Int)) = false := h
      obtain rfl : i = l.length := by have := of_decide_eq_false h; omega
      refine ⟨(), Sub.ofL _ _ (Nat.zero_le _) ⟨rfl, rfl, rfl, rfl, ?_, rfl, trivial⟩ rfl rfl⟩
      show AV.int ((firstOf (l.take l.length)).length : Int) = _
      rw [List.take_length]
    have h : decide ((i : Int) < (l.length : Int)) = true := h
    have hlt : i < l.length := by have := of_decide_eq_true h; omega
    have hgi : l.getD ((i : Int)).toNat zDep = l[i] := by simp [List.getD, hlt]
    have hwi : (l.getD ((i : Int)).toNat zDep).wt ≤ 4194304 := by rw [hgi]; exact hw _ (List.getElem_mem hlt)
    have htk : l.take (i + 1) = l.take i ++ [l[i]] := List.take_succ_eq_append_getElem hlt
    have hpl := firstOf_length (l.take i)
    have hpt : (l.take i).length ≤ l.length := by rw [List.length_take]; omega
    refine WP_seq_cut (α := Unit) (fun _ => ofL [(0, .d (dDeps l)), (3, .d (dDeps (firstOf l))), (4, .int ((firstOf (l.take (i + 1))).length : Int)), (5, .int (i : Int))]) (fun _ => []) (WP_block (WP_seq (vc_sound tabOk (by kernel_rfl) ?_))) (fun _ => ?_)
    rotate_left
    · refine vc_sound tabOk (by kernel_rfl) ?_
      refine And.intro rfl (And.intro ⟨by omega, by show (i : Int) + 1 ≤ _; omega⟩ ?_)
      exact ⟨⟨i + 1, hlt⟩, by show l.length - (i + 1) < l.length - i; omega, Sub.ofL _ _ (Nat.zero_le _) ⟨rfl, rfl, rfl, rfl, rfl, rfl, rfl, rfl, trivial⟩ rfl rfl⟩
    have hcut : True := trivial
    refine WP_seq_cut (α := Unit) (fun _ => ofL [(0, .d (dDeps l)), (3, .d (dDeps (firstOf l))), (4, .int ((firstOf (l.take i)).length : Int)), (5, .int (i : Int)), (6, .bool (!hasKey (ikeyOf l[i]) (l.take i)))]) (fun _ => []) (WP_seq (vc_sound tabOk (by kernel_rfl) ?_)) (fun _ => ?_)
    · refine WP_block (WP_loop (α := {k : Nat // k ≤ i}) (fun k => ofL [(0, .d (dDeps l)), (3, .d (dDeps (firstOf l))), (4, .int ((firstOf (l.take i)).length : Int)), (5, .int (i : Int)), (6, .bool (!hasKey (ikeyOf l[i]) (l.take k.1))), (7, .int (k.1 : Int))]) (fun k => []) (fun k => i - k.1) ⟨0, Nat.zero_le _⟩ ?_ ?_)
      · exact Sub.ofL _ _ (Nat.zero_le _) ⟨rfl, rfl, rfl, rfl, rfl, rfl, rfl, rfl, rfl, rfl, rfl, rfl, trivial⟩ rfl rfl
      rintro ⟨k, hk⟩
      refine WP_seq (vc_sound tabOk (by kernel_rfl) ?_)
      refine And.intro rfl (And.intro (fun h => ?_) (fun h => ?_))
      rotate_left
      · have h : decide ((k : Int) < (i : Int)) = false := h
        obtain rfl : k = i := by have := of_decide_eq_false h; omega
        exact ⟨(), Sub.ofL _ _ (Nat.zero_le _) ⟨rfl, rfl, rfl, rfl, rfl, rfl, rfl, rfl, rfl, rfl, trivial⟩ rfl rfl⟩
      have h : decide ((k : Int) < (i : Int)) = true := h
      have hki : k < i := by have := of_decide_eq_true h; omega
      have hkl : k < l.length := by omega
      have hgk : l.getD ((k : Int)).toNat zDep = l[k] := by simp [List.getD, hkl]
      have hwk : (l.getD ((k : Int)).toNat zDep).wt ≤ 4194304 := by rw [hgk]; exact hw _ (List.getElem_mem hkl)
      have stp : hasKey (ikeyOf l[i]) (l.take (k + 1)) = (hasKey (ikeyOf l[i]) (l.take k) || decide (ikeyOf l[i] = ikeyOf l[k])) := by
        rw [List.take_succ_eq_append_getElem hkl, hasKey_app]; simp [hasKey]
      refine WP_seq (WP_block (vc_sound tabOk (by kernel_rfl) ?_))
      refine And.intro rfl (And.intro rfl ?_)
      cases hb : (!hasKey (ikeyOf l[i]) (l.take k)) with
      | false =>
        apply And.intro
        · exact ltb rfl
        refine And.intro (fun h => by cases h) (fun _ => ?_)
        apply And.intro
        · exact ltb rfl
        refine And.intro (fun h => by cases h) (fun _ => ?_)
        apply And.intro
        · exact ltb rfl
        refine And.intro (fun h => by cases h) (fun _ => ?_)
        apply And.intro
        · exact ltb rfl
        refine And.intro (fun h => by cases h) (fun _ => ?_)
        apply And.intro
        · exact ltb rfl
        refine And.intro (fun h => by cases h) (fun _ => ?_)
        apply And.intro
        · exact ltb rfl
        refine And.intro (fun h => by cases h) (fun _ => ?_)
        apply And.intro
        · exact ltb rfl
        refine And.intro (fun h => by cases h) (fun _ => ?_)
        apply And.intro
        · exact ltb rfl
        refine And.intro (fun h => by cases h) (fun _ => ?_)
        apply And.intro
        · exact ltb rfl
        refine And.intro (fun h => by cases h) (fun _ => ?_)
        apply And.intro
        · exact ltb rfl
        refine And.intro (fun h => by cases h) (fun _ => ?_)
        apply And.intro
        · exact ltb rfl
        refine And.intro (fun h => by cases h) (fun _ => ?_)
        refine And.intro (fun h => by cases h) (fun _ => And.intro rfl ?_)
        refine And.intro rfl ?_
        refine vc_sound tabOk (by kernel_rfl) ?_
        refine And.intro rfl (And.intro ⟨by omega, by show (k : Int) + 1 ≤ _; omega⟩ ?_)
        refine ⟨⟨k + 1, hki⟩, by show i - (k + 1) < i - k; omega, Sub.ofL _ _ (Nat.zero_le _) ⟨rfl, rfl, rfl, rfl, rfl, rfl, rfl, rfl, ?_, rfl, rfl, rfl, trivial⟩ rfl rfl⟩
        show AV.bool false = AV.bool (!hasKey (ikeyOf l[i]) (l.take (k + 1)))
        rw [stp, show hasKey (ikeyOf l[i]) (l.take k) = true by simpa using hb]; rfl
      | true =>
        apply And.intro
        · exact ltb rfl
        refine And.intro (fun _ => And.intro rfl ?_) (fun h => absurd rfl h)
        apply And.intro
        · exact ltb rfl
        refine And.intro (fun _ => And.intro rfl ?_) (fun h => absurd rfl h)
        apply And.intro
        · exact ltb rfl
        refine And.intro (fun _ => And.intro rfl (And.intro (Int.natCast_nonneg _) (And.intro (by show (k : Int) < (l.length : Int); omega) (And.intro rfl ?_)))) (fun h => absurd rfl h)
        apply And.intro
        · exact ltb rfl
        refine And.intro (fun _ => And.intro (Nat.le_of_ble_eq_true rfl) (And.intro rfl ?_)) (fun h => absurd rfl h)
        apply And.intro
        · exact ltb rfl
        refine And.intro (fun _ => And.intro rfl (Exists.intro _ (Exists.intro _ (And.intro (refKey_impl (l.getD ((k : Int)).toNat zDep) hwk) (And.intro (AsLe.refl _) (And.intro rfl ?_)))))) (fun h => absurd rfl h)
        apply And.intro
        · exact ltb rfl
        refine And.intro (fun _ => And.intro rfl ?_) (fun h => absurd rfl h)
        apply And.intro
        · exact ltb rfl
        refine And.intro (fun _ => And.intro rfl ?_) (fun h => absurd rfl h)
        apply And.intro
        · exact ltb rfl
        refine And.intro (fun _ => And.intro rfl (And.intro (Int.natCast_nonneg _) (And.intro (by show (i : Int) < (l.length : Int); omega) (And.intro rfl ?_)))) (fun h => absurd rfl h)
        apply And.intro
        · exact ltb rfl
        refine And.intro (fun _ => And.intro (Nat.le_of_ble_eq_true rfl) (And.intro rfl ?_)) (fun h => absurd rfl h)
        apply And.intro
        · exact ltb rfl
        refine And.intro (fun _ => And.intro rfl (Exists.intro _ (Exists.intro _ (And.intro (refKey_impl (l.getD ((i : Int)).toNat zDep) hwi) (And.intro (AsLe.refl _) (And.intro rfl ?_)))))) (fun h => absurd rfl h)
        apply And.intro
        · exact ltb rfl
        refine And.intro (fun _ => And.intro rfl ?_) (fun h => absurd rfl h)
        refine And.intro (fun _ => And.intro rfl ?_) (fun h => by cases h)
        refine And.intro rfl ?_
        refine vc_sound tabOk (by kernel_rfl) ?_
        refine And.intro rfl (And.intro ⟨by omega, by show (k : Int) + 1 ≤ _; omega⟩ ?_)
        refine ⟨⟨k + 1, hki⟩, by show i - (k + 1) < i - k; omega, Sub.ofL _ _ (Nat.zero_le _) ⟨rfl, rfl, rfl, rfl, rfl, rfl, rfl, rfl, ?_, rfl, rfl, rfl, trivial⟩ rfl rfl⟩
        show AV.bool (!((ikeyOf (l.getD ((k : Int)).toNat zDep)).toList == (ikeyOf (l.getD ((i : Int)).toNat zDep)).toList)) = AV.bool (!hasKey (ikeyOf l[i]) (l.take (k + 1)))
        rw [stp, show hasKey (ikeyOf l[i]) (l.take k) = false by simpa using hb, hgk, hgi, str_neq, Bool.false_or]
        congr 2
        exact decide_eq_decide.2 eq_comm
    have hkk : hasKey (ikeyOf l[i]) (firstOf (l.take i)) = hasKey (ikeyOf l[i]) (l.take i) := hasKey_firstOf _ _
    refine WP_seq (vc_sound tabOk (by kernel_rfl) ?_)
    refine And.intro (fun hnot => ?_) (fun hnot => ?_)
    · have hin : hasKey (ikeyOf l[i]) (l.take i) = true := by
        have hnot : (!(!hasKey (ikeyOf l[i]) (l.take i))) = true := hnot
        simpa using hnot
      have st1 : firstOf (l.take (i + 1)) = firstOf (l.take i) := by rw [htk, firstOf_snoc, stepF, if_pos (by rw [hkk]; exact hin)]
      refine ⟨(), Sub.ofL _ _ (Nat.zero_le _) ⟨rfl, rfl, rfl, rfl, ?_, rfl, rfl, rfl, trivial⟩ rfl rfl⟩
      rw [st1]; rfl
    have hin : ¬ hasKey (ikeyOf l[i]) (firstOf (l.take i)) = true := by
      have hnot : (!(!hasKey (ikeyOf l[i]) (l.take i))) = false := hnot
      rw [hkk]; simpa using hnot
    have st1 : firstOf (l.take (i + 1)) = firstOf (l.take i) ++ [l[i]] := by rw [htk, firstOf_snoc, stepF, if_neg hin]
    have hpre := firstOf_prefix l (i + 1)
    rw [st1] at hpre
    obtain ⟨tl, htl⟩ := hpre
    have hn : (firstOf (l.take i)).length < (firstOf l).length := by rw [← htl]; simp
    have hgn : (firstOf l).getD (((firstOf (l.take i)).length : Int)).toNat zDep = l[i] := by
      rw [← htl]; simp [List.getD]
    have hge : decide (((firstOf (l.take i)).length : Int) ≥ ((firstOf l).length : Int)) = false := decide_eq_false (by omega)
    refine vc_sound tabOk (by kernel_rfl) ?_
    refine And.intro rfl (And.intro rfl (And.intro rfl (And.intro rfl (And.intro rfl (And.intro rfl ?_)))))
    apply And.intro
    · exact ltb rfl
    refine And.intro (fun _ => And.intro rfl ?_) (fun h => absurd hge h)
    apply And.intro
    · exact ltb rfl
    refine And.intro (fun _ => And.intro rfl ?_) (fun h => absurd hge h)
    apply And.intro
    · exact ltb rfl
    refine And.intro (fun _ => And.intro rfl (And.intro (Int.natCast_nonneg _) (And.intro (by show ((firstOf (l.take i)).length : Int) < ((firstOf l).length : Int); omega) (And.intro rfl ?_)))) (fun h => absurd hge h)
    apply And.intro
    · exact ltb rfl
    refine And.intro (fun _ => And.intro (Nat.le_of_ble_eq_true rfl) (And.intro rfl ?_)) (fun h => absurd hge h)
    apply And.intro
    · exact ltb rfl
    refine And.intro (fun _ => And.intro rfl ?_) (fun h => absurd hge h)
    apply And.intro
    · exact ltb rfl
    refine And.intro (fun _ => And.intro rfl ?_) (fun h => absurd hge h)
    apply And.intro
    · exact ltb rfl
    refine And.intro (fun _ => And.intro rfl (And.intro (Int.natCast_nonneg _) (And.intro (by show (i : Int) < (l.length : Int); omega) (And.intro rfl ?_)))) (fun h => absurd hge h)
    apply And.intro
    · exact ltb rfl
    refine And.intro (fun _ => And.intro (Nat.le_of_ble_eq_true rfl) (And.intro rfl ?_)) (fun h => absurd hge h)
    apply And.intro
    · exact ltb rfl
    refine And.intro (fun _ => And.intro rfl (Exists.intro _ (Exists.intro _ (And.intro (Dep_self l[i] (ex_len (hw _ (List.getElem_mem hlt)))) (And.intro (And.intro (DLe.of_eq (congrArg (fun d => DV.agg (encDep d)) hgn)) (And.intro (DLe.of_eq (congrArg (fun d => DV.agg (encDep d)) hgi)) trivial)) (And.intro rfl ?_)))))) (fun h => absurd hge h)
    apply And.intro
    · exact ltb rfl
    refine And.intro (fun _ => And.intro rfl ?_) (fun h => absurd hge h)
    refine And.intro (fun h => absurd (hge.symm.trans h) (by decide)) (fun _ => And.intro rfl ?_)
    refine And.intro (fun h => by cases h) (fun _ => ?_)
    refine And.intro rfl (And.intro ⟨by omega, by show ((firstOf (l.take i)).length : Int) + 1 ≤ _; omega⟩ ?_)
    refine ⟨(), Sub.ofL _ _ (Nat.zero_le _) ⟨rfl, rfl, rfl, rfl, ?_, rfl, rfl, rfl, trivial⟩ rfl rfl⟩
    show AV.int (((firstOf (l.take i)).length : Int) + 1) = _
    rw [st1]; simp
  · refine vc_sound tabOk (by kernel_rfl) ?_
    have hq : (((firstOf l).length : Int) == ((firstOf l).length : Int)) = true := by simp
    refine And.intro rfl (Exists.intro _ (Exists.intro _ (And.intro awake25_impl (And.intro (AsLe.refl _) ?_))))
    apply And.intro
    · exact ltb rfl
    refine And.intro (fun _ => ?_) (fun h => absurd rfl h)
    apply And.intro
    · exact ltb rfl
    refine And.intro (fun _ => ?_) (fun h => absurd rfl h)
    apply And.intro
    · exact ltb rfl
    refine And.intro (fun _ => ?_) (fun h => absurd rfl h)
    apply And.intro
    · exact ltb rfl
    refine And.intro (fun _ => And.intro rfl ?_) (fun h => absurd rfl h)
    refine And.intro (fun _ => ?_) (fun h => by cases h)
    apply And.intro
    · exact ltb rfl
    refine And.intro (fun _ => ?_) (fun h => absurd hq h)
    apply And.intro
    · exact ltb rfl
    refine And.intro (fun _ => And.intro rfl (Exists.intro _ (Exists.intro _ (And.intro (First_impl (firstOf l) (by omega) hfw) (And.intro (AsLe.refl _) ?_))))) (fun h => absurd hq h)
    apply And.intro
    · exact ltb rfl
    refine And.intro (fun _ => ?_) (fun h => absurd hq h)
    apply And.intro
    · exact ltb rfl
    refine And.intro (fun _ => And.intro rfl (Exists.intro _ (Exists.intro _ (And.intro (SameDep_self (firstOf l) (by omega) (fun d hd => ex_len (hfw d hd))) (And.intro (And.intro (DLe.of_eq (congrArg (fun x => DV.one (dDeps x)) (firstOf_idem l))) (And.intro (DLe.refl _) (And.intro (DLe.refl _) trivial))) ?_))))) (fun h => absurd hq h)
    refine And.intro (fun _ => ?_) (fun h => absurd (hq.symm.trans h) (by decide))
    exact And.intro (DLe.refl _) trivial
end Go.Proofs.Nw.K
