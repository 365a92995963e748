import Derived.Test.YtjfpnnmagnljnaaNwC10
import Derived.Test.YtjfpnnmagnljnaaNwL3
open Go Go.RowKit Go.Proofs
set_option linter.unusedVariables false
set_option linter.unusedSimpArgs false
namespace Go.Proofs.Nw.K

/-- is there one of this key? -/
def hasKey (k : Str) (out : List Dep) : Bool := out.any fun d => decide (k = ikeyOf d)
theorem hasKey_iff {k : Str} {out : List Dep} : hasKey k out = true ↔ ∃ d ∈ out, k = ikeyOf d := by simp [hasKey]
/-- the first one alone of those of one key -/
def stepF (out : List Dep) (d : Dep) : List Dep := if hasKey (ikeyOf d) out = true then out else out ++ [d]
def firstOf (l : List Dep) : List Dep := l.foldl stepF []

theorem firstOf_snoc (l : List Dep) (d : Dep) : firstOf (l ++ [d]) = stepF (firstOf l) d := by simp [firstOf]
theorem foldF_length (l : List Dep) : ∀ out : List Dep, (l.foldl stepF out).length ≤ out.length + l.length := by
  induction l with
  | nil => intro out; exact Nat.le_refl _
  | cons d r ih =>
    intro out
    have h1 := ih (stepF out d)
    have h2 : (stepF out d).length ≤ out.length + 1 := by
      unfold stepF
      split
      · omega
      · simp
    simp only [List.foldl_cons, List.length_cons]; omega
theorem firstOf_length (l : List Dep) : (firstOf l).length ≤ l.length := by
  have := foldF_length l []
  simpa [firstOf] using this

def seenMap (out : List Dep) : List (ByteArray × D) := out.map fun d => (ikeyOf d, dbool true)
theorem seenMap_snoc (out : List Dep) (d : Dep) : seenMap (out ++ [d]) = seenMap out ++ [(ikeyOf d, dbool true)] := by simp [seenMap]
theorem lookD_seen (k : Str) : ∀ out : List Dep, lookD (dbool false) k (seenMap out) = dbool (hasKey k out)
  | [] => rfl
  | d :: r => by
    show (if k = ikeyOf d then dbool true else lookD (dbool false) k (seenMap r)) = _
    rw [lookD_seen k r]
    by_cases h : k = ikeyOf d
    · rw [if_pos h]; simp [hasKey, h]
    · rw [if_neg h]; simp [hasKey, h]
theorem fndD_seen {k : Str} : ∀ {out : List Dep}, ¬ hasKey k out = true → fndD k (seenMap out) = none
  | [], _ => rfl
  | d :: r, h => by
    have h1 : ¬ k = ikeyOf d := fun e => h (hasKey_iff.2 ⟨d, by simp, e⟩)
    have h2 : ¬ hasKey k r = true := fun e => h (by obtain ⟨x, hx, he⟩ := hasKey_iff.1 e; exact hasKey_iff.2 ⟨x, by simp [hx], he⟩)
    show (if k = ikeyOf d then some 0 else (fndD k (seenMap r)).map (· + 1)) = none
    rw [if_neg h1, fndD_seen h2]; rfl
theorem updD_seen {k : Str} {out : List Dep} (h : ¬ hasKey k out = true) : updD k (dbool true) (seenMap out) = seenMap out ++ [(k, dbool true)] := (fndD_none (z := dbool true) (d := dbool true) (fndD_seen h)).2

theorem map95 : mapT Try.prog 95 = some (dbool false) := by kernel_rfl

theorem ex_len {d : Dep} (h : d.wt ≤ 4194304) : d.excluded.length ≤ 4194304 := by
  have h3 := len_le_sum Excluded.wt (fun a => by unfold Excluded.wt; omega) d.excluded
  unfold Dep.wt at h
  omega

theorem First_impl (l : List Dep) (hl : l.length ≤ 4194304) (hw : ∀ d ∈ l, d.wt ≤ 4194304) : Impl Try.prog 31 [.one (dDeps l)] [.one (dDeps (firstOf l))] := by
  refine impl_vc tabOk Try.func31 rfl rfl (by exact Nat.le_of_ble_eq_true rfl) (vc_sound tabOk (by kernel_rfl) ?_)
  refine WP_scope_cut (α := {i : Nat // i ≤ l.length}) 0 (fun i => ofL [(0, .d (dDeps (l.drop i.1))), (2, .nils), (3, .omap 0), (4, .h 1 (firstOf (l.take i.1)).length 0 (firstOf (l.take i.1)).length)])
    (fun i => [.mp ((seenMap (firstOf (l.take i.1))).map strE), .row (firstOf (l.take i.1)).length 35 8 ((firstOf (l.take i.1)).map encDep)]) (fun i => l.length - i.1) (by rfl) ?_ (fun cut => vc_sound tabOk (by kernel_rfl) ?_)
  · rintro ⟨i, hi⟩
    refine vc_sound tabOk (by kernel_rfl) ?_
    refine And.intro rfl (And.intro (fun h => ?_) (fun h => ?_))
    · have h0 : l.drop i = [] := List.eq_nil_of_length_eq_zero (by simpa using h)
      have h1 : l.take i = l := List.take_of_length_le (by have := congrArg List.length h0; simp at this; omega)
      refine And.intro ⟨rfl, rfl, (List.length_map _).symm⟩ (And.intro (DLe.tl _ ?_) trivial)
      show List.map encDep (firstOf (l.take i)) = _
      rw [h1]
    · have hlt : i < l.length := by
        have : ¬ (l.drop i).length = 0 := by simpa using h
        simp at this; omega
      have hd : l.drop i = l[i] :: l.drop (i + 1) := List.drop_eq_getElem_cons hlt
      have hg : (l.drop i).getD 0 zDep = l[i] := by rw [hd]; rfl
      have htk : l.take (i + 1) = l.take i ++ [l[i]] := List.take_succ_eq_append_getElem hlt
      have hwd : ((l.drop i).getD (Int.toNat 0) zDep).wt ≤ 4194304 := by show ((l.drop i).getD 0 zDep).wt ≤ _; rw [hg]; exact hw _ (List.getElem_mem hlt)
      have hlz : (0 : Int) < ((l.drop i).length : Int) := by simp; omega
      have hol := firstOf_length (l.take i)
      have htl : (l.take i).length ≤ l.length := by rw [List.length_take]; omega
      have sl : ∀ (l : List Dep), (l.take l.length).drop 1 = l.drop 1 := fun l => by rw [List.take_length]
      refine And.intro rfl (And.intro (Int.le_refl _) (And.intro hlz ?_))
      refine And.intro (Nat.le_of_ble_eq_true rfl) ?_
      refine And.intro rfl (Exists.intro _ (Exists.intro _ (And.intro (Key_impl ((l.drop i).getD (Int.toNat 0) zDep) hwd) (And.intro (AsLe.refl _) ?_))))
      by_cases hin : hasKey (ikeyOf l[i]) (firstOf (l.take i)) = true
      · refine Exists.intro (dbool false) (Exists.intro (seenMap (firstOf (l.take i))) (Exists.intro (dbool true) (And.intro map95 (And.intro rfl (And.intro ?_ ?_)))))
        · show lookD (dbool false) (ikeyOf ((l.drop i).getD 0 zDep)) _ = _
          rw [hg, lookD_seen, hin]
        refine And.intro (fun h => by cases h) (fun _ => ?_)
        have st1 : firstOf (l.take (i + 1)) = firstOf (l.take i) := by rw [htk, firstOf_snoc, stepF, if_pos hin]
        refine And.intro rfl (And.intro (by decide) (And.intro (by show 1 ≤ (l.drop i).length; simp; omega) (And.intro (Nat.le_refl _) ?_)))
        refine And.intro rfl ⟨⟨i + 1, hlt⟩, by simp; omega, Sub.ofL _ _ (Nat.zero_le _) ⟨?_, rfl, rfl, rfl, rfl, rfl, ?_, rfl, trivial⟩ ?_ rfl⟩
        · show AV.d (dDeps (((l.drop i).take (l.drop i).length).drop 1)) = _
          rw [sl, List.drop_drop]
        · show _ = AV.h 1 (firstOf (l.take (i + 1))).length 0 (firstOf (l.take (i + 1))).length
          rw [st1]; rfl
        · show _ = [AO.mp ((seenMap (firstOf (l.take (i + 1)))).map strE), AO.row (firstOf (l.take (i + 1))).length 35 8 ((firstOf (l.take (i + 1))).map encDep)]
          rw [st1]; rfl
      · have st1 : firstOf (l.take (i + 1)) = firstOf (l.take i) ++ [l[i]] := by rw [htk, firstOf_snoc, stepF, if_neg hin]
        have e1 : (firstOf (l.take (i + 1))).length = (firstOf (l.take i)).length + 1 := by rw [st1]; simp
        refine Exists.intro (dbool false) (Exists.intro (seenMap (firstOf (l.take i))) (Exists.intro (dbool false) (And.intro map95 (And.intro rfl (And.intro ?_ ?_)))))
        · show lookD (dbool false) (ikeyOf ((l.drop i).getD 0 zDep)) _ = _
          rw [hg, lookD_seen, show hasKey (ikeyOf l[i]) (firstOf (l.take i)) = false by simpa using hin]
        refine And.intro (fun _ => ?_) (fun h => by cases h)
        refine Exists.intro (dbool false) (Exists.intro (seenMap (firstOf (l.take i))) (And.intro map95 (And.intro rfl ?_)))
        refine And.intro rfl (And.intro (Int.le_refl _) (And.intro hlz ?_))
        refine And.intro (Nat.le_of_ble_eq_true rfl) ?_
        refine And.intro rfl (And.intro (Nat.le_of_ble_eq_true rfl) ?_)
        refine And.intro rfl (Exists.intro _ (Exists.intro _ (And.intro (Clone_impl ((l.drop i).getD (Int.toNat 0) zDep).excluded (ex_len hwd)) (And.intro (AsLe.refl _) ?_))))
        refine And.intro rfl (And.intro (Nat.le_of_ble_eq_true rfl) ?_)
        refine And.intro rfl ?_
        refine And.intro rfl (And.intro (by decide) (And.intro (by decide) (And.intro rfl (Or.inl ?_))))
        refine And.intro rfl (And.intro ⟨rfl, rfl, rfl, rfl⟩ (And.intro rfl (And.intro ?_ (And.intro ?_ ?_))))
        · show ((firstOf (l.take i)).length + 1) * 128 ≤ _; omega
        · show (firstOf (l.take i)).length + 1 ≤ _; simp only [maxLen]; omega
        refine And.intro rfl (And.intro (by decide) (And.intro (by show 1 ≤ (l.drop i).length; simp; omega) (And.intro (Nat.le_refl _) ?_)))
        refine And.intro rfl ⟨⟨i + 1, hlt⟩, by simp; omega, Sub.ofL _ _ (Nat.zero_le _) ⟨?_, rfl, rfl, rfl, rfl, rfl, ?_, rfl, trivial⟩ ?_ rfl⟩
        · show AV.d (dDeps (((l.drop i).take (l.drop i).length).drop 1)) = _
          rw [sl, List.drop_drop]
        · show AV.h 1 ((firstOf (l.take i)).length + 1) 0 ((firstOf (l.take i)).length + 1) = _
          rw [← e1]
        · show [AO.mp ((updD (ikeyOf ((l.drop i).getD 0 zDep)) (dbool true) (seenMap (firstOf (l.take i)))).map strE), AO.row ((firstOf (l.take i)).length + 1) 35 8 (((firstOf (l.take i)).map encDep).take (firstOf (l.take i)).length ++ [encDep ((l.drop i).getD 0 zDep)])] = _
          have e2 : ((firstOf (l.take i)).map encDep).take (firstOf (l.take i)).length = (firstOf (l.take i)).map encDep := List.take_of_length_le (by rw [List.length_map]; exact Nat.le_refl _)
          rw [hg, e2, ← e1, updD_seen hin]
          show _ = [AO.mp ((seenMap (firstOf (l.take (i + 1)))).map strE), AO.row (firstOf (l.take (i + 1))).length 35 8 ((firstOf (l.take (i + 1))).map encDep)]
          rw [st1, seenMap_snoc]; simp only [List.map_append]; rfl
  · refine cut ⟨0, Nat.zero_le _⟩ _ _ ((Sub.nilsRow 4 35 8 rfl).trans (Sub.ofL _ _ (Nat.zero_le _) ⟨rfl, rfl, rfl, rfl, rfl, rfl, rfl, rfl, trivial⟩ rfl rfl))
end Go.Proofs.Nw.K
