import Derived.Test.YtjfpnnmagnljnaaNwB5
open Go Go.RowKit Go.Proofs
set_option linter.unusedVariables false
set_option linter.unusedSimpArgs false
namespace Go.Proofs.Nw.K

def hasName (k : Str) (out : List Pair) : Bool := out.any fun d => decide (k = d.name)
theorem hasName_iff {k : Str} {out : List Pair} : hasName k out = true ↔ ∃ d ∈ out, k = d.name := by simp [hasName]
def stepN (out : List Pair) (d : Pair) : List Pair := if hasName d.name out = true then out else out ++ [d]
/-- the first one alone of those of one name -/
def foldN (l : List Pair) : List Pair := l.foldl stepN []
/-- .. by rising names -/
def propsOf (l : List Pair) : List Pair := sortP (foldN l)

theorem foldN_snoc (l : List Pair) (d : Pair) : foldN (l ++ [d]) = stepN (foldN l) d := by simp [foldN]
theorem foldN_length' (l : List Pair) : ∀ out : List Pair, (l.foldl stepN out).length ≤ out.length + l.length := by
  induction l with
  | nil => intro out; exact Nat.le_refl _
  | cons d r ih =>
    intro out
    have h1 := ih (stepN out d)
    have h2 : (stepN out d).length ≤ out.length + 1 := by
      unfold stepN
      split
      · omega
      · simp
    simp only [List.foldl_cons, List.length_cons]; omega
theorem foldN_length (l : List Pair) : (foldN l).length ≤ l.length := by
  have := foldN_length' l []
  simpa [foldN] using this
theorem propsOf_length (l : List Pair) : (propsOf l).length ≤ l.length := by
  unfold propsOf
  rw [sortP_length]; exact foldN_length l

def seenN (out : List Pair) : List (ByteArray × D) := out.map fun d => (d.name, dbool true)
theorem seenN_snoc (out : List Pair) (d : Pair) : seenN (out ++ [d]) = seenN out ++ [(d.name, dbool true)] := by simp [seenN]
theorem lookD_seenN (k : Str) : ∀ out : List Pair, lookD (dbool false) k (seenN out) = dbool (hasName k out)
  | [] => rfl
  | d :: r => by
    show (if k = d.name then dbool true else lookD (dbool false) k (seenN r)) = _
    rw [lookD_seenN k r]
    by_cases h : k = d.name
    · rw [if_pos h]; simp [hasName, h]
    · rw [if_neg h]; simp [hasName, h]
theorem fndD_seenN {k : Str} : ∀ {out : List Pair}, ¬ hasName k out = true → fndD k (seenN out) = none
  | [], _ => rfl
  | d :: r, h => by
    have h1 : ¬ k = d.name := fun e => h (hasName_iff.2 ⟨d, by simp, e⟩)
    have h2 : ¬ hasName k r = true := fun e => h (by obtain ⟨x, hx, he⟩ := hasName_iff.1 e; exact hasName_iff.2 ⟨x, by simp [hx], he⟩)
    show (if k = d.name then some 0 else (fndD k (seenN r)).map (· + 1)) = none
    rw [if_neg h1, fndD_seenN h2]; rfl
theorem updD_seenN {k : Str} {out : List Pair} (h : ¬ hasName k out = true) : updD k (dbool true) (seenN out) = seenN out ++ [(k, dbool true)] := (fndD_none (z := dbool true) (d := dbool true) (fndD_seenN h)).2

theorem props_impl0 (l : List Pair) (hl : l.length ≤ 4194304)
    (hnone : ∀ (p : Option Addr) (cap : Nat) (fv : Value) (w : World), Calls Try.prog 73 #[.slice p 0 cap, fv] w fun e w' => e = .returned (.tuple #[]) ∧ w' = w) :
    Impl Try.prog 49 [.one (dPairs l)] [.one (dPairs (propsOf l))] := by
  refine impl_vc tabOk Try.func49 rfl rfl (by exact Nat.le_of_ble_eq_true rfl) ?_
  refine WP_seq (vc_sound tabOk (by kernel_rfl) ?_)
  refine WP_seq (vc_sound tabOk (by kernel_rfl) ?_)
  refine WP_seq (vc_sound tabOk (by kernel_rfl) ?_)
  refine WP_seq_cut (α := Unit) (fun _ => ofL [(4, .h 1 (foldN l).length 0 (foldN l).length)]) (fun _ => [.mp ((seenN (foldN l)).map strE), .row (foldN l).length 66 2 ((foldN l).map encPair)])
    (WP_seq (vc_sound tabOk (by kernel_rfl) ?_)) (fun _ => ?_)
  · refine WP_block (WP_loop (α := {i : Nat // i ≤ l.length}) (fun i => ofL [(3, .omap 0), (4, .h 1 (foldN (l.take i.1)).length 0 (foldN (l.take i.1)).length), (8, .d (dPairs l)), (9, .int (l.length : Int)), (10, .int (i.1 : Int))])
      (fun i => [.mp ((seenN (foldN (l.take i.1))).map strE), .row (foldN (l.take i.1)).length 66 2 ((foldN (l.take i.1)).map encPair)]) (fun i => l.length - i.1) ⟨0, Nat.zero_le _⟩ ?_ ?_)
    · exact (Sub.nilsRow 4 66 2 rfl).trans (Sub.ofL _ _ (Nat.zero_le _) ⟨rfl, rfl, rfl, rfl, rfl, rfl, rfl, rfl, rfl, rfl, trivial⟩ rfl rfl)
    rintro ⟨i, hi⟩
    refine vc_sound tabOk (by kernel_rfl) ?_
    refine And.intro rfl (And.intro (fun h => ?_) (fun h => ?_))
    · have h : decide ((i : Int) < (l.length : Int)) = true := h
      have hlt : i < l.length := by have := of_decide_eq_true h; omega
      have hg : l.getD ((i : Int)).toNat zPair = l[i] := by simp [List.getD, hlt]
      have htk : l.take (i + 1) = l.take i ++ [l[i]] := List.take_succ_eq_append_getElem hlt
      have hol := foldN_length (l.take i)
      have htl : (l.take i).length ≤ l.length := by rw [List.length_take]; omega
      refine And.intro rfl (And.intro (Int.natCast_nonneg _) (And.intro (by show (i : Int) < (l.length : Int); omega) ?_))
      refine And.intro (Nat.le_of_ble_eq_true rfl) ?_
      refine And.intro rfl (And.intro (Nat.le_of_ble_eq_true rfl) ?_)
      by_cases hin : hasName l[i].name (foldN (l.take i)) = true
      · refine Exists.intro (dbool false) (Exists.intro (seenN (foldN (l.take i))) (Exists.intro (dbool true) (And.intro map95 (And.intro rfl (And.intro ?_ ?_)))))
        · show lookD (dbool false) (l.getD ((i : Int)).toNat zPair).name _ = _
          rw [hg, lookD_seenN, hin]
        refine And.intro (fun h => by cases h) (fun _ => ?_)
        have st1 : foldN (l.take (i + 1)) = foldN (l.take i) := by rw [htk, foldN_snoc, stepN, if_pos hin]
        refine And.intro rfl (And.intro ⟨by omega, by show (i : Int) + 1 ≤ _; omega⟩ ?_)
        refine ⟨⟨i + 1, hlt⟩, by show l.length - (i + 1) < l.length - i; omega, Sub.ofL _ _ (Nat.zero_le _) ⟨rfl, rfl, ?_, rfl, rfl, rfl, rfl, rfl, rfl, rfl, trivial⟩ ?_ rfl⟩
        · show _ = AV.h 1 (foldN (l.take (i + 1))).length 0 (foldN (l.take (i + 1))).length
          rw [st1]; rfl
        · show _ = [AO.mp ((seenN (foldN (l.take (i + 1)))).map strE), AO.row (foldN (l.take (i + 1))).length 66 2 ((foldN (l.take (i + 1))).map encPair)]
          rw [st1]; rfl
      · have st1 : foldN (l.take (i + 1)) = foldN (l.take i) ++ [l[i]] := by rw [htk, foldN_snoc, stepN, if_neg hin]
        have e1 : (foldN (l.take (i + 1))).length = (foldN (l.take i)).length + 1 := by rw [st1]; simp
        refine Exists.intro (dbool false) (Exists.intro (seenN (foldN (l.take i))) (Exists.intro (dbool false) (And.intro map95 (And.intro rfl (And.intro ?_ ?_)))))
        · show lookD (dbool false) (l.getD ((i : Int)).toNat zPair).name _ = _
          rw [hg, lookD_seenN, show hasName l[i].name (foldN (l.take i)) = false by simpa using hin]
        refine And.intro (fun _ => ?_) (fun h => by cases h)
        refine Exists.intro (dbool false) (Exists.intro (seenN (foldN (l.take i))) (And.intro map95 (And.intro rfl ?_)))
        refine And.intro rfl ?_
        refine And.intro rfl (And.intro (by decide) (And.intro (by decide) (And.intro rfl (Or.inl ?_))))
        refine And.intro rfl (And.intro ⟨rfl, rfl, rfl, rfl⟩ (And.intro rfl (And.intro ?_ (And.intro ?_ ?_))))
        · show ((foldN (l.take i)).length + 1) * 32 ≤ _; omega
        · show (foldN (l.take i)).length + 1 ≤ _; simp only [maxLen]; omega
        refine And.intro rfl (And.intro ⟨by omega, by show (i : Int) + 1 ≤ _; omega⟩ ?_)
        refine ⟨⟨i + 1, hlt⟩, by show l.length - (i + 1) < l.length - i; omega, Sub.ofL _ _ (Nat.zero_le _) ⟨rfl, rfl, ?_, rfl, rfl, rfl, rfl, rfl, rfl, rfl, trivial⟩ ?_ rfl⟩
        · show AV.h 1 ((foldN (l.take i)).length + 1) 0 ((foldN (l.take i)).length + 1) = _
          rw [← e1]
        · show [AO.mp ((updD (l.getD ((i : Int)).toNat zPair).name (dbool true) (seenN (foldN (l.take i)))).map strE), AO.row ((foldN (l.take i)).length + 1) 66 2 (((foldN (l.take i)).map encPair).take (foldN (l.take i)).length ++ [encPair (l.getD ((i : Int)).toNat zPair)])] = _
          have e2 : ((foldN (l.take i)).map encPair).take (foldN (l.take i)).length = (foldN (l.take i)).map encPair := List.take_of_length_le (by rw [List.length_map]; exact Nat.le_refl _)
          rw [hg, e2, ← e1, updD_seenN hin]
          show _ = [AO.mp ((seenN (foldN (l.take (i + 1)))).map strE), AO.row (foldN (l.take (i + 1))).length 66 2 ((foldN (l.take (i + 1))).map encPair)]
          rw [st1, seenN_snoc]; simp only [List.map_append]; rfl
    · have h : decide ((i : Int) < (l.length : Int)) = false := h
      have h0 : l.take i = l := List.take_of_length_le (by have := of_decide_eq_false h; omega)
      refine ⟨(), Sub.ofL _ _ (Nat.zero_le _) ⟨?_, rfl, trivial⟩ ?_ rfl⟩
      · show AV.h 1 (foldN (l.take i)).length 0 (foldN (l.take i)).length = _
        rw [h0]
      · show [AO.mp ((seenN (foldN (l.take i))).map strE), AO.row (foldN (l.take i)).length 66 2 ((foldN (l.take i)).map encPair)] = _
        rw [h0]
  · have hol := foldN_length l
    refine vc_sound tabOk (by kernel_rfl) ?_
    refine And.intro rfl (Or.inl (Exists.intro _ (Exists.intro _ (And.intro (sortFunc_some (s := 1) (k := (foldN l).length) (xs := foldN l) rfl (by omega) hnone) ?_))))
    refine And.intro ⟨rfl, rfl, ?_⟩ (And.intro (DLe.tl _ ?_) trivial)
    · show (foldN l).length = ((sortP (foldN l)).map encPair).length
      rw [List.length_map, sortP_length]
    · rfl
end Go.Proofs.Nw.K
