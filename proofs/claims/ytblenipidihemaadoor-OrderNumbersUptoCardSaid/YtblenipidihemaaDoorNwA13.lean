/- Bundle 13: NwQL6. -/
import Derived.Test.YtblenipidihemaaDoorNwA12
section
/- QL6: plain law OrderNumbers. -/
open Go Go.RowKit Go.Proofs Go.Sort Go.Shelf
set_option linter.unusedVariables false
set_option linter.unusedSimpArgs false
namespace Go.Proofs.Nw.K

/-- a number out of an input -/
def modI (a : Int) : Nat := (IntKind.wrap .i64 ((IntKind.wrap .u64 a).tmod 2000)).toNat
theorem modI_lt (a : Int) : modI a < 2000 := by
  obtain ⟨i, hi, _, e⟩ := modN a 2000 (by decide) (by decide)
  have e : IntKind.wrap .i64 ((IntKind.wrap .u64 a).tmod 2000) = i := e
  unfold modI
  rw [e]; omega
theorem modI_eq (a : Int) : IntKind.wrap .i64 ((IntKind.wrap .u64 a).tmod 2000) = (modI a : Int) := by
  obtain ⟨i, hi, _, e⟩ := modN a 2000 (by decide) (by decide)
  have e : IntKind.wrap .i64 ((IntKind.wrap .u64 a).tmod 2000) = i := e
  unfold modI
  rw [e]; omega
/-- what the closure writes: of so many numbers -/
def textN : List Nat → Str
  | [] => (⟨#[49]⟩ : Str)
  | m :: r => textN r ++ (dot ++ digs m)
/-- of the first k, the last one ahead -/
def firstN (l : List Int) (k : Nat) : List Nat := ((l.take k).map modI).reverse
theorem firstN_succ (l : List Int) (k : Nat) (h : k < l.length) : firstN l (k + 1) = modI l[k] :: firstN l k := by
  unfold firstN
  rw [List.take_succ_eq_append_getElem h, List.map_append, List.reverse_append]
  rfl
theorem textN_size : ∀ l : List Nat, (∀ m ∈ l, m < 2000) → (textN l).size ≤ 1 + 5 * l.length
  | [], _ => Nat.le_refl _
  | m :: r, h => by
    have h1 := textN_size r (fun x hx => h x (by simp [hx]))
    have h2 := digs_size m (h m (by simp))
    unfold textN
    rw [app_size, app_size, dot_size, List.length_cons]
    omega
theorem firstN_lt (l : List Int) (k : Nat) : ∀ m ∈ firstN l k, m < 2000 := by
  intro m hm
  unfold firstN at hm
  simp only [List.mem_reverse, List.mem_map] at hm
  obtain ⟨a, _, rfl⟩ := hm
  exact modI_lt a
theorem firstN_len (l : List Int) (k : Nat) : (firstN l k).length ≤ k := by
  unfold firstN
  simp
  omega
def stop (l : List Int) : Nat := min l.length 5
theorem numbers_loop (l : List Int) (hl : l.length ≤ 4194304) : ∀ (f k : Nat), k ≤ stop l → stop l < k + f → g_newellaw06_OrderNumbers_1.l23 10 l f (textN (firstN l k)) (k : Int) = some (textN (firstN l (stop l)))
  | 0, k, h1, h2 => by omega
  | f + 1, k, h1, h2 => by
    unfold g_newellaw06_OrderNumbers_1.l23 g_newellaw06_OrderNumbers_1.l23b
    rw [decN]
    by_cases hk : k < stop l
    · have hkl : k < l.length := by unfold stop at hk; omega
      have hk5 : k < 5 := by unfold stop at hk; omega
      have hg : l.getD (k : Int).toNat (0 : Int) = l[k] := by simp [hkl]
      have hz := textN_size _ (firstN_lt l k)
      have hle := firstN_len l k
      have hd := digs_size (modI l[k]) (modI_lt _)
      have z5 : (⟨#[46]⟩ : Str).size = 1 := rfl
      rw [decide_eq_true hkl, cond_true, show decide ((k : Int) < 5) = true from decide_eq_true (by omega), cond_true, chk_t (by unfold textOk; omega), chk_at hkl, hg, modI_eq, digs_some _ (modI_lt _), Option.bind_some,
        chk_t (by unfold textOk; rw [app_size]; omega), chk_t (in64_nat (by omega))]
      have ih := numbers_loop l hl f (k + 1) (by omega) (by omega)
      rw [firstN_succ l k hkl] at ih
      rw [show ((k + 1 : Nat) : Int) = (k : Int) + 1 by omega] at ih
      rw [dot_lit, app_assoc]
      exact ih
    · have hk : k = stop l := by omega
      by_cases hkl : k < l.length
      · have h5 : ¬ ((k : Int) < 5) := by unfold stop at hk; omega
        rw [decide_eq_true hkl, cond_true, decide_eq_false h5, cond_false, ← hk]
        rfl
      · rw [decide_eq_false hkl, cond_false, ← hk]
        rfl
theorem numbers1_eq (l : List Int) (hl : l.length ≤ 4194304) : g_newellaw06_OrderNumbers_1 10 l = some (textN (firstN l (stop l))) :=
  numbers_loop l hl 10 0 (Nat.zero_le _) (by unfold stop; omega)

/-! ### words of such a text -/
theorem words_snocN (a : List Wd) (b : List Wd) : wordsCmp (a ++ [nothing]) b = wordsCmp a b := by
  rw [wordsCmp_seq (a ++ [nothing]) b (a.length + 1 + b.length) (by simp) (by omega), wordsCmp_seq a b (a.length + 1 + b.length) (by omega) (by omega)]
  have ha : ∀ i, atW (a ++ [nothing]) i = atW a i := fun i => by
    unfold atW
    rw [List.getD_eq_getElem?_getD, List.getD_eq_getElem?_getD]
    rcases Nat.lt_trichotomy i a.length with h | h | h
    · rw [List.getElem?_append_left h]
    · subst h; simp
    · rw [List.getElem?_eq_none (by simp; omega), List.getElem?_eq_none (by omega)]
  have : ∀ n i, seqFrom (a ++ [nothing]) b n i = seqFrom a b n i := by
    intro n
    induction n with
    | zero => intro i; rfl
    | succ n ih => intro i; unfold seqFrom; rw [ha, ih]
  exact this _ _
theorem words_rep (a b : List Wd) : ∀ z, wordsCmp (a ++ List.replicate z nothing) b = wordsCmp a b
  | 0 => by simp
  | z + 1 => by
    rw [List.replicate_succ', ← List.append_assoc, words_snocN]
    exact words_rep a b z
def SameW (a b : List Wd) : Prop := ∃ z, b = a ++ List.replicate z nothing
theorem SameW.cmp {a a' b b' : List Wd} (h : SameW a a') (k : SameW b b') : wordsCmp a b = wordsCmp a' b' := by
  obtain ⟨z, rfl⟩ := h
  obtain ⟨y, rfl⟩ := k
  rw [words_rep]
  have h1 := totWs.anti a b
  have h2 := totWs.anti a (b ++ List.replicate y nothing)
  rw [words_rep b a y] at h2
  omega
/-- what it is at each place, noughts behind too -/
def rowW (l : List Nat) : List Wd := ⟨10, (⟨#[49]⟩ : Str)⟩ :: (l.reverse.map numW)
theorem keepAll : ∀ (R : List Pt), (∀ p ∈ R, (wordOf p).kind = 6 ∨ (wordOf p).kind = 10) → ∀ acc : List Wd, acc ≠ [] → ((lastW acc).kind = 6 ∨ (lastW acc).kind = 10) → R.foldl splitStep acc = acc ++ R.map wordOf
  | [], _, acc, _, _ => by simp
  | q :: R, h, acc, ha, hl => by
    have h1 : splitStep acc q = acc ++ [wordOf q] := by
      unfold splitStep
      have hp : 0 < acc.length := List.length_pos_iff.2 ha
      have : keepB acc (wordOf q) = true := by
        unfold keepB
        rw [decide_eq_true (by omega)]
        rcases hl with hl | hl <;> simp [hl]
      rw [if_pos this]
    simp only [List.foldl_cons]
    rw [h1, keepAll R (fun p hp => h p (by simp [hp])) _ (by simp) (by rw [lastW_snoc]; exact h q (by simp))]
    simp
theorem keepRev : ∀ (R : List Pt), (∀ p ∈ R, (wordOf p).kind = 6 ∨ (wordOf p).kind = 10) → ∃ z, R.map wordOf = List.replicate z nothing ++ R.foldl splitStep []
  | [], _ => ⟨0, rfl⟩
  | q :: R, h => by
    rcases h q (by simp) with hq | hq
    · obtain ⟨z, hz⟩ := keepRev R (fun p hp => h p (by simp [hp]))
      refine ⟨z + 1, ?_⟩
      have h2 : splitStep [] q = [] := by
        unfold splitStep
        have : keepB [] (wordOf q) = false := by unfold keepB; simp [hq]
        rw [if_neg (by simp [this])]
      simp only [List.foldl_cons, List.map_cons]
      rw [h2, hz, word6 q hq, List.replicate_succ]
      rfl
    · refine ⟨0, ?_⟩
      simp only [List.foldl_cons, List.map_cons]
      rw [step_kept [] q (by omega), keepAll R (fun p hp => h p (by simp [hp])) _ (by simp) (by rw [lastW_snoc]; exact .inr hq)]
      simp
theorem split_same (v : Str) (h : ∀ p ∈ partsOf (lowerOf v), (wordOf p).kind = 6 ∨ (wordOf p).kind = 10) : SameW (splitOf v) ((partsOf (lowerOf v)).map wordOf) := by
  obtain ⟨z, hz⟩ := keepRev (partsOf (lowerOf v)).reverse (fun p hp => h p (by simpa using hp))
  refine ⟨z, ?_⟩
  have := congrArg List.reverse hz
  simp only [List.map_reverse, List.reverse_reverse, List.reverse_append, List.reverse_replicate] at this
  rw [this]
  rfl
theorem numW_kinds (m : Nat) : (numW m).kind = 6 ∨ (numW m).kind = 10 := by
  by_cases h : m = 0
  · subst h; exact .inl rfl
  · exact .inr (numW_kind m h)
theorem one_words : (partsOf (lowerOf (⟨#[49]⟩ : Str))).map wordOf = [⟨10, (⟨#[49]⟩ : Str)⟩] := by kernel_rfl
theorem text_words : ∀ l : List Nat, (∀ m ∈ l, m < 2000) → (partsOf (lowerOf (textN l))).map wordOf = rowW l
  | [], _ => one_words
  | m :: r, h => by
    obtain ⟨_, _, h3, h4, h5, _⟩ := num_facts m (h m (by simp))
    have hd : lowerOf dot = dot := by kernel_rfl
    have e := parts_tail (lowerOf (textN r)) (digs m) 46 rfl
    rw [show ((46 : UInt8) == 45) = false from rfl, h4] at e
    unfold textN
    rw [lower_app, lower_app, h3, hd]
    refine (congrArg (List.map wordOf) e).trans ?_
    rw [List.map_append, text_words r (fun x hx => h x (by simp [hx]))]
    simp [rowW, h5]
theorem split_text (l : List Nat) (h : ∀ m ∈ l, m < 2000) : SameW (splitOf (textN l)) (rowW l) := by
  have := split_same (textN l) (fun p hp => by
    have hm : wordOf p ∈ rowW l := by rw [← text_words l h]; exact List.mem_map_of_mem hp
    unfold rowW at hm
    rcases List.mem_cons.1 hm with e | e
    · rw [e]; exact .inr rfl
    · obtain ⟨m, _, e⟩ := List.mem_map.1 e
      rw [← e]; exact numW_kinds m)
  rwa [text_words l h] at this
/-- the numbers, in their order -/
def numsOf (l : List Int) : List Nat := (l.take 5).map modI
theorem numsOf_len (l : List Int) : (numsOf l).length ≤ 5 := by unfold numsOf; simp; omega
theorem row_first (l : List Int) : rowW (firstN l (stop l)) = ⟨10, (⟨#[49]⟩ : Str)⟩ :: (numsOf l).map numW := by
  have : l.take (stop l) = l.take 5 := by
    unfold stop
    rcases Nat.le_total l.length 5 with h | h
    · rw [Nat.min_eq_left h, List.take_of_length_le (Nat.le_refl _), List.take_of_length_le h]
    · rw [Nat.min_eq_right h]
  unfold rowW firstN numsOf
  rw [this, List.reverse_reverse]
theorem cmp_text (a b : List Int) : cmpV (textN (firstN a (stop a))) (textN (firstN b (stop b))) = seqFrom ((numsOf a).map numW) ((numsOf b).map numW) 5 0 := by
  unfold cmpV
  rw [(split_text _ (firstN_lt a _)).cmp (split_text _ (firstN_lt b _)), row_first, row_first, words_cons, if_neg (by rw [totW.refl]; simp)]
  exact wordsCmp_seq _ _ 5 (by rw [List.length_map]; exact numsOf_len a) (by rw [List.length_map]; exact numsOf_len b)

/-- the number at a place, or nought -/
def placeN (l : List Int) (i : Nat) : Nat := if h : i < l.length then modI l[i] else 0
theorem placeN_lt (l : List Int) (i : Nat) : placeN l i < 2000 := by
  unfold placeN
  split
  · exact modI_lt _
  · decide
theorem at_place (l : List Int) (i : Nat) (h : i < 5) : atW ((numsOf l).map numW) i = numW (placeN l i) := by
  unfold atW placeN numsOf
  rw [List.getD_eq_getElem?_getD]
  by_cases hi : i < l.length
  · rw [dif_pos hi]
    simp [hi, h]
  · rw [dif_neg hi, List.getElem?_eq_none (by simp; omega)]
    rfl

/-! ### OrderNumbers -/
theorem numbers_k45 (a b : List Int) (ha : a.length ≤ 4194304) (hb : b.length ≤ 4194304) (w : Int) (hw : w = seqFrom ((numsOf a).map numW) ((numsOf b).map numW) 5 0) : g_newellaw06_OrderNumbers.k45 10 a b w = some true := by
  have s1 := textN_size _ (firstN_lt a (stop a))
  have s2 := textN_size _ (firstN_lt b (stop b))
  have l1 := firstN_len a (stop a)
  have l2 := firstN_len b (stop b)
  have h1 : stop a ≤ 5 := by unfold stop; omega
  have h2 : stop b ≤ 5 := by unfold stop; omega
  unfold g_newellaw06_OrderNumbers.k45
  rw [awake_eq 7, Option.bind_some, cond_true, numbers1_eq a ha, Option.bind_some, numbers1_eq b hb, Option.bind_some, g_order_Compare_eq _ _ _ (by omega) (by omega), Option.bind_some, cmp_text, hw, beq_self_eq_true]
theorem place_k65 (x y : Nat) (w i : Int) (hi : 0 ≤ i) (hi2 : i < 5) (hw : w = 0) (rec45 : Int → Int → Option Bool) : g_newellaw06_OrderNumbers.k65 10 w i rec45 (x : Int) (y : Int) = rec45 (cmpI x y) (i + 1) := by
  have c := cmpI_spec (x : Int) (y : Int)
  unfold g_newellaw06_OrderNumbers.k65
  by_cases h1 : (x : Int) < y
  · rw [decide_eq_true h1, cond_true, chk_t (by unfold in64; omega), show cmpI (x : Int) (y : Int) = -1 by omega]
  · rw [decide_eq_false h1, cond_false]
    by_cases h2 : (x : Int) > y
    · rw [decide_eq_true h2, cond_true, chk_t (by unfold in64; omega), show cmpI (x : Int) (y : Int) = 1 by omega]
    · rw [decide_eq_false h2, cond_false, chk_t (by unfold in64; omega), hw, show cmpI (x : Int) (y : Int) = 0 by omega]
theorem place_k61 (b : List Int) (x i : Nat) (w : Int) (hi : i < 5) (hw : w = 0) (rec45 : Int → Int → Option Bool) : g_newellaw06_OrderNumbers.k61 10 b w (i : Int) rec45 (x : Int) = rec45 (cmpI x (placeN b i)) ((i : Int) + 1) := by
  unfold g_newellaw06_OrderNumbers.k61
  rw [decN]
  by_cases h : i < b.length
  · have hg : b.getD (i : Int).toNat (0 : Int) = b[i] := by simp [h]
    have hp : placeN b i = modI b[i] := by unfold placeN; rw [dif_pos h]
    rw [decide_eq_true h, cond_true, chk_at h, hg, modI_eq, hp]
    exact place_k65 x (modI b[i]) w i (by omega) (by omega) hw rec45
  · have hp : placeN b i = 0 := by unfold placeN; rw [dif_neg h]
    rw [decide_eq_false h, cond_false, hp]
    exact place_k65 x 0 w i (by omega) (by omega) hw rec45
theorem numbers_stop (a b : List Int) (f : Nat) (w : Int) (i : Nat) (hw : w ≠ 0 ∨ 5 ≤ i) : g_newellaw06_OrderNumbers.l45 10 a b (f + 1) w (i : Int) = g_newellaw06_OrderNumbers.k45 10 a b w := by
  unfold g_newellaw06_OrderNumbers.l45 g_newellaw06_OrderNumbers.l45b
  by_cases h5 : i < 5
  · have hw : w ≠ 0 := by omega
    rw [show decide ((i : Int) < 5) = true from decide_eq_true (by omega), cond_true, show (w == 0) = false by simpa using hw, cond_false]
  · rw [show decide ((i : Int) < 5) = false from decide_eq_false (by omega), cond_false]
theorem numbers_main (a b : List Int) : ∀ (f i n : Nat), i + n = 5 → n < f → g_newellaw06_OrderNumbers.l45 10 a b (f + 1) 0 (i : Int) = g_newellaw06_OrderNumbers.k45 10 a b (seqFrom ((numsOf a).map numW) ((numsOf b).map numW) n i)
  | f, i, 0, h1, h2 => numbers_stop a b f 0 i (.inr (by omega))
  | 0, i, n + 1, h1, h2 => by omega
  | f + 1, i, n + 1, h1, h2 => by
    have hi : i < 5 := by omega
    have step : g_newellaw06_OrderNumbers.l45 10 a b (f + 1 + 1) 0 (i : Int) = g_newellaw06_OrderNumbers.l45 10 a b (f + 1) (cmpI (placeN a i) (placeN b i)) (((i + 1 : Nat) : Int)) := by
      show g_newellaw06_OrderNumbers.l45b 10 a b (g_newellaw06_OrderNumbers.l45 10 a b (f + 1)) 0 (i : Int) = _
      unfold g_newellaw06_OrderNumbers.l45b
      rw [show decide ((i : Int) < 5) = true from decide_eq_true (by omega), cond_true, show ((0 : Int) == 0) = true from rfl, cond_true, decN]
      by_cases h : i < a.length
      · have hg : a.getD (i : Int).toNat (0 : Int) = a[i] := by simp [h]
        have hp : placeN a i = modI a[i] := by unfold placeN; rw [dif_pos h]
        rw [decide_eq_true h, cond_true, chk_at h, hg, modI_eq, hp]
        exact place_k61 b (modI a[i]) i 0 hi rfl _
      · have hp : placeN a i = 0 := by unfold placeN; rw [dif_neg h]
        rw [decide_eq_false h, cond_false, hp]
        exact place_k61 b 0 i 0 hi rfl _
    have hs : wordCmp (atW ((numsOf a).map numW) i) (atW ((numsOf b).map numW) i) = cmpI (placeN a i) (placeN b i) := by
      rw [at_place a i hi, at_place b i hi]
      exact num_cmp _ _ (by have := placeN_lt a i; omega) (by have := placeN_lt b i; omega)
    rw [step]
    unfold seqFrom
    rw [hs]
    by_cases hc : cmpI (placeN a i : Int) (placeN b i) = 0
    · rw [if_neg (by omega), hc]
      exact numbers_main a b f (i + 1) n (by omega) (by omega)
    · rw [if_pos hc]
      exact numbers_stop a b f _ (i + 1) (.inl hc)
theorem orderNumbers_eq (a b : List Int) (ha : a.length ≤ 4194304) (hb : b.length ≤ 4194304) : g_newellaw06_OrderNumbers 10 a b = some true := by
  have := numbers_main a b 9 0 5 rfl (by omega)
  exact Eq.trans this (numbers_k45 a b ha hb _ rfl)
theorem OrderNumbers_impl (a b : List Int) (_ : a.length ≤ maxLen ∧ ∀ s ∈ a, isInt s) (_ : b.length ≤ maxLen ∧ ∀ s ∈ b, isInt s) (h : (a.map (fun _ => 1)).sum + 1 + ((b.map (fun _ => 1)).sum + 1) ≤ 1048576) :
    Impl Tryd.prog 4 [.one (.tl Int 1 encInt (0 : Int) a), .one (.tl Int 1 encInt (0 : Int) b)] [.one (.sc (.bool true))] := by
  have e : ∀ l : List Int, (l.map (fun _ => 1)).sum = l.length := fun l => by induction l with
    | nil => rfl
    | cons x r ih => simp only [List.map_cons, List.sum_cons, List.length_cons]; omega
  rw [e, e] at h
  exact g_newellaw06_OrderNumbers.ok 10 a b true (orderNumbers_eq a b (by omega) (by omega))
end Go.Proofs.Nw.K
end
