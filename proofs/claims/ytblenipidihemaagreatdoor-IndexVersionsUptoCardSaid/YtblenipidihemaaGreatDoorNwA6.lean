/- Bundle 6: NwZ2, NwZ3, NwZ4, NwK21, NwK22, NwZ5, NwZ6. -/
import Derived.Test.YtblenipidihemaaGreatDoorNwA5
section
/- Q2: without noughts ahead; one word, and a list of words, held against another one. -/
open Go Go.RowKit Go.Proofs
set_option linter.unusedVariables false
set_option linter.unusedSimpArgs false
namespace Go.Proofs.Nw.K

/-- how many noughts stand ahead -/
def zerosL : List UInt8 → Nat
  | b :: r => if b = 48 then zerosL r + 1 else 0
  | [] => 0
def trim0 (s : Str) : Str := ⟨(s.data.toList.drop (zerosL s.data.toList)).toArray⟩

theorem zerosL_le : ∀ l : List UInt8, zerosL l ≤ l.length
  | [] => Nat.le_refl _
  | b :: r => by
    have := zerosL_le r
    unfold zerosL
    split <;> simp <;> omega
theorem zerosL_get : ∀ (l : List UInt8) (i : Nat) (h : i < l.length), i < zerosL l → l[i] = 48
  | [], i, h, _ => by simp at h
  | b :: r, i, h, hz => by
    unfold zerosL at hz
    split at hz
    · rename_i e
      cases i with
      | zero => exact e
      | succ i => simpa using zerosL_get r i (by simpa using h) (by omega)
    · omega
theorem zerosL_stop : ∀ (l : List UInt8) (h : zerosL l < l.length), l[zerosL l] ≠ 48
  | [], h => by simp at h
  | b :: r, h => by
    by_cases e : b = 48
    · have hz : zerosL (b :: r) = zerosL r + 1 := by simp [zerosL, e]
      have h2 : zerosL r < r.length := by rw [hz] at h; simpa using h
      have := zerosL_stop r h2
      simp only [hz, List.getElem_cons_succ]
      exact this
    · have hz : zerosL (b :: r) = 0 := by simp [zerosL, e]
      simp only [hz, List.getElem_cons_zero]
      exact e

theorem str_drop (s : Str) (i : Nat) (h : i < s.size) : (s.extract i s.size).extract 1 (s.extract i s.size).size = s.extract (i + 1) s.size := by
  have h1 : (s.extract i s.size).size = s.size - i := by simp
  rw [h1, ByteArray.extract_extract]
  congr 1
  omega

theorem extract_eq (s : Str) (i : Nat) (t : Str) (h : t.data.toList = s.data.toList.drop i) : s.extract i s.size = t := by
  apply str_ext
  rw [h, str_size]
  simp only [ByteArray.data_extract, Array.toList_extract, List.extract_eq_take_drop]
  rw [List.take_of_length_le]
  simp

theorem byteAt_lt (s : Str) (n : Nat) (h : n < s.data.toList.length) : byteAt s n = (s.data.toList[n].toNat : Int) := by
  have h2 : n < s.data.size := by simpa using h
  simp only [byteAt, bt, Array.getElem?_eq_getElem h2, Option.getD_some, Array.getElem_toList]

theorem u8_eq {a b : UInt8} (h : (a.toNat : Int) = b.toNat) : a = b := UInt8.toNat_inj.1 (by omega)

theorem trimLeftByte_impl (s : Str) (hs : s.size ≤ maxLen) : Impl Tryz.prog 141 [.one (dstr s), .one (dbyte 48)] [.one (dstr (trim0 s))] := by
  simp only [maxLen] at hs
  have hsz : s.size = s.data.toList.length := str_size s
  refine impl_vc tabOk Tryz.func141 rfl rfl (by exact Nat.le_of_ble_eq_true rfl) (vc_sound tabOk (by kernel_rfl) ?_)
  refine WP_loop (α := {i : Nat // i ≤ zerosL s.data.toList}) (fun i => ofL [(0, .str (s.extract i.1 s.size)), (1, .byte 48), (4, .str emp)]) (fun _ => []) (fun i => zerosL s.data.toList - i.1) ⟨0, Nat.zero_le _⟩ ?_ ?_
  · refine Sub.ofL _ _ (Nat.le_refl _) ⟨?_, rfl, rfl, rfl, rfl, rfl, trivial⟩ rfl rfl
    show AV.str s = AV.str (s.extract 0 s.size)
    congr 3
    exact (ByteArray.extract_zero_size).symm
  rintro ⟨i, hi⟩
  have hz := zerosL_le s.data.toList
  refine vc_sound tabOk (by kernel_rfl) ?_
  have hes : (s.extract i s.size).size = s.size - i := by simp
  have hb0 : ∀ h : i < s.data.toList.length, byteAt (s.extract i s.size) 0 = (s.data.toList[i].toNat : Int) := fun h => by
    have h2 : i < s.data.size := by simpa using h
    rw [byteAt_lt _ 0 (by rw [← str_size, hes]; omega)]
    congr 2
    simp
  refine And.intro rfl ?_
  cases hc : decide (((s.extract i s.size).size : Int) > 0) with
  | false =>
    have h0 : ¬ (((s.extract i s.size).size : Int) > 0) := of_decide_eq_false hc
    rw [hes] at h0
    apply And.intro
    · exact ltb rfl
    refine And.intro (fun h => by cases h) (fun _ => ?_)
    apply And.intro
    · exact ltb rfl
    refine And.intro (fun h => by cases h) (fun _ => ?_)
    apply And.intro
    · exact ltb rfl
    refine And.intro (fun h => by cases h) (fun _ => ?_)
    apply And.intro
    · exact ltb rfl
    refine And.intro (fun h => by cases h) (fun _ => ?_)
    refine And.intro (fun h => by cases h) (fun _ => ?_)
    refine And.intro (fun h => by cases h) (fun _ => ?_)
    refine And.intro (DLe.of_eq ?_) trivial
    show DV.one (dstr (s.extract i s.size)) = DV.one (dstr (trim0 s))
    have hiz : i = zerosL s.data.toList := by omega
    congr 2
    exact extract_eq s i (trim0 s) (by rw [hiz]; rfl)
  | true =>
    have h0 : ((s.extract i s.size).size : Int) > 0 := of_decide_eq_true hc
    rw [hes] at h0
    have hil : i < s.data.toList.length := by omega
    have hb := hb0 hil
    apply And.intro
    · exact ltb rfl
    refine And.intro (fun _ => ?_) (fun h => absurd rfl h)
    apply And.intro
    · exact ltb rfl
    refine And.intro (fun _ => And.intro rfl (And.intro (Int.le_refl _) (And.intro (by show (0 : Int) < ((s.extract i s.size).size : Int); omega) ?_))) (fun h => absurd rfl h)
    apply And.intro
    · exact ltb rfl
    refine And.intro (fun _ => ?_) (fun h => absurd rfl h)
    apply And.intro
    · exact ltb rfl
    refine And.intro (fun _ => And.intro rfl ?_) (fun h => absurd rfl h)
    refine And.intro (fun _ => ?_) (fun h => by cases h)
    refine And.intro (fun h => ?_) (fun h => ?_)
    · have h : (byteAt (s.extract i s.size) 0 == 48) = true := h
      rw [hb] at h
      have he : s.data.toList[i] = 48 := u8_eq (b := 48) (by simpa using h)
      have hlt : i < zerosL s.data.toList := by
        refine Nat.lt_of_le_of_ne hi (fun e => ?_)
        have := zerosL_stop s.data.toList (by omega)
        simp only [← e] at this
        exact this he
      refine And.intro rfl ?_
      refine And.intro (by decide) (And.intro (by show 1 ≤ (s.extract i s.size).size; omega) (And.intro (Nat.le_refl _) ?_))
      refine ⟨⟨i + 1, hlt⟩, by show zerosL s.data.toList - (i + 1) < zerosL s.data.toList - i; omega, Sub.ofL _ _ (Nat.le_refl _) ⟨?_, rfl, rfl, rfl, rfl, rfl, trivial⟩ rfl rfl⟩
      show AV.str ((s.extract i s.size).extract 1 (s.extract i s.size).size) = AV.str (s.extract (i + 1) s.size)
      rw [str_drop s i (by omega)]
    · have h : (byteAt (s.extract i s.size) 0 == 48) = false := h
      rw [hb] at h
      refine And.intro (DLe.of_eq ?_) trivial
      show DV.one (dstr (s.extract i s.size)) = DV.one (dstr (trim0 s))
      have hiz : i = zerosL s.data.toList := by
        refine Nat.le_antisymm hi (Nat.le_of_not_lt fun hlt => ?_)
        have := zerosL_get s.data.toList i hil hlt
        rw [this] at h
        cases h
      congr 2
      exact extract_eq s i (trim0 s) (by rw [hiz]; rfl)

theorem TrimLeft_impl (s : Str) (hs : s.size ≤ maxLen) : Impl Tryz.prog 132 [.one (dstr s), .one (dstr ⟨#[48]⟩)] [.one (dstr (trim0 s))] := by
  refine impl_vc tabOk Tryz.func132 rfl rfl (by exact Nat.le_of_ble_eq_true rfl) (vc_sound tabOk (by kernel_rfl) ?_)
  cases hc : (s.toList == emp.toList) with
  | true =>
    have he : s = emp := by rw [str_beq] at hc; exact of_decide_eq_true hc
    apply And.intro
    · exact ltb rfl
    refine And.intro (fun h => absurd (hc.symm.trans h) (by decide)) (fun _ => ?_)
    apply And.intro
    · exact ltb rfl
    refine And.intro (fun h => absurd (hc.symm.trans h) (by decide)) (fun _ => ?_)
    refine And.intro (fun _ => ?_) (fun h => absurd (hc.symm.trans h) (by decide))
    refine And.intro (fun _ => ?_) (fun h => by cases h)
    refine And.intro (DLe.of_eq ?_) trivial
    rw [he]; rfl
  | false =>
    apply And.intro
    · exact ltb rfl
    refine And.intro (fun _ => ?_) (fun h => absurd hc h)
    apply And.intro
    · exact ltb rfl
    refine And.intro (fun _ => ?_) (fun h => absurd hc h)
    have hc2 : ((⟨#[48]⟩ : Str).toList == emp.toList) = false := by rw [str_beq]; exact decide_eq_false (fun h => by cases h)
    refine And.intro (fun h => absurd (hc.symm.trans h) (by decide)) (fun _ => ?_)
    refine And.intro (fun h => absurd (hc2.symm.trans h) (by decide)) (fun _ => ?_)
    refine And.intro rfl ?_
    apply And.intro
    · exact ltb rfl
    refine And.intro (fun _ => ?_) (fun h => absurd rfl h)
    apply And.intro
    · exact ltb rfl
    refine And.intro (fun _ => And.intro rfl (And.intro (Int.le_refl _) (And.intro (by decide) ?_))) (fun h => absurd rfl h)
    apply And.intro
    · exact ltb rfl
    refine And.intro (fun _ => And.intro rfl ?_) (fun h => absurd rfl h)
    have hb8 : decide (byteAt (⟨#[48]⟩ : Str) 0 < 128) = true := decide_eq_true (by show ((48 : UInt8).toNat : Int) < 128; decide)
    refine And.intro (fun _ => ?_) (fun h => by cases h)
    refine And.intro (fun _ => ?_) (fun h => absurd (hb8.symm.trans h) (by decide))
    refine And.intro rfl (And.intro (Int.le_refl _) (And.intro (by decide) ?_))
    refine And.intro rfl (Or.inl (Exists.intro _ (Exists.intro _ (And.intro (trimLeftByte_impl s hs) (And.intro (AsLe.refl _) ?_)))))
    refine And.intro (DLe.of_eq ?_) trivial
    rfl

theorem at_impl (l : List Wd) (i : Int) (hl : l.length ≤ maxLen) (h0 : 0 ≤ i) : Impl Tryz.prog 111 [.one (dWds l), .one (dint i)] [.agg (encWd (atW l i.toNat))] := by
  simp only [maxLen] at hl
  refine impl_vc tabOk Tryz.func111 rfl rfl (by exact Nat.le_of_ble_eq_true rfl) (vc_sound tabOk (by kernel_rfl) ?_)
  refine And.intro rfl ?_
  refine And.intro (fun h => ?_) (fun h => ?_)
  · have h : decide (i < (l.length : Int)) = true := h
    have hlt : i < (l.length : Int) := of_decide_eq_true h
    refine And.intro rfl (And.intro h0 (And.intro hlt ?_))
    refine And.intro (Nat.le_of_ble_eq_true rfl) ?_
    refine And.intro rfl (And.intro (Nat.le_of_ble_eq_true rfl) ?_)
    refine And.intro rfl (And.intro (DLe.of_eq ?_) trivial)
    have e : atW l i.toNat = l.getD i.toNat zWd := by
      have : i.toNat < l.length := by omega
      simp [atW, List.getD, this]
    rw [e]; rfl
  · have h : decide (i < (l.length : Int)) = false := h
    have hge : ¬ i < (l.length : Int) := of_decide_eq_false h
    refine And.intro rfl (And.intro (Nat.le_of_ble_eq_true rfl) ?_)
    refine And.intro rfl (And.intro (DLe.of_eq ?_) trivial)
    rw [atW_ge (by omega)]; rfl
end Go.Proofs.Nw.K
end
section
/- Q3: one word, and a list of words, held against another one. -/
open Go Go.RowKit Go.Proofs
set_option linter.unusedVariables false
set_option linter.unusedSimpArgs false
namespace Go.Proofs.Nw.K

theorem word_impl (a b : Wd) (ha : a.text.size ≤ maxLen) (hb : b.text.size ≤ maxLen) : Impl Tryz.prog 110 [.agg (encWd a), .agg (encWd b)] [.one (dint (wordCmp a b))] := by
  refine impl_vc tabOk Tryz.func110 rfl rfl (by exact Nat.le_of_ble_eq_true rfl) (vc_sound tabOk (by kernel_rfl) ?_)
  refine And.intro rfl (Or.inl (Exists.intro _ (Exists.intro _ (And.intro (CompareI_impl a.kind b.kind) (And.intro (AsLe.refl _) ?_)))))
  refine And.intro rfl (And.intro (fun h => ?_) (fun h => ?_))
  · have h : (cmpI a.kind b.kind != 0) = true := h
    refine And.intro (DLe.of_eq ?_) trivial
    unfold wordCmp
    rw [if_pos (by simpa using h)]
  have h : (cmpI a.kind b.kind != 0) = false := h
  have h0 : ¬ cmpI a.kind b.kind ≠ 0 := by simpa using h
  refine And.intro rfl (And.intro (fun h8 => ?_) (fun h8 => ?_))
  · have h8 : (a.kind == 8) = true := h8
    refine And.intro rfl (Or.inl (Exists.intro _ (Exists.intro _ (And.intro (CompareS_impl a.text b.text) (And.intro (AsLe.refl _) ?_)))))
    refine And.intro (DLe.of_eq ?_) trivial
    unfold wordCmp
    rw [if_neg h0, if_pos (by simpa using h8)]
  have h8 : (a.kind == 8) = false := h8
  have e8 : ¬ a.kind = 8 := by simpa using h8
  have tail : ∀ h9 : a.kind = 9 ∨ a.kind = 10, wordCmp a b = orI [cmpI a.text.size b.text.size, strCmp a.text b.text] := fun h9 => by
    unfold wordCmp
    rw [if_neg h0, if_neg e8, if_pos h9]
  refine And.intro rfl (And.intro (fun h9 => ?_) (fun h9 => ?_))
  · have h9 : (a.kind == 9) = true := h9
    refine And.intro (fun _ => ?_) (fun h => absurd (h9.symm.trans h) (by decide))
    refine And.intro rfl ?_
    refine And.intro rfl ?_
    refine And.intro rfl ?_
    refine And.intro rfl ?_
    refine And.intro rfl ?_
    refine And.intro rfl ?_
    refine And.intro rfl (Or.inl (Exists.intro _ (Exists.intro _ (And.intro (CompareI_impl a.text.size b.text.size) (And.intro (AsLe.refl _) (And.intro rfl ?_))))))
    refine And.intro rfl ?_
    refine And.intro rfl ?_
    refine And.intro rfl ?_
    refine And.intro rfl ?_
    refine And.intro rfl (Or.inl (Exists.intro _ (Exists.intro _ (And.intro (CompareS_impl a.text b.text) (And.intro (AsLe.refl _) (And.intro rfl ?_))))))
    refine And.intro rfl (And.intro (by decide) (And.intro (by decide) (And.intro rfl (Or.inl (And.intro rfl ?_)))))
    refine And.intro rfl (Or.inl (Exists.intro _ (Exists.intro _ (And.intro (OrI_impl [cmpI a.text.size b.text.size, strCmp a.text b.text] (show 2 ≤ maxLen by decide)) (And.intro (And.intro (DLe.tl _ rfl) trivial) (And.intro rfl ?_))))))
    refine And.intro rfl ?_
    refine And.intro (DLe.of_eq ?_) trivial
    rw [tail (Or.inl (by simpa using h9))]
  have h9 : (a.kind == 9) = false := h9
  refine And.intro rfl (And.intro (fun h10 => ?_) (fun h10 => ?_))
  · have h10 : (a.kind == 10) = true := h10
    refine And.intro rfl ?_
    refine And.intro rfl ?_
    refine And.intro rfl ?_
    refine And.intro rfl ?_
    refine And.intro rfl ?_
    refine And.intro rfl ?_
    refine And.intro rfl (Or.inl (Exists.intro _ (Exists.intro _ (And.intro (CompareI_impl a.text.size b.text.size) (And.intro (AsLe.refl _) (And.intro rfl ?_))))))
    refine And.intro rfl ?_
    refine And.intro rfl ?_
    refine And.intro rfl ?_
    refine And.intro rfl ?_
    refine And.intro rfl (Or.inl (Exists.intro _ (Exists.intro _ (And.intro (CompareS_impl a.text b.text) (And.intro (AsLe.refl _) (And.intro rfl ?_))))))
    refine And.intro rfl (And.intro (by decide) (And.intro (by decide) (And.intro rfl (Or.inl (And.intro rfl ?_)))))
    refine And.intro rfl (Or.inl (Exists.intro _ (Exists.intro _ (And.intro (OrI_impl [cmpI a.text.size b.text.size, strCmp a.text b.text] (show 2 ≤ maxLen by decide)) (And.intro (And.intro (DLe.tl _ rfl) trivial) (And.intro rfl ?_))))))
    refine And.intro rfl ?_
    refine And.intro (DLe.of_eq ?_) trivial
    rw [tail (Or.inr (by simpa using h10))]
  have h10 : (a.kind == 10) = false := h10
  refine And.intro (DLe.of_eq ?_) trivial
  unfold wordCmp
  have e9 : ¬ (a.kind = 9 ∨ a.kind = 10) := by
    simp only [beq_eq_false_iff_ne] at h9 h10
    exact fun h => h.elim h9 h10
  rw [if_neg h0, if_neg e8, if_neg e9]

theorem atW_size {l : List Wd} (h : ∀ w ∈ l, w.text.size ≤ maxLen) (i : Nat) : (atW l i).text.size ≤ maxLen := by
  unfold atW
  rw [List.getD_eq_getElem?_getD]
  cases e : l[i]? with
  | none => exact Nat.zero_le _
  | some w => exact h w (List.mem_of_getElem? e)

theorem Words_impl (a b : List Wd) (hla : a.length ≤ 4194304) (hlb : b.length ≤ 4194304) (ha : ∀ w ∈ a, w.text.size ≤ maxLen) (hb : ∀ w ∈ b, w.text.size ≤ maxLen) :
    Impl Tryz.prog 84 [.one (dWds a), .one (dWds b)] [.one (dint (wordsCmp a b))] := by
  generalize hM : max (max a.length b.length) 1 = M
  have hma : a.length ≤ maxLen := Nat.le_trans hla (by decide)
  have hmb : b.length ≤ maxLen := Nat.le_trans hlb (by decide)
  refine impl_vc tabOk Tryz.func84 rfl rfl (by exact Nat.le_of_ble_eq_true rfl) (vc_sound tabOk (by kernel_rfl) ?_)
  refine WP_scope_cut (α := {i : Nat // i < M ∧ seqFrom a b (M - i) i = wordsCmp a b}) 0 (fun i => ofL [(0, .d (dWds a)), (1, .d (dWds b)), (4, .int 0), (5, .int (i.1 : Int))]) (fun _ => []) (fun i => M - i.1) (by rfl) ?_ (fun cut => ?_)
  rotate_left
  · refine vc_sound tabOk (by kernel_rfl) ?_
    exact cut ⟨0, by omega, by rw [← hM]; rfl⟩ _ _ (Sub.ofL _ _ (Nat.zero_le _) ⟨rfl, rfl, rfl, rfl, rfl, rfl, rfl, rfl, trivial⟩ rfl rfl)
  rintro ⟨i, hi, hs⟩
  have hstep : seqFrom a b (M - i) i = if wordCmp (atW a i) (atW b i) ≠ 0 then wordCmp (atW a i) (atW b i) else seqFrom a b (M - (i + 1)) (i + 1) := by
    rw [show M - i = (M - (i + 1)) + 1 by omega]; rfl
  have hti : ((i : Int)).toNat = i := by simp
  refine vc_sound tabOk (by kernel_rfl) ?_
  refine And.intro rfl (Or.inl (Exists.intro _ (Exists.intro _ (And.intro (at_impl a (i : Int) hma (Int.natCast_nonneg _)) (And.intro (AsLe.refl _) ?_)))))
  refine And.intro rfl (Or.inl (Exists.intro _ (Exists.intro _ (And.intro (at_impl b (i : Int) hmb (Int.natCast_nonneg _)) (And.intro (AsLe.refl _) ?_)))))
  refine And.intro rfl (Or.inl (Exists.intro _ (Exists.intro _ (And.intro (word_impl (atW a ((i : Int)).toNat) (atW b ((i : Int)).toNat) (atW_size ha _) (atW_size hb _)) (And.intro (AsLe.refl _) ?_)))))
  refine And.intro rfl (And.intro ⟨by omega, by show (i : Int) + 1 ≤ _; omega⟩ ?_)
  refine And.intro rfl ?_
  rw [hti]
  generalize wordCmp (atW a i) (atW b i) = n at *
  cases hc : (n == 0) with
  | true =>
    have hn : n = 0 := by simpa using hc
    subst hn
    rw [if_neg (by simp)] at hstep
    apply And.intro
    · exact ltb rfl
    refine And.intro (fun _ => ?_) (fun h => absurd rfl h)
    apply And.intro
    · exact ltb rfl
    refine And.intro (fun _ => ?_) (fun h => absurd rfl h)
    apply And.intro
    · exact ltb rfl
    refine And.intro (fun _ => ?_) (fun h => absurd rfl h)
    apply And.intro
    · exact ltb rfl
    refine And.intro (fun _ => ?_) (fun h => absurd rfl h)
    apply And.intro
    · exact ltb rfl
    refine And.intro (fun _ => ?_) (fun h => absurd rfl h)
    apply And.intro
    · exact ltb rfl
    refine And.intro (fun _ => And.intro rfl ?_) (fun h => absurd rfl h)
    apply And.intro
    · exact ltb rfl
    refine And.intro (fun _ => And.intro rfl ?_) (fun h => absurd rfl h)
    refine And.intro (fun _ => ?_) (fun h => by cases h)
    have hmx : (if (b.length : Int) > (a.length : Int) then (b.length : Int) else (a.length : Int)) = ((max a.length b.length : Nat) : Int) := by
      split <;> omega
    refine And.intro (fun h => ?_) (fun h => ?_)
    · have h : decide ((i : Int) + 1 < (if (b.length : Int) > (a.length : Int) then (b.length : Int) else (a.length : Int))) = true := h
      have h := of_decide_eq_true h
      rw [hmx] at h
      have hlt : i + 1 < M := by omega
      refine And.intro rfl ⟨⟨i + 1, hlt, by rw [← hstep]; exact hs⟩, by show M - (i + 1) < M - i; omega, Sub.ofL _ _ (Nat.zero_le _) ⟨rfl, rfl, rfl, rfl, rfl, rfl, rfl, rfl, trivial⟩ rfl rfl⟩
    · have h : decide ((i : Int) + 1 < (if (b.length : Int) > (a.length : Int) then (b.length : Int) else (a.length : Int))) = false := h
      have h := of_decide_eq_false h
      rw [hmx] at h
      refine And.intro (DLe.of_eq ?_) trivial
      rw [← hs, hstep, seq_nothing a b _ _ (by omega) (by omega)]
  | false =>
    have hn : n ≠ 0 := by simpa using hc
    rw [if_pos hn] at hstep
    apply And.intro
    · exact ltb rfl
    refine And.intro (fun h => by cases h) (fun _ => ?_)
    apply And.intro
    · exact ltb rfl
    refine And.intro (fun h => by cases h) (fun _ => ?_)
    apply And.intro
    · exact ltb rfl
    refine And.intro (fun h => by cases h) (fun _ => ?_)
    apply And.intro
    · exact ltb rfl
    refine And.intro (fun h => by cases h) (fun _ => ?_)
    apply And.intro
    · exact ltb rfl
    refine And.intro (fun h => by cases h) (fun _ => ?_)
    apply And.intro
    · exact ltb rfl
    refine And.intro (fun h => by cases h) (fun _ => ?_)
    apply And.intro
    · exact ltb rfl
    refine And.intro (fun h => by cases h) (fun _ => ?_)
    refine And.intro (fun h => by cases h) (fun _ => ?_)
    refine And.intro (fun h => by cases h) (fun _ => ?_)
    refine And.intro (DLe.of_eq ?_) trivial
    rw [← hs, hstep]
end Go.Proofs.Nw.K
end
section
/- Q4: a text in small letters. -/
open Go Go.RowKit Go.Proofs
set_option linter.unusedVariables false
set_option linter.unusedSimpArgs false
namespace Go.Proofs.Nw.K

def lowB (b : UInt8) : UInt8 := if 65 ≤ b.toNat ∧ b.toNat ≤ 90 then b + 32 else b
def lowI (c : Int) : Int := if 65 ≤ c ∧ c ≤ 90 then c + 32 else c
def lowerOf (s : Str) : Str := ⟨(s.data.toList.map lowB).toArray⟩
theorem lowerOf_list (s : Str) : (lowerOf s).data.toList = s.data.toList.map lowB := rfl
theorem lowerOf_size (s : Str) : (lowerOf s).size = s.size := by rw [str_size, str_size, lowerOf_list]; simp
theorem lowI_nat (b : UInt8) : lowI (b.toNat : Int) = ((lowB b).toNat : Int) := by
  unfold lowI lowB
  by_cases h : 65 ≤ b.toNat ∧ b.toNat ≤ 90
  · rw [if_pos (by omega), if_pos h]
    have : (b + 32).toNat = b.toNat + 32 := by
      rw [UInt8.toNat_add]
      show (b.toNat + 32) % 256 = _
      omega
    rw [this]; rfl
  · rw [if_neg (by omega), if_neg h]
theorem lower_back (s : Str) : (⟨(((bytesI s).map lowI).map fun n => UInt8.ofNat n.toNat).toArray⟩ : Str) = lowerOf s := by
  apply str_ext
  rw [lowerOf_list]
  simp only [bytesI, List.map_map]
  apply List.map_congr_left
  intro b _
  simp only [Function.comp, lowI_nat]
  simp

def midB (s : Str) (i : Nat) : List Int := ((bytesI s).take i).map lowI ++ (bytesI s).drop i
theorem midB_length (s : Str) (i : Nat) : (midB s i).length = s.size := by
  have := bytesI_length s
  simp [midB]; omega
theorem bytesI_get (s : Str) (i : Nat) (h2 : i < s.data.toList.length) : (bytesI s)[i]? = some (byteAt s i) := by
  rw [bytesI, List.getElem?_map, List.getElem?_eq_getElem h2, byteAt_lt s i h2]; rfl
theorem midB_get (s : Str) (i : Nat) (h : i < s.size) : (midB s i)[i]? = some (byteAt s i) := by
  have hl := bytesI_length s
  have h2 : i < s.data.toList.length := by rw [← str_size]; exact h
  rw [midB, List.getElem?_append_right (by simp; omega), List.length_map, List.length_take, Nat.min_eq_left (by omega)]
  rw [List.getElem?_drop, Nat.sub_self, Nat.add_zero]
  exact bytesI_get s i h2
theorem midB_set (s : Str) (i : Nat) (h : i < s.size) (c : Int) (hc : c = lowI (byteAt s i)) : (midB s i).set i c = midB s (i + 1) := by
  have hl := bytesI_length s
  have h2 : i < s.data.toList.length := by rw [← str_size]; exact h
  have hb := bytesI_get s i h2
  have hlen : (((bytesI s).take i).map lowI).length = i := by simp; omega
  unfold midB
  rw [List.set_append_right _ _ (by omega), hlen, Nat.sub_self]
  have hd : (bytesI s).drop i = byteAt s i :: (bytesI s).drop (i + 1) := by
    obtain ⟨h3, h4⟩ := List.getElem?_eq_some_iff.1 hb
    rw [← h4]; exact List.drop_eq_getElem_cons h3
  have ht : (bytesI s).take (i + 1) = (bytesI s).take i ++ [byteAt s i] := by
    obtain ⟨h3, h4⟩ := List.getElem?_eq_some_iff.1 hb
    rw [← h4]; exact List.take_succ_eq_append_getElem h3
  rw [hd, ht, List.set_cons_zero, List.map_append, hc]
  simp
theorem midB_stay (s : Str) (i : Nat) (h : i < s.size) (hc : lowI (byteAt s i) = byteAt s i) : midB s i = midB s (i + 1) := by
  rw [← midB_set s i h _ rfl, hc]
  have := midB_get s i h
  obtain ⟨h3, h4⟩ := List.getElem?_eq_some_iff.1 this
  rw [← h4, List.set_getElem_self]
theorem u8wrap {n : Int} (h0 : 0 ≤ n) (h1 : n < 256) : IntKind.u8.wrap n = n := by
  simp only [IntKind.wrap, IntKind.bits, IntKind.signed]
  simp
  omega

theorem Lower_impl (s : Str) (hs : s.size ≤ maxLen) : Impl Tryz.prog 113 [.one (dstr s)] [.one (dstr (lowerOf s))] := by
  simp only [maxLen] at hs
  refine impl_vc tabOk Tryz.func113 rfl rfl (by exact Nat.le_of_ble_eq_true rfl) (vc_sound tabOk (by kernel_rfl) ?_)
  refine And.intro rfl ?_
  refine WP_loop (α := {i : Nat // i ≤ s.size}) (fun i => ofL [(0, .str s), (2, .str emp), (3, .bs 0 s.size), (8, .bs 0 s.size), (9, .int (s.size : Int)), (10, .int (i.1 : Int))]) (fun i => [.brow 5 (midB s i.1)]) (fun i => s.size - i.1) ⟨0, Nat.zero_le _⟩ ?_ ?_
  · exact Sub.ofL _ _ (Nat.zero_le _) ⟨rfl, rfl, rfl, rfl, rfl, rfl, rfl, rfl, rfl, rfl, rfl, rfl, trivial⟩ rfl rfl
  rintro ⟨i, hi⟩
  refine vc_sound tabOk (by kernel_rfl) ?_
  refine And.intro rfl (And.intro (fun h => ?_) (fun h => ?_))
  rotate_left
  · have h : decide ((i : Int) < (s.size : Int)) = false := h
    obtain rfl : i = s.size := by have := of_decide_eq_false h; omega
    refine And.intro rfl (And.intro (midB_length s _).symm ?_)
    refine And.intro (DLe.of_eq ?_) trivial
    have hm : midB s s.size = (bytesI s).map lowI := by
      have := bytesI_length s
      unfold midB
      rw [List.take_of_length_le (by omega), List.drop_eq_nil_of_le (by omega), List.append_nil]
    show DV.one (dstr ⟨((midB s s.size).map fun n => UInt8.ofNat n.toNat).toArray⟩) = _
    rw [hm, lower_back]
  have h : decide ((i : Int) < (s.size : Int)) = true := h
  have hlt : i < s.size := by have := of_decide_eq_true h; omega
  have hltz : (i : Int) < (s.size : Int) := by omega
  refine And.intro (Int.natCast_nonneg _) (And.intro hltz ?_)
  refine Exists.intro (byteAt s i) (And.intro (midB_get s i hlt) ?_)
  have hb0 : 0 ≤ byteAt s i ∧ byteAt s i < 256 := by
    rw [byteAt_lt s i (by rw [← str_size]; exact hlt)]
    have := (s.data.toList[i]'(by rw [← str_size]; exact hlt)).toNat_lt
    omega
  generalize hcb : byteAt s i = c at *
  refine And.intro rfl ?_
  cases hc : decide (c ≥ 65) with
  | false =>
    have h1 := of_decide_eq_false hc
    apply And.intro
    · exact ltb rfl
    refine And.intro (fun h => by cases h) (fun _ => ?_)
    apply And.intro
    · exact ltb rfl
    refine And.intro (fun h => by cases h) (fun _ => ?_)
    refine And.intro (fun h => by cases h) (fun _ => ?_)
    refine And.intro (fun h => by cases h) (fun _ => ?_)
    refine And.intro rfl (And.intro ⟨by omega, by show (i : Int) + 1 ≤ _; omega⟩ ?_)
    refine ⟨⟨i + 1, hlt⟩, by show s.size - (i + 1) < s.size - i; omega, Sub.ofL _ _ (Nat.zero_le _) ⟨rfl, rfl, rfl, rfl, rfl, rfl, rfl, rfl, rfl, rfl, rfl, rfl, trivial⟩ ?_ rfl⟩
    rw [← midB_stay s i hlt (by rw [hcb]; unfold lowI; rw [if_neg (by omega)])]; rfl
  | true =>
    have h1 := of_decide_eq_true hc
    apply And.intro
    · exact ltb rfl
    refine And.intro (fun _ => ?_) (fun h => absurd rfl h)
    apply And.intro
    · exact ltb rfl
    refine And.intro (fun _ => And.intro rfl ?_) (fun h => absurd rfl h)
    refine And.intro (fun _ => ?_) (fun h => by cases h)
    refine And.intro (fun h => ?_) (fun h => ?_)
    · have h : decide (c ≤ 90) = true := h
      have h2 := of_decide_eq_true h
      refine And.intro rfl ?_
      refine And.intro rfl ?_
      refine And.intro (Int.natCast_nonneg _) (And.intro hltz ?_)
      have hw : IntKind.u8.wrap (IntKind.u8.wrap (c - 65) + 97) = c + 32 := by
        rw [u8wrap (n := c - 65) (by omega) (by omega), u8wrap (by omega) (by omega)]
        omega
      refine Exists.intro _ (And.intro rfl (And.intro (by show i < (midB s i).length; rw [midB_length]; exact hlt) ?_))
      refine And.intro rfl (And.intro ⟨by omega, by show (i : Int) + 1 ≤ _; omega⟩ ?_)
      refine ⟨⟨i + 1, hlt⟩, by show s.size - (i + 1) < s.size - i; omega, Sub.ofL _ _ (Nat.zero_le _) ⟨rfl, rfl, rfl, rfl, rfl, rfl, rfl, rfl, rfl, rfl, rfl, rfl, trivial⟩ ?_ rfl⟩
      show [AO.brow 5 ((midB s i).set i (IntKind.u8.wrap (IntKind.u8.wrap (c - 65) + 97)))] = _
      rw [hw, midB_set s i hlt _ (by rw [hcb]; unfold lowI; rw [if_pos (by omega)])]
    · have h : decide (c ≤ 90) = false := h
      have h2 := of_decide_eq_false h
      refine And.intro rfl (And.intro ⟨by omega, by show (i : Int) + 1 ≤ _; omega⟩ ?_)
      refine ⟨⟨i + 1, hlt⟩, by show s.size - (i + 1) < s.size - i; omega, Sub.ofL _ _ (Nat.zero_le _) ⟨rfl, rfl, rfl, rfl, rfl, rfl, rfl, rfl, rfl, rfl, rfl, rfl, trivial⟩ ?_ rfl⟩
      rw [← midB_stay s i hlt (by rw [hcb]; unfold lowI; rw [if_neg (by omega)])]; rfl
end Go.Proofs.Nw.K
end
section
/- K21: regions whose order is open and that end with operations that come after all others: these may turn own things. -/
open Go Go.RowKit
set_option linter.unusedVariables false
set_option linter.unusedSimpArgs false
namespace Go.Proofs.Nw.K

/-- what stands, step by step, ahead of these -/
def downS (md : Region.Mode) (ops : List Oper) : Nat → List Nat → List Nat
  | 0, S => S
  | k + 1, S => downS md ops k (match S.contains k with
    | true => (match ops[k]? with
      | some o => ((o.after.toList.filter (Region.binds md)).map (·.on)) ++ S
      | none => S)
    | false => S)

/-- all earlier ones stand ahead of this one -/
def soloAt (md : Region.Mode) (ops : List Oper) (j : Nat) : Bool :=
  match ops[j]? with
  | some o => let S := downS md ops j ((o.after.toList.filter (Region.binds md)).map (·.on)); (List.range j).all S.contains
  | none => true

def backAt (md : Region.Mode) (ops : List Oper) (j : Nat) : Bool :=
  match ops[j]? with
  | some o => (o.after.toList.filter (Region.binds md)).all fun e => decide (e.on < j)
  | none => true

def splitB (N : Fm) (m : Nat) (ops : Array Oper) : Bool :=
  ops.all (fun o => match o.dst with | some d => decide (d < N.n) | none => true) && Region.lexB .any (ops.toList.take m).toArray &&
    decide (m ≤ ops.size) && (List.range ops.size).all (backAt .any ops.toList) && ((List.range ops.size).drop m).all (soloAt .any ops.toList)

section
variable {P : Program} {N : Fm} {md : Region.Mode}

def Closed (md : Region.Mode) (l : List Oper) (listed : Array Bool) : Prop :=
  ∀ (i : Nat) (o : Oper), l[i]? = some o → listed.getD i false = true → ∀ e ∈ o.after, Region.binds md e = true → listed.getD e.on false = true

theorem downS_sound {l : List Oper} {listed : Array Bool} (hc : Closed md l listed) : ∀ (k : Nat) (S : List Nat), (∀ x ∈ S, listed.getD x false = true) → ∀ x ∈ downS md l k S, listed.getD x false = true
  | 0, S, h, x, hx => h x hx
  | k + 1, S, h, x, hx => by
    refine downS_sound hc k _ ?_ x hx
    intro y hy
    split at hy
    · rename_i hk
      split at hy
      · rename_i o ho
        rcases List.mem_append.1 hy with h1 | h1
        · obtain ⟨e, he, rfl⟩ := List.mem_map.1 h1
          obtain ⟨he1, he2⟩ := List.mem_filter.1 he
          exact hc k o ho (h k (by simpa using hk)) e (by simpa using he1) he2
        · exact h y h1
      · exact h y hy
    · exact h y hy

theorem solo_all {l : List Oper} {listed : Array Bool} (hc : Closed md l listed) {j : Nat} {o : Oper} (ho : l[j]? = some o) (hs : soloAt md l j = true)
    (ha : ∀ e ∈ o.after, Region.binds md e = true → listed.getD e.on false = true) : ∀ i, i < j → listed.getD i false = true := by
  intro i hi
  unfold soloAt at hs
  simp only [ho] at hs
  have := List.all_eq_true.1 hs i (List.mem_range.2 hi)
  refine downS_sound hc j _ ?_ i (by simpa using this)
  intro x hx
  obtain ⟨e, he, rfl⟩ := List.mem_map.1 hx
  obtain ⟨he1, he2⟩ := List.mem_filter.1 he
  exact ha e (by simpa using he1) he2

theorem closed_set {l : List Oper} {listed : Array Bool} (hc : Closed md l listed) {i : Nat} (hi : i ∈ Region.ready md l.toArray listed) : Closed md l (listed.setIfInBounds i true) := by
  obtain ⟨h0, o, ho, hall⟩ := mem_ready.1 hi
  intro j oj hoj hj e he hb
  refine getD_set_true ?_
  by_cases hij : i = j
  · subst hij
    have : o = oj := by
      have h1 : l[i]? = some o := by simpa using ho
      rw [h1] at hoj; exact Option.some.inj hoj
    subst this
    exact hall e he hb
  · refine hc j oj hoj ?_ e he hb
    simpa [Array.getElem?_setIfInBounds_ne hij] using hj

theorem WQ_mono {ops : Array Oper} {st : List AO} {K K' : Env → Prop} (hk : ∀ e, K e → K' e) : ∀ {l : List Oper} {env : Env}, WQ P N ops st K l env → WQ P N ops st K' l env
  | [], _, h => hk _ h
  | _ :: _, _, ⟨v, hy, h⟩ => ⟨v, hy, WQ_mono hk h⟩

/-- operations one by one, the last ones -/
def GQ (P : Program) (N : Fm) (ops : Array Oper) : List Oper → Env → List AO → (Env → List AO → Prop) → Prop
  | [], env, st, K => K env st
  | o :: rest, env, st, K => (∀ d, o.dst = some d → d < N.n) ∧ ((guardE (N := N) ops o env true ∧ OpN P o.op (evalE env) st fun v st' => GQ P N ops rest (updO env o.dst v) st' K) ∨
      (guardE (N := N) ops o env false ∧ GQ P N ops rest (updO env o.dst (.tup [])) st K))

theorem list_getD_unlisted {listed : Array Bool} {i : Nat} (h : listed.getD i true = false) : listed.getD i false = false := by
  simp only [Array.getD_eq_getD_getElem?] at *
  cases hx : listed[i]? with
  | none => rfl
  | some b => simpa [hx] using h

theorem runB {l : List Oper} {w0 : World} {σ0 : Sig} {I : Ini} {Q' : Exit → Act → World → Prop} {K : Env → List AO → Prop}
    (hQ : ∀ env st a w, Rel N w0 σ0 I env st a w → K env st → Q' .normal a w)
    (hback : ∀ j, j < l.length → backAt md l j = true) :
    ∀ (r : List Oper) (k f : Nat) (listed : Array Bool) (env : Env) (st : List AO) (a : Act) (w : World), (∀ j, r[j]? = l[k + j]?) → (∀ j, k ≤ j → j < l.length → soloAt md l j = true) → r.length ≤ f → listed.size = l.length → Closed md l listed →
      (∀ i, i < k → listed.getD i false = true) → (∀ i, k ≤ i → i < l.length → listed.getD i true = false) → k ≤ l.length →
      Rel N w0 σ0 I env st a w → GQ P N l.toArray r env st K → wpAny P md l.toArray Q' f listed a w
  | [], k, f, listed, env, st, a, w, hr, hs, hf, hsz, hc, hl, hu, hkl, hrel, h => by
    have hkn : l.length ≤ k := by
      have := (hr 0).symm
      simp only [List.getElem?_nil, Nat.add_zero, List.getElem?_eq_none_iff] at this
      exact this
    have h0 : Region.ready md l.toArray listed = [] := by
      refine List.eq_nil_iff_forall_not_mem.2 fun i hi => ?_
      obtain ⟨h1, o, ho, _⟩ := mem_ready.1 hi
      have hil : i < l.length := by
        have : l[i]? = some o := by simpa using ho
        exact (List.getElem?_eq_some_iff.1 this).1
      have := hl i (by omega)
      rw [list_getD_unlisted h1] at this
      cases this
    cases f with
    | zero => exact ⟨h0, hQ _ _ _ _ hrel h⟩
    | succ f => exact ⟨fun _ => hQ _ _ _ _ hrel h, fun i hi => by rw [h0] at hi; cases hi⟩
  | o :: r, k, f, listed, env, st, a, w, hr, hs, hf, hsz, hc, hl, hu, hkl, hrel, h => by
    have hok : l[k]? = some o := by simpa using (hr 0).symm
    have hklt : k < l.length := (List.getElem?_eq_some_iff.1 hok).1
    cases f with
    | zero => simp at hf
    | succ f =>
      have hkr : k ∈ Region.ready md l.toArray listed := mem_ready.2 ⟨hu k (Nat.le_refl _) hklt, o, by simpa using hok, fun e he hb => hl e.on (by
        have := hback k hklt
        unfold backAt at this
        simp only [hok, List.all_eq_true, List.mem_filter, decide_eq_true_eq] at this
        exact this e ⟨by simpa using he, hb⟩)⟩
      refine ⟨fun h0 => (by rw [h0] at hkr; cases hkr), fun i hi => ?_⟩
      obtain ⟨hi0, oi, hoi, hai⟩ := mem_ready.1 hi
      have hoi' : l[i]? = some oi := by simpa using hoi
      have hilt : i < l.length := (List.getElem?_eq_some_iff.1 hoi').1
      have hik : i = k := by
        by_cases hlt : i < k
        · have := hl i hlt
          rw [list_getD_unlisted hi0] at this
          cases this
        · by_cases hgt : k < i
          · have := solo_all hc hoi' (hs i (by omega) hilt) hai k hgt
            rw [list_getD_unlisted (hu k (Nat.le_refl _) hklt)] at this
            cases this
          · omega
      subst hik
      have next : ∀ (env' : Env) (st' : List AO) (a' : Act) (w' : World), Rel N w0 σ0 I env' st' a' w' → GQ P N l.toArray r env' st' K → wpAny P md l.toArray Q' f (listed.setIfInBounds i true) a' w' := fun env' st' a' w' hrel' h' => by
        refine runB hQ hback r (i + 1) f _ env' st' a' w' (fun j => by have := hr (j + 1); simpa [Nat.add_assoc, Nat.add_comm 1 j] using this) (fun j h1 h2 => hs j (by omega) h2) (by simp at hf; omega) (by simpa using hsz) (closed_set hc hi) ?_ ?_ hklt hrel' h'
        · intro j hj
          by_cases hji : i = j
          · subst hji
            have : i < listed.size := by omega
            simp [Array.getD_eq_getD_getElem?, this]
          · have := hl j (by omega)
            simpa [Array.getElem?_setIfInBounds_ne hji] using this
        · intro j h1 h2
          rw [getD_set_ne true (by omega)]
          exact hu j (by omega) h2
      obtain ⟨hd, hy⟩ := h
      unfold wpOp
      have hoa : l.toArray[i]? = some o := by simpa using hok
      simp only [hoa]
      rcases hy with ⟨hg, ho⟩ | ⟨hg, h'⟩
      · rw [guard_wanted hg hrel]
        simp only [if_true]
        exact .inl (op_wpN ho hd hrel fun v st' a' w' hV hrel' => next _ _ _ _ hrel' hV)
      · rw [guard_wanted hg hrel]
        simp only [Bool.false_eq_true, if_false]
        obtain ⟨g1, g2, hI, σ, gh, hbase, hk0, he⟩ := hrel
        exact next _ _ _ _ (rel_put g1 g2 hI hk0 hbase he o.dst hd (v := .tup []) ⟨[], rfl, by simp [RepVs]⟩) h'

theorem guardE_more {ops ops' : Array Oper} {o : Oper} {env : Env} {b : Bool} (hm : ∀ (j : Nat) (oj : Oper), ops[j]? = some oj → ops'[j]? = some oj) (h : guardE (N := N) ops o env b) : guardE (N := N) ops' o env b := by
  unfold guardE at *
  cases hg : o.guard with
  | none => simp only [hg] at h ⊢; exact h
  | some g =>
    obtain ⟨j, want⟩ := g
    simp only [hg] at h ⊢
    obtain ⟨oj, d, c, h1, h2⟩ := h
    exact ⟨oj, d, c, hm j oj h1, h2⟩

theorem eOp_more {ops ops' : Array Oper} {st : List AO} {i : Nat} {K : Env → Prop} {env : Env} (hm : ∀ (j : Nat) (oj : Oper), ops[j]? = some oj → ops'[j]? = some oj) (hi : ops[i]? ≠ none) (h : eOp P N ops st i K env) : eOp P N ops' st i K env := by
  unfold eOp at *
  cases ho : ops[i]? with
  | none => exact absurd ho hi
  | some o =>
    rw [hm i o ho]
    simp only [ho] at h
    obtain ⟨v, ⟨h1, h2⟩, h3⟩ := h
    refine ⟨v, ⟨h1, ?_⟩, h3⟩
    rcases h2 with ⟨g, h2⟩ | ⟨g, h2⟩
    · exact .inl ⟨guardE_more hm g, h2⟩
    · exact .inr ⟨guardE_more hm g, h2⟩

theorem exists_least {p : Nat → Prop} [DecidablePred p] : ∀ (m : Nat), (∃ i, i < m ∧ p i) → ∃ i, i < m ∧ p i ∧ ∀ j, j < i → ¬ p j
  | 0, ⟨i, h, _⟩ => absurd h (Nat.not_lt_zero _)
  | m + 1, ⟨i, h, hp⟩ => by
    by_cases he : ∃ i, i < m ∧ p i
    · obtain ⟨j, h1, h2⟩ := exists_least m he
      exact ⟨j, by omega, h2⟩
    · refine ⟨i, h, hp, fun j hj hpj => he ⟨j, by omega, hpj⟩⟩

theorem runA {l : List Oper} {m : Nat} {st : List AO} {w0 : World} {σ0 : Sig} {I : Ini} {Q' : Exit → Act → World → Prop} {K : Env → Prop} (hm : m ≤ l.length)
    (hB : ∀ (f : Nat) (listed : Array Bool) (env : Env) (a : Act) (w : World), l.length - m ≤ f → listed.size = l.length → Closed md l listed → (∀ i, i < m → listed.getD i false = true) → (∀ i, m ≤ i → i < l.length → listed.getD i true = false) →
      Rel N w0 σ0 I env st a w → K env → wpAny P md l.toArray Q' f listed a w)
    (hback : ∀ j, j < l.length → backAt md l j = true) (hs : ∀ j, m ≤ j → j < l.length → soloAt md l j = true) :
    ∀ (f : Nat) (listed lA : Array Bool) (env : Env) (a : Act) (w : World), listed.size = l.length → lA.size = m → (∀ i, i < m → listed[i]? = lA[i]?) → (∀ i, m ≤ i → i < l.length → listed.getD i true = false) → Closed md l listed →
      Rel N w0 σ0 I env st a w → wpAnyE P N md (l.take m).toArray st K f lA env → wpAny P md l.toArray Q' (f + (l.length - m)) listed a w := by
  intro f
  induction f with
  | zero =>
    intro listed lA env a w hsz hszA heq hu hc hrel h
    by_cases hall : ∃ i, i < m ∧ listed.getD i false = false
    · obtain ⟨i, h1, h2, h3⟩ := exists_least m hall
      exfalso
      have : i ∈ Region.ready md (l.take m).toArray lA := by
        refine mem_ready.2 ⟨?_, l[i]'(by omega), ?_, ?_⟩
        · have := heq i h1
          simp only [Array.getD_eq_getD_getElem?] at *
          rw [← this]
          have hi : i < listed.size := by omega
          simp only [Array.getElem?_eq_getElem hi, Option.getD_some] at *
          exact h2
        · have : (l.take m)[i]? = some (l[i]'(by omega)) := by rw [List.getElem?_take_of_lt h1]; exact List.getElem?_eq_getElem _
          simpa using this
        · intro e he hb
          have hlt : e.on < i := by
            have := hback i (by omega)
            unfold backAt at this
            simp only [List.getElem?_eq_getElem (show i < l.length by omega), List.all_eq_true, List.mem_filter, decide_eq_true_eq] at this
            exact this e ⟨by simpa using he, hb⟩
          have h4 := h3 e.on hlt
          simp only [Array.getD_eq_getD_getElem?] at *
          rw [← heq e.on (by omega)]
          simpa using h4
      rw [h.1] at this
      cases this
    · exact hB _ _ _ _ _ (by omega) hsz hc (fun i hi => by
        cases hx : listed.getD i false with
        | true => rfl
        | false => exact absurd ⟨i, hi, hx⟩ hall) hu hrel h.2
  | succ f ih =>
    intro listed lA env a w hsz hszA heq hu hc hrel h
    by_cases hall : ∃ i, i < m ∧ listed.getD i false = false
    · obtain ⟨i0, h1, h2, h3⟩ := exists_least m hall
      have hi0 : i0 ∈ Region.ready md l.toArray listed := by
        refine mem_ready.2 ⟨?_, l[i0]'(by omega), by simp, ?_⟩
        · have hi : i0 < listed.size := by omega
          simp only [Array.getD_eq_getD_getElem?, Array.getElem?_eq_getElem hi, Option.getD_some] at *
          exact h2
        · intro e he hb
          have hlt : e.on < i0 := by
            have := hback i0 (by omega)
            unfold backAt at this
            simp only [List.getElem?_eq_getElem (show i0 < l.length by omega), List.all_eq_true, List.mem_filter, decide_eq_true_eq] at this
            exact this e ⟨by simpa using he, hb⟩
          simpa using h3 e.on hlt
      rw [Nat.succ_add]
      refine ⟨fun h0 => (by rw [h0] at hi0; cases hi0), fun i hi => ?_⟩
      obtain ⟨hin, oi, hoi, hai⟩ := mem_ready.1 hi
      have hoi' : l[i]? = some oi := by simpa using hoi
      have hilt : i < l.length := (List.getElem?_eq_some_iff.1 hoi').1
      have him : i < m := by
        by_cases hge : m ≤ i
        · have := solo_all hc hoi' (hs i hge hilt) hai i0 (by omega)
          rw [h2] at this
          cases this
        · omega
      have htk : (l.take m)[i]? = some oi := by rw [List.getElem?_take_of_lt him]; exact hoi'
      have hiA : i ∈ Region.ready md (l.take m).toArray lA := by
        refine mem_ready.2 ⟨?_, oi, by simpa using htk, ?_⟩
        · simp only [Array.getD_eq_getD_getElem?] at *
          rw [← heq i him]; exact hin
        · intro e he hb
          have hlt : e.on < i := by
            have := hback i hilt
            unfold backAt at this
            simp only [hoi', List.all_eq_true, List.mem_filter, decide_eq_true_eq] at this
            exact this e ⟨by simpa using he, hb⟩
          have := hai e he hb
          simp only [Array.getD_eq_getD_getElem?] at *
          rw [← heq e.on (by omega)]; exact this
      have hE := eOp_more (ops' := l.toArray) (fun j oj hj => by
        have hj' : (l.take m)[j]? = some oj := by simpa using hj
        have hjm : j < (l.take m).length := (List.getElem?_eq_some_iff.1 hj').1
        rw [List.getElem?_take_of_lt (by rw [List.length_take] at hjm; omega)] at hj'
        simpa using hj') (by rw [List.getElem?_toArray, htk]; simp) (h.2 i hiA)
      refine wpOp_of_eOp hrel (fun env' a' w' hrel' hK' => ?_) hE
      refine ih (listed.setIfInBounds i true) (lA.setIfInBounds i true) env' a' w' (by simpa using hsz) (by simpa using hszA) ?_ ?_ (closed_set hc hi) hrel' hK'
      · intro j hj
        simp only [Array.getElem?_setIfInBounds, heq j hj, hsz, hszA]
        by_cases hij : i = j
        · subst hij; simp [hilt, him]
        · simp [hij]
      · intro j hj1 hj2
        rw [getD_set_ne true (by omega)]
        exact hu j hj1 hj2
    · have hrA : Region.ready md (l.take m).toArray lA = [] := by
        refine List.eq_nil_iff_forall_not_mem.2 fun i hi => ?_
        obtain ⟨hx, o, ho, _⟩ := mem_ready.1 hi
        have ho' : (l.take m)[i]? = some o := by simpa using ho
        have him : i < m := by have := (List.getElem?_eq_some_iff.1 ho').1; rw [List.length_take] at this; omega
        refine hall ⟨i, him, ?_⟩
        have := list_getD_unlisted hx
        simp only [Array.getD_eq_getD_getElem?] at *
        rw [heq i him]; exact this
      exact hB _ _ _ _ _ (by omega) hsz hc (fun i hi => by
        cases hx : listed.getD i false with
        | true => rfl
        | false => exact absurd ⟨i, hi, hx⟩ hall) hu hrel (h.1 hrA)

theorem WP_draw2 {env : Env} {st : List AO} {Q : Post} {id : Nat} {l : List Oper} (m : Nat) (hmx : P.follows .mixedOrders = true) (hB : splitB N m l.toArray = true)
    (h : WQ P N (l.take m).toArray st (fun env => GQ P N l.toArray (l.drop m) env st (Q .normal)) (l.take m) env) : WP P N (.region id l.toArray true) env st Q := by
  intro w0 σ0 I a w hr
  simp only [splitB, Bool.and_eq_true, decide_eq_true_eq, List.all_eq_true] at hB
  obtain ⟨⟨⟨⟨hdst, hlex⟩, hm⟩, hback⟩, hsolo⟩ := hB
  have hm' : m ≤ l.length := by simpa using hm
  have hbk : ∀ j, j < l.length → backAt .any l j = true := fun j hj => by simpa using hback j (by simpa using hj)
  have hsl : ∀ j, m ≤ j → j < l.length → soloAt .any l j = true := fun j h1 h2 => by
    refine hsolo j ?_
    rw [List.mem_drop_iff_getElem]
    refine ⟨j - m, by simp; omega, ?_⟩
    simp only [List.getElem_range]
    omega
  simp only [Region.lexB, Bool.and_eq_true] at hlex
  have hr' : Rel N w0 σ0 I env st a { w with drawn := w.drawn + 1 } := by
    obtain ⟨h1, h2, hI, σ, gh, hb, hk, he⟩ := hr
    exact ⟨h1, h2, hI, σ, gh, hb.grown ⟨rfl, rfl, rfl, Nat.le_refl _, fun _ _ _ => rfl⟩, hk, he⟩
  refine wp_region_any hmx ?_
  have hA := wpAnyE_lex (P := P) (N := N) (st := st) (K := fun env => GQ P N l.toArray (l.drop m) env st (Q .normal)) (md := .any) (ops := (l.take m).toArray) (l.take m) 0 (Array.replicate (l.take m).toArray.size false) env (by simp) (by simpa using hlex.2) h
  have hlt : (l.take m).length = m := by rw [List.length_take]; omega
  have hR := runA (P := P) (md := .any) (l := l) (m := m) (st := st) (w0 := w0) (σ0 := σ0) (I := I) (Q' := Lift N w0 σ0 I Q) (K := fun env => GQ P N l.toArray (l.drop m) env st (Q .normal)) hm'
    (fun f listed env a w hf hsz hc hl hu hrel hK => runB (Q' := Lift N w0 σ0 I Q) (K := Q .normal) (fun env st a w hrel hq => ⟨env, st, hrel, hq⟩) hbk (l.drop m) m f listed env st a w (fun j => by rw [List.getElem?_drop]) (fun j h1 h2 => hsl j h1 h2) (by simpa using hf) hsz hc hl hu hm' hrel hK)
    hbk hsl (l.take m).length (Array.replicate l.length false) (Array.replicate m false) env a _ (by simp) (by simp) (fun i hi => by
      rw [Array.getElem?_replicate, Array.getElem?_replicate, if_pos (by omega), if_pos hi]) (fun i h1 h2 => by simp [Array.getD_eq_getD_getElem?, Array.getElem?_replicate, h2]) (fun i o ho hi => by
      have hil : i < l.length := (List.getElem?_eq_some_iff.1 ho).1
      simp [Array.getD_eq_getD_getElem?, Array.getElem?_replicate, hil] at hi) hr' (by simpa [hlt] using hA)
  rw [hlt, Nat.add_sub_cancel' hm'] at hR
  exact hR

end

section
variable {P : Program} {T : Tab} {N : Fm} (hT : TabOk P T)
include hT

theorem vcG_sound {ops : List Oper} : ∀ {l : List Oper} {env : Env} {st : List AO} {K : Env → List AO → Prop}, dstOk N l → vcL P T N ops l env st K → GQ P N ops.toArray l env st K
  | [], env, st, K, _, h => h
  | o :: rest, env, st, K, hd, h => by
    have hd0 : ∀ d, o.dst = some d → d < N.n := hd o (by simp)
    have hdr : dstOk N rest := fun o' ho' => hd o' (by simp [ho'])
    obtain ⟨dst, op, ty, pos, after, guard⟩ := o
    refine ⟨hd0, ?_⟩
    unfold vcL at h
    split at h
    · rename_i hg
      simp only at hg
      subst hg
      exact .inl ⟨rfl, (vcOp2_sound hT h).mono fun v st' h2 => vcG_sound hdr h2⟩
    · rename_i j want hg
      simp only at hg
      subst hg
      split at h
      · rename_i oj hj
        split at h
        · rename_i d hdj
          split at h
          · rename_i b hb
            obtain ⟨hdN, h1, h2⟩ := h
            by_cases e : b = want
            · obtain ⟨v, st', h3, h4⟩ := vcOp_sound hT (h1 e)
              exact .inl ⟨⟨oj, d, b, by simpa using hj, hdj, hdN, .inl ⟨hb, by simp [e]⟩⟩, h3.n (vcG_sound hdr h4)⟩
            · exact .inr ⟨⟨oj, d, b, by simpa using hj, hdj, hdN, .inl ⟨hb, by simp [e]⟩⟩, vcG_sound hdr (h2 e)⟩
          · rename_i hb
            exact .inr ⟨⟨oj, d, true, by simpa using hj, hdj, h.1, .inr ⟨hb, rfl⟩⟩, vcG_sound hdr h.2⟩
          · exact h.elim
        · exact h.elim
      · exact h.elim

/-- an open region: the first m operations turn nothing; the others come after all ahead of them -/
theorem vc_draw2 {env : Env} {st : List AO} {Q : Post} {id : Nat} {ops : Array Oper} (m : Nat) (hB : splitB N m ops = true)
    (h : vcQ P T N (ops.toList.take m) st (ops.toList.take m) env fun env => vcL P T N ops.toList (ops.toList.drop m) env st (Q .normal)) : WP P N (.region id ops true) env st Q := by
  obtain ⟨l⟩ := ops
  have hd : dstOk N l := fun o ho d hdo => by
    simp only [splitB, Bool.and_eq_true, Array.all_eq_true_iff_forall_mem] at hB
    have := hB.1.1.1.1 o (by simpa using ho)
    rw [hdo] at this
    simpa using this
  refine WP_draw2 m hT.mixed hB ?_
  have := vcQ_sound (N := N) hT (fun o ho => hd o (List.mem_of_mem_take ho)) h
  refine WQ_mono (fun env hk => ?_) this
  exact vcG_sound hT (fun o ho => hd o (List.mem_of_mem_drop ho)) hk
end
end Go.Proofs.Nw.K
end
section
/- K22: a cell of one's own box, seen otherwise. -/
open Go Go.RowKit
set_option linter.unusedVariables false
set_option linter.unusedSimpArgs false
namespace Go.Proofs.Nw.K

theorem Sub.cell {N : Fm} {env : Env} {st st1 : List AO} {s i : Nat} {bT : TypeId} {cells : List AV} {a a' : AV} (hst : st[s]? = some (.box bT cells)) (hi : cells[i]? = some a) (hst1 : st1[s]? = some (.box bT cells))
    (h : ∀ w0 σ0 σ gh w u, Base w0 σ0 σ gh st w → RepA σ gh st u a → ∃ σ' gh', Fut w0 σ0 σ gh st σ' gh' st1 w ∧ RepA σ' gh' st1 u a' ∧ gh'[s]? = gh[s]?) :
    Sub N env st env (st1.set s (AO.box bT (cells.set i a'))) := by
  intro w0 σ0 I x w ⟨hs, hd, hI, σ, gh, hb, hk, he⟩
  have hlt : s < gh.length := by rw [hb.len]; exact (List.getElem?_eq_some_iff.1 hst).1
  obtain ⟨g, hg⟩ : ∃ g, gh[s]? = some g := ⟨gh[s], List.getElem?_eq_getElem hlt⟩
  obtain ⟨b, vals, e1, e2, e3, e4, e5, e6, e7⟩ := hb.obj s _ _ hst hg
  have hil : i < vals.size := by rw [e4]; exact (List.getElem?_eq_some_iff.1 hi).1
  have hv : vals[i]? = some vals[i] := Array.getElem?_eq_getElem hil
  obtain ⟨σ', gh', hf, hu, hgg⟩ := h w0 σ0 σ gh w _ hb (e5 i _ _ hv hi)
  have hg' : gh'[s]? = some g := by rw [hgg, hg]
  obtain ⟨b', vals', f1, f2, f3, f4, f5, f6, f7⟩ := hf.base.obj s _ _ hst1 hg'
  have hbb : b' = b := by rw [e1] at f1; simpa using f1.symm
  subst hbb
  have hvv : vals' = vals := by rw [e3] at f3; simpa using f3.symm
  subst hvv
  have keep : ∀ v a, RepA σ' gh' st1 v a → RepA σ' gh' (st1.set s (AO.box bT (cells.set i a'))) v a := fun v a h' => h'.set hst1 _ (fun k' e' sz' xs' heq => by cases heq)
  have := hf.base.turn (w' := w) hst1 hg' (by simp) ⟨rfl, rfl, rfl, Nat.le_refl _, fun _ _ _ => rfl⟩ g (.box bT (cells.set i a')) (fun b hb' => .inl hb')
    ⟨b', vals', f1, f2, f3, by simpa using f4, fun j v c hj hc => by
      rw [set_self hg']
      by_cases hij : i = j
      · subst hij
        have hic : i < cells.length := (List.getElem?_eq_some_iff.1 hi).1
        have : c = a' := by simpa [hic] using hc.symm
        subst this
        rw [hv] at hj
        cases hj
        exact keep _ _ hu
      · rw [List.getElem?_set, if_neg hij] at hc
        exact keep _ _ (f5 j v c hj hc), f6, f7⟩ (by rw [set_self hg']; exact keep)
  rw [set_self hg'] at this
  exact ⟨hs, hd, hI, σ', gh', this.base, fun v a ha => this.keep _ _ (hf.keep _ _ (hk v a ha)), fun t => this.keep _ _ (hf.keep _ _ (he t))⟩

/-- nothing, in a cell, seen as a row of one's own -/
theorem Sub.nilsCell {N : Fm} {env : Env} {st : List AO} {s i : Nat} {bT : TypeId} {cells : List AV} (e sz : Nat) (hst : st[s]? = some (.box bT cells)) (hi : cells[i]? = some .nils) :
    Sub N env st env ((st ++ [AO.row 0 e sz []]).set s (.box bT (cells.set i (.h st.length 0 0 0)))) := by
  have hlt : s < st.length := (List.getElem?_eq_some_iff.1 hst).1
  refine Sub.cell hst hi (by rw [List.getElem?_append_left hlt]; exact hst) fun w0 σ0 σ gh w u hb hu => ?_
  have hu := nils_val hu
  have hf := hb.push (w' := w) ⟨rfl, rfl, rfl, Nat.le_refl _, fun _ _ _ => rfl⟩ (.slice none 0 0) (.row 0 e sz []) (fun b h => by simp [blkOf] at h)
    ⟨[], World.ownsRow_nil w _ e sz, fun i x h => by simp at h, fun i j x d h => by simp at h, fun b h => by simp [blkOf] at h, by simp⟩
  refine ⟨σ, _, hf, ⟨.slice none 0 0, _, by rw [← hb.len]; simp, by simp; rfl, fun k' e' sz' xs' heq => ?_⟩, ?_⟩
  · cases heq
    exact ⟨Nat.le_refl _, fun _ => ⟨by simp, .inl ⟨rfl, rfl, hu⟩⟩⟩
  · rw [List.getElem?_append_left (by rw [hb.len]; exact hlt)]

/-- a row of one's own, in a cell, is given out -/
theorem Sub.shutCell {N : Fm} {env : Env} {st : List AO} {s i r k n e sz : Nat} {bT : TypeId} {cells : List AV} {xs : List (List D)} {d : D} (hst : st[s]? = some (.box bT cells)) (hi : cells[i]? = some (.h r k 0 n)) (hr : st[r]? = some (.row k e sz xs)) (hn : n = xs.length)
    (hd : DLe (.one (.list sz xs)) (.one d)) : Sub N env st env ((st.set r .gone).set s (AO.box bT (cells.set i (.d d)))) := by
  have hne : r ≠ s := fun h => by subst h; rw [hst] at hr; cases hr
  refine Sub.cell hst hi (by rw [List.getElem?_set, if_neg hne]; exact hst) fun w0 σ0 σ gh w u hb hu => ?_
  obtain ⟨g, hg, hR, A, c, hv⟩ := h_val hb hr hu
  obtain ⟨σ', hf, hrep⟩ := seal_row hb hr hg
  refine ⟨σ', gh, hf, ?_, rfl⟩
  refine hd σ' u ?_
  obtain ⟨h0, ⟨a1, a2, a3⟩ | ⟨b, m, c2, a1, a2, ⟨a3, a4, _⟩ | a3⟩⟩ := hR
  · rw [a3]; exact hrep
  · omega
  · subst hn
    obtain ⟨A', c', hgv, hc'⟩ := row_val hb hr hg
    rw [a1] at hgv
    injection hgv with e1 e2 e3
    subst e2
    have : u = g := by rw [a3, a1]; simp
    rw [this]; exact hrep

/-- what holds between two pieces of code, said anew -/
theorem WP_seq_cut {P : Program} {N : Fm} {x y : Code} {env : Env} {st : List AO} {Q : Post} {α : Type} (E : α → Env) (S : α → List AO) (h : WP P N x env st (Then (fun env st => ∃ a, Sub N env st (E a) (S a)) Q)) (k : ∀ a, WP P N y (E a) (S a) Q) : WP P N (.seq x y) env st Q :=
  WP_seq (WP_mono h fun e env st q => by
    cases e with
    | normal => obtain ⟨a, hs⟩ := q; exact WP_sub hs (k a)
    | _ => exact q)

end Go.Proofs.Nw.K
end
section
/- Q5: a version's parts. -/
open Go Go.RowKit Go.Proofs
set_option linter.unusedVariables false
set_option linter.unusedSimpArgs false
namespace Go.Proofs.Nw.K

def digU (b : UInt8) : Bool := decide (48 ≤ b.toNat) && decide (b.toNat ≤ 57)
theorem digU_B (b : UInt8) : digitB (b.toNat : Int) = digU b := by
  unfold digitB digU
  congr 1
  · exact decide_eq_decide.2 (by omega)
  · exact decide_eq_decide.2 (by omega)
def lastU (s : Str) : UInt8 := s.data.toList.getLast?.getD 0
def one (b : UInt8) : Str := ⟨#[b]⟩
def sepU (b : UInt8) : Bool := b == 46 || b == 45
def stepP (q : List Pt × Pt) (b : UInt8) : List Pt × Pt :=
  if sepU b then (q.1 ++ [q.2], ⟨emp, b == 45, false⟩)
  else if (!(q.2.text.toList == emp.toList)) && (digU b != digU (lastU q.2.text)) then (q.1 ++ [⟨q.2.text, q.2.dash, digU b⟩], ⟨one b, true, false⟩)
  else (q.1, ⟨q.2.text ++ one b, q.2.dash, q.2.number⟩)
def foldP (l : List UInt8) : List Pt × Pt := l.foldl stepP ([], zPt)
def allP (q : List Pt × Pt) : List Pt := q.1 ++ [q.2]
def partsOf (v : Str) : List Pt := allP (foldP v.data.toList)

theorem foldP_snoc (l : List UInt8) (b : UInt8) : foldP (l ++ [b]) = stepP (foldP l) b := by simp [foldP]
theorem stepP_length (q : List Pt × Pt) (b : UInt8) : (stepP q b).1.length ≤ q.1.length + 1 := by
  unfold stepP
  split
  · simp
  · split <;> simp
theorem foldP_length (l : List UInt8) (i : Nat) : (foldP (l.take i)).1.length ≤ l.length := by
  have key : ∀ (l : List UInt8) (q : List Pt × Pt), (l.foldl stepP q).1.length ≤ q.1.length + l.length := by
    intro l
    induction l with
    | nil => intro q; simp
    | cons b r ih =>
      intro q
      have h1 := ih (stepP q b)
      have h2 := stepP_length q b
      simp only [List.foldl_cons, List.length_cons]
      omega
  have := key (l.take i) ([], zPt)
  have h2 : (l.take i).length ≤ l.length := by rw [List.length_take]; omega
  simp only [List.length_nil] at this
  unfold foldP
  omega
theorem stepP_text (q : List Pt × Pt) (b : UInt8) : (stepP q b).2.text.size ≤ q.2.text.size + 1 := by
  unfold stepP
  split
  · show 0 ≤ _; omega
  · split
    · show 1 ≤ _; omega
    · simp only [app_size]; show _ + 1 ≤ _; omega
theorem foldP_text (l : List UInt8) (i : Nat) : (foldP (l.take i)).2.text.size ≤ l.length := by
  have key : ∀ (l : List UInt8) (q : List Pt × Pt), (l.foldl stepP q).2.text.size ≤ q.2.text.size + l.length := by
    intro l
    induction l with
    | nil => intro q; simp
    | cons b r ih =>
      intro q
      have h1 := ih (stepP q b)
      have h2 := stepP_text q b
      simp only [List.foldl_cons, List.length_cons]
      omega
  have := key (l.take i) ([], zPt)
  have h2 : (l.take i).length ≤ l.length := by rw [List.length_take]; omega
  have h3 : zPt.text.size = 0 := rfl
  simp only [] at this
  unfold foldP
  omega
theorem lastU_snoc (s : Str) (b : UInt8) : lastU (s ++ one b) = b := by
  unfold lastU
  rw [str_app]
  show ((s.data.toList ++ [b]).getLast?).getD 0 = b
  simp
/-- what the last part ends with is the byte ahead -/
theorem foldP_last (l : List UInt8) (b : UInt8) (h : (foldP (l ++ [b])).2.text ≠ emp) : lastU (foldP (l ++ [b])).2.text = b := by
  rw [foldP_snoc] at h ⊢
  unfold stepP at h ⊢
  split at h
  · exact absurd rfl h
  · rename_i h1
    rw [if_neg h1]
    split at h
    · rename_i h2
      rw [if_pos h2]
      have := lastU_snoc emp b
      rwa [emp_app] at this
    · rename_i h2
      rw [if_neg h2]
      exact lastU_snoc _ b
theorem foldP_at (v : Str) (i : Nat) (hi : i < v.data.toList.length) : foldP (v.data.toList.take (i + 1)) = stepP (foldP (v.data.toList.take i)) v.data.toList[i] := by
  rw [List.take_succ_eq_append_getElem hi, foldP_snoc]
theorem foldP_prev (v : Str) (i : Nat) (hi : i < v.data.toList.length) (h : (foldP (v.data.toList.take i)).2.text ≠ emp) : 0 < i ∧ lastU (foldP (v.data.toList.take i)).2.text = v.data.toList[i - 1]'(by omega) := by
  cases i with
  | zero => exact absurd rfl h
  | succ k =>
    refine ⟨by omega, ?_⟩
    have hk : k < v.data.toList.length := by omega
    rw [List.take_succ_eq_append_getElem hk] at h ⊢
    have := foldP_last _ _ h
    simpa using this

def rowP (q : List Pt × Pt) : List AO := [.row q.1.length 147 3 ((allP q).map encPt)]
theorem allP_length (q : List Pt × Pt) : (allP q).length = q.1.length + 1 := by simp [allP]
theorem row_last (q : List Pt × Pt) : ((allP q).map encPt)[q.1.length]? = some (encPt q.2) := by simp [allP]
theorem row_set (q : List Pt × Pt) (x : List D) (p : Pt) (hx : x = encPt p) : ((allP q).map encPt).set q.1.length x = (allP (q.1, p)).map encPt := by
  subst hx
  simp only [allP, List.map_append]
  rw [List.set_append_right _ _ (by simp)]
  simp
theorem row_more (q : List Pt × Pt) (x : List D) (p : Pt) (n : Nat) (hn : n = q.1.length + 1) (hx : x = encPt p) : ((allP q).map encPt).take n ++ [x] = (allP (q.1 ++ [q.2], p)).map encPt := by
  subst hx hn
  rw [List.take_of_length_le (by simp [allP])]
  simp [allP]

set_option maxHeartbeats 400000 in
theorem parts_impl (v : Str) (hv : v.size ≤ 4194304) : Impl Tryz.prog 112 [.one (dstr v)] [.one (dPts (partsOf v))] := by
  have hvl := str_size v
  refine impl_vc tabOk Tryz.func112 rfl rfl (by exact Nat.le_of_ble_eq_true rfl) ?_
  refine WP_seq (vc_sound tabOk (by kernel_rfl) ?_)
  refine WP_seq (vc_sound tabOk (by kernel_rfl) ?_)
  refine And.intro rfl (And.intro (by decide) (And.intro (by decide) (And.intro rfl (Or.inr (Or.inr ?_)))))
  refine WP_seq_cut (α := Unit) (fun _ => ofL [(0, .str v), (3, .h 0 (foldP v.data.toList).1.length 0 ((foldP v.data.toList).1.length + 1))]) (fun _ => rowP (foldP v.data.toList)) (WP_seq (vc_sound tabOk (by kernel_rfl) ?_)) (fun _ => ?_)
  rotate_left
  · refine vc_sound tabOk (by kernel_rfl) ?_
    refine And.intro ⟨rfl, rfl, ?_⟩ (And.intro (DLe.tl _ rfl) trivial)
    show (foldP v.data.toList).1.length + 1 = ((allP (foldP v.data.toList)).map encPt).length
    rw [List.length_map, allP_length]
  refine WP_block (WP_loop (α := {i : Nat // i ≤ v.size}) (fun i => ofL [(0, .str v), (3, .h 0 (foldP (v.data.toList.take i.1)).1.length 0 ((foldP (v.data.toList.take i.1)).1.length + 1)), (10, .int (v.size : Int)), (11, .int (i.1 : Int))]) (fun i => rowP (foldP (v.data.toList.take i.1))) (fun i => v.size - i.1) ⟨0, Nat.zero_le _⟩ ?_ ?_)
  · exact Sub.ofL _ _ (Nat.zero_le _) ⟨rfl, rfl, rfl, rfl, rfl, rfl, rfl, rfl, trivial⟩ rfl rfl
  rintro ⟨i, hi⟩
  refine WP_seq (vc_sound tabOk (by kernel_rfl) ?_)
  refine And.intro rfl ?_
  refine WP_seq (vc_sound tabOk (by kernel_rfl) ?_)
  refine And.intro (fun h => ?_) (fun h => ?_)
  rotate_left
  · have h : decide ((i : Int) < (v.size : Int)) = false := h
    obtain rfl : i = v.size := by have := of_decide_eq_false h; omega
    have ht : v.data.toList.take v.size = v.data.toList := List.take_of_length_le (by omega)
    refine ⟨(), Sub.ofL _ _ (Nat.zero_le _) ⟨rfl, rfl, ?_, rfl, trivial⟩ ?_ rfl⟩
    · show AV.h 0 (foldP (v.data.toList.take v.size)).1.length 0 _ = _
      rw [ht]
    · show [AO.row (foldP (v.data.toList.take v.size)).1.length 147 3 ((allP (foldP (v.data.toList.take v.size))).map encPt)] = _
      rw [ht]; rfl
  have h : decide ((i : Int) < (v.size : Int)) = true := h
  have hlt : i < v.size := by have := of_decide_eq_true h; omega
  have hil : i < v.data.toList.length := by omega
  have hstep := foldP_at v i hil
  have hprev := foldP_prev v i hil
  have hnl := foldP_length v.data.toList i
  have htl := foldP_text v.data.toList i
  have hbyte := byteAt_lt v i hil
  have hnl' : v.data.toList.length ≤ 4194304 := by omega
  generalize hq : foldP (v.data.toList.take i) = q at *
  generalize hb : v.data.toList[i] = b at *
  have hltz : (i : Int) < (v.size : Int) := by omega
  generalize hn : q.1.length = n at *
  refine WP_seq_cut (α := Unit) (fun _ => ofL [(0, .str v), (3, .h 0 (stepP q b).1.length 0 ((stepP q b).1.length + 1)), (10, .int (v.size : Int)), (11, .int (i : Int))]) (fun _ => rowP (stepP q b)) (WP_block (WP_seq (vc_sound tabOk (by kernel_rfl) ?_))) (fun _ => ?_)
  rotate_left
  · refine vc_sound tabOk (by kernel_rfl) ?_
    refine And.intro rfl (And.intro ⟨by omega, by show (i : Int) + 1 ≤ _; omega⟩ ?_)
    refine ⟨⟨i + 1, hlt⟩, by show v.size - (i + 1) < v.size - i; omega, Sub.ofL _ _ (Nat.zero_le _) ⟨rfl, rfl, ?_, rfl, rfl, rfl, rfl, rfl, trivial⟩ ?_ rfl⟩
    · show _ = AV.h 0 (foldP (v.data.toList.take (i + 1))).1.length 0 ((foldP (v.data.toList.take (i + 1))).1.length + 1)
      rw [hstep]; rfl
    · show _ = rowP (foldP (v.data.toList.take (i + 1)))
      rw [hstep]; rfl
  refine WP_seq (vc_sound tabOk (by kernel_rfl) ?_)
  refine And.intro rfl ?_
  refine And.intro rfl ?_
  refine And.intro rfl (And.intro (Int.natCast_nonneg _) (And.intro hltz (And.intro rfl ?_)))
  refine And.intro rfl ?_
  refine And.intro rfl ?_
  refine And.intro hn.symm (And.intro rfl ?_)
  refine And.intro rfl (And.intro ⟨by show (-9223372036854775808 : Int) ≤ ((n + 1 : Nat) : Int) - 1; omega, by show ((n + 1 : Nat) : Int) - 1 ≤ 9223372036854775807; omega⟩ (And.intro rfl ?_))
  refine And.intro rfl (And.intro hn.symm (And.intro (by show (0 : Int) ≤ ((n + 1 : Nat) : Int) - 1; omega) (And.intro (by show ((n + 1 : Nat) : Int) - 1 < ((n + 1 : Nat) : Int); omega) (And.intro rfl ?_))))
  refine And.intro rfl ?_
  refine And.intro rfl ?_
  refine WP_sub (Sub.ofL [(0, .str v), (3, .h 0 n 0 (n + 1)), (4, .int (i : Int)), (5, .byte (b.toNat : Int)), (6, .ep 0 n n 0), (10, .int (v.size : Int)), (11, .int (i : Int))] [.row n 147 3 ((allP q).map encPt)] (Nat.zero_le _) ⟨rfl, rfl, rfl, rfl, rfl, rfl, ?_, rfl, ?_, rfl, rfl, rfl, rfl, rfl, trivial⟩ ?_ rfl) ?_
  · show AV.byte (byteAt v ((i : Int)).toNat) = _
    rw [show ((i : Int)).toNat = i by simp, hbyte]
  · show AV.ep 0 n (0 + (((n + 1 : Nat) : Int) - 1).toNat) 0 = _
    congr 1
    omega
  · show [AO.row q.1.length 147 3 ((allP q).map encPt)] = _
    rw [hn]
  have hrow : ((allP q).map encPt)[n]? = some (encPt q.2) := by rw [← hn]; exact row_last q
  have h45 : ∀ k : UInt8, ((b.toNat : Int) == (k.toNat : Int)) = (b == k) := fun k => by
    by_cases e : b = k
    · subst e; rw [beq_self_eq_true, beq_self_eq_true]
    · have e2 : ¬ (b.toNat : Int) = (k.toNat : Int) := fun h => e (u8_eq h)
      rw [beq_eq_false_iff_ne.2 e, beq_eq_false_iff_ne.2 e2]
  have e46 : ((b.toNat : Int) == 46) = (b == 46) := h45 46
  have e45 : ((b.toNat : Int) == 45) = (b == 45) := h45 45
  refine WP_seq_cut (α := {q' : List Pt × Pt // stepP q b = (q'.1, ⟨q'.2.text ++ one b, q'.2.dash, q'.2.number⟩) ∧ q'.2.text.size ≤ 4194304}) (fun q' => ofL [(0, .str v), (3, .h 0 q'.1.1.length 0 (q'.1.1.length + 1)), (5, .byte (b.toNat : Int)), (6, .ep 0 q'.1.1.length q'.1.1.length 0), (10, .int (v.size : Int)), (11, .int (i : Int))]) (fun q' => rowP q'.1) (WP_block ?_) (fun q' => ?_)
  rotate_left
  · obtain ⟨q', hq', hts⟩ := q'
    refine vc_draw2 tabOk 10 (by kernel_rfl) ?_
    have hrow' : ((allP q').map encPt)[q'.1.length]? = some (encPt q'.2) := row_last q'
    refine And.intro rfl ?_
    refine And.intro rfl (And.intro rfl ?_)
    refine And.intro rfl (And.intro rfl ?_)
    refine And.intro rfl (Exists.intro _ (Exists.intro _ (And.intro hrow' (And.intro rfl (And.intro rfl ?_)))))
    refine And.intro rfl ?_
    refine And.intro rfl (And.intro (by decide) (And.intro (by decide) (And.intro rfl (Or.inl (And.intro rfl ?_)))))
    refine And.intro rfl (And.intro rfl (Exists.intro [(b.toNat : Int)] (And.intro rfl (And.intro rfl ?_))))
    refine And.intro (by show q'.2.text.size + 1 ≤ _; omega) (And.intro rfl ?_)
    refine And.intro rfl (And.intro rfl ?_)
    refine And.intro rfl (And.intro rfl ?_)
    refine And.intro rfl (Exists.intro _ (And.intro hrow' (And.intro (show 0 < 3 by decide) ?_)))
    have ho : (⟨([(b.toNat : Int)].map fun n => UInt8.ofNat n.toNat).toArray⟩ : Str) = one b := by
      apply str_ext
      show [UInt8.ofNat ((b.toNat : Int)).toNat] = [b]
      simp
    refine ⟨(), Sub.ofL _ _ (Nat.zero_le _) ⟨rfl, rfl, ?_, rfl, rfl, rfl, rfl, rfl, trivial⟩ ?_ rfl⟩
    · show AV.h 0 q'.1.length 0 (q'.1.length + 1) = _
      rw [hq']
    · show [AO.row q'.1.length 147 3 (((allP q').map encPt).set q'.1.length ((encPt q'.2).set (0 + 0) (dstr (q'.2.text ++ ⟨([(b.toNat : Int)].map fun n => UInt8.ofNat n.toNat).toArray⟩))))] = _
      rw [ho, hq']
      have := row_set q' ((encPt q'.2).set (0 + 0) (dstr (q'.2.text ++ one b))) ⟨q'.2.text ++ one b, q'.2.dash, q'.2.number⟩ rfl
      rw [this]
      rfl
  refine vc_sound tabOk (by kernel_rfl) ?_
  refine And.intro rfl ?_
  have sepfin : sepU b = true → ∀ env st, env 0 = .str v → env 3 = .h 0 (n + 1) 0 (n + 1 + 1) → env 10 = .int (v.size : Int) → env 11 = .int (i : Int) → st = [AO.row (n + 1) 147 3 (((allP q).map encPt).take (n + 1) ++ [[dstr emp, dbool (b == 45), dbool false]])] →
      ∃ _ : Unit, Sub ⟨Tryz.f112.ntmps, 0⟩ env st (ofL [(0, .str v), (3, .h 0 (stepP q b).1.length 0 ((stepP q b).1.length + 1)), (10, .int (v.size : Int)), (11, .int (i : Int))]) (rowP (stepP q b)) := fun hs env st e0 e3 e10 e11 est => by
    have hS : stepP q b = (q.1 ++ [q.2], ⟨emp, b == 45, false⟩) := by unfold stepP; rw [if_pos hs]
    have hl : (stepP q b).1.length = n + 1 := by rw [hS]; simp [hn]
    refine ⟨(), Sub.ofL _ _ (Nat.zero_le _) ⟨e0, rfl, ?_, rfl, e10, rfl, e11, rfl, trivial⟩ ?_ rfl⟩
    · rw [e3, hl]
    · rw [est]
      have := row_more q [dstr emp, dbool (b == 45), dbool false] ⟨emp, b == 45, false⟩ (n + 1) (by omega) rfl
      rw [this]
      unfold rowP
      rw [hl, hS]
      rfl
  cases hc46 : ((b.toNat : Int) == 46) with
  | true =>
    have hb46 : b = 46 := by rw [e46] at hc46; simpa using hc46
    have hse : sepU b = true := by rw [hb46]; rfl
    apply And.intro
    · exact ltb rfl
    refine And.intro (fun h => by cases h) (fun _ => ?_)
    apply And.intro
    · exact ltb rfl
    refine And.intro (fun h => by cases h) (fun _ => ?_)
    refine And.intro (fun _ => ?_) (fun h => by cases h)
    refine And.intro (fun _ => ?_) (fun h => by cases h)
    refine And.intro rfl ?_
    refine And.intro rfl (And.intro (by decide) (And.intro (by decide) (And.intro rfl (Or.inl ?_))))
    refine And.intro rfl (And.intro ⟨rfl, rfl, rfl, rfl⟩ (And.intro rfl (And.intro (by show (n + 1 + 1) * 24 ≤ _; omega) (And.intro (by show n + 1 + 1 ≤ maxLen; simp only [maxLen]; omega) ?_))))
    refine sepfin hse _ _ rfl rfl rfl rfl ?_
    show [AO.row (n + 1) 147 3 (((allP q).map encPt).take (n + 1) ++ [[dstr emp, dbool ((b.toNat : Int) == 45), dbool false]])] = _
    rw [e45]
  | false =>
    have hnb46 : (b == 46) = false := by rw [← e46]; exact hc46
    apply And.intro
    · exact ltb rfl
    refine And.intro (fun _ => ?_) (fun h => absurd rfl h)
    apply And.intro
    · exact ltb rfl
    refine And.intro (fun _ => And.intro rfl ?_) (fun h => absurd rfl h)
    refine And.intro (fun h => by cases h) (fun _ => ?_)
    refine And.intro (fun h45' => ?_) (fun h45' => ?_)
    · have h45' : ((b.toNat : Int) == 45) = true := h45'
      have hb45 : b = 45 := by rw [e45] at h45'; simpa using h45'
      have hse : sepU b = true := by rw [hb45]; rfl
      refine And.intro rfl ?_
      refine And.intro rfl (And.intro (by decide) (And.intro (by decide) (And.intro rfl (Or.inl ?_))))
      refine And.intro rfl (And.intro ⟨rfl, rfl, rfl, rfl⟩ (And.intro rfl (And.intro (by show (n + 1 + 1) * 24 ≤ _; omega) (And.intro (by show n + 1 + 1 ≤ maxLen; simp only [maxLen]; omega) ?_))))
      refine sepfin hse _ _ rfl rfl rfl rfl ?_
      show [AO.row (n + 1) 147 3 (((allP q).map encPt).take (n + 1) ++ [[dstr emp, dbool ((b.toNat : Int) == 45), dbool false]])] = _
      rw [e45]
    have h45' : ((b.toNat : Int) == 45) = false := h45'
    have hnb45 : (b == 45) = false := by rw [← e45]; exact h45'
    have hns : sepU b = false := by unfold sepU; rw [hnb46, hnb45]; rfl
    have hstay : ((!(q.2.text.toList == emp.toList)) && (digU b != digU (lastU q.2.text))) = false → stepP q b = (q.1, ⟨q.2.text ++ one b, q.2.dash, q.2.number⟩) := fun h => by
      unfold stepP
      rw [if_neg (by rw [hns]; decide), if_neg (by rw [h]; decide)]
    have hcut : ((!(q.2.text.toList == emp.toList)) && (digU b != digU (lastU q.2.text))) = true → stepP q b = (q.1 ++ [⟨q.2.text, q.2.dash, digU b⟩], ⟨one b, true, false⟩) := fun h => by
      unfold stepP
      rw [if_neg (by rw [hns]; decide), if_pos h]
    refine And.intro rfl ?_
    refine And.intro rfl (And.intro rfl ?_)
    refine And.intro rfl (And.intro rfl ?_)
    refine And.intro rfl (Exists.intro _ (Exists.intro _ (And.intro hrow (And.intro rfl (And.intro rfl ?_)))))
    refine And.intro rfl ?_
    refine And.intro rfl ?_
    cases ht : (!(q.2.text.toList == emp.toList)) with
    | false =>
      apply And.intro
      · exact ltb rfl
      refine And.intro (fun h => absurd (ht.symm.trans h) (by decide)) (fun _ => ?_)
      apply And.intro
      · exact ltb rfl
      refine And.intro (fun h => absurd (ht.symm.trans h) (by decide)) (fun _ => ?_)
      apply And.intro
      · exact ltb rfl
      refine And.intro (fun h => absurd (ht.symm.trans h) (by decide)) (fun _ => ?_)
      apply And.intro
      · exact ltb rfl
      refine And.intro (fun h => absurd (ht.symm.trans h) (by decide)) (fun _ => ?_)
      apply And.intro
      · exact ltb rfl
      refine And.intro (fun h => absurd (ht.symm.trans h) (by decide)) (fun _ => ?_)
      apply And.intro
      · exact ltb rfl
      refine And.intro (fun h => absurd (ht.symm.trans h) (by decide)) (fun _ => ?_)
      apply And.intro
      · exact ltb rfl
      refine And.intro (fun h => absurd (ht.symm.trans h) (by decide)) (fun _ => ?_)
      apply And.intro
      · exact ltb rfl
      refine And.intro (fun h => absurd (ht.symm.trans h) (by decide)) (fun _ => ?_)
      refine And.intro (fun h => absurd (ht.symm.trans h) (by decide)) (fun _ => And.intro rfl ?_)
      refine And.intro rfl ?_
      refine And.intro (fun h => by cases h) (fun _ => ?_)
      refine ⟨⟨q, hstay (by rw [ht]; rfl), by omega⟩, Sub.ofL _ _ (Nat.zero_le _) ⟨rfl, rfl, ?_, rfl, rfl, rfl, ?_, rfl, rfl, rfl, rfl, rfl, trivial⟩ ?_ rfl⟩
      · show AV.h 0 n 0 (n + 1) = AV.h 0 q.1.length 0 (q.1.length + 1)
        rw [hn]
      · show AV.ep 0 n n 0 = AV.ep 0 q.1.length q.1.length 0
        rw [hn]
      · show [AO.row n 147 3 ((allP q).map encPt)] = [AO.row q.1.length 147 3 ((allP q).map encPt)]
        rw [hn]
    | true =>
      have hne : q.2.text ≠ emp := fun e => by
        rw [str_beq, e] at ht
        simp at ht
      obtain ⟨hi0, hlast⟩ := hprev hne
      have hil1 : i - 1 < v.data.toList.length := by omega
      have hbyte1 : byteAt v ((i : Int) - 1).toNat = ((lastU q.2.text).toNat : Int) := by
        rw [show ((i : Int) - 1).toNat = i - 1 by omega, byteAt_lt v (i - 1) hil1, hlast]
      have hdd : (!(digitB (b.toNat : Int) == digitB (byteAt v ((i : Int) - 1).toNat))) = (digU b != digU (lastU q.2.text)) := by
        rw [hbyte1, digU_B, digU_B]; rfl
      apply And.intro
      · exact ltb rfl
      refine And.intro (fun _ => And.intro rfl ?_) (fun h => absurd ht h)
      apply And.intro
      · exact ltb rfl
      refine And.intro (fun _ => And.intro rfl (Or.inl (Exists.intro _ (Exists.intro _ (And.intro (Digit_impl _) (And.intro (AsLe.refl _) (And.intro rfl ?_))))))) (fun h => absurd ht h)
      apply And.intro
      · exact ltb rfl
      refine And.intro (fun _ => And.intro rfl ?_) (fun h => absurd ht h)
      apply And.intro
      · exact ltb rfl
      refine And.intro (fun _ => And.intro rfl ?_) (fun h => absurd ht h)
      apply And.intro
      · exact ltb rfl
      refine And.intro (fun _ => And.intro rfl (And.intro ⟨by show (-9223372036854775808 : Int) ≤ (i : Int) - 1; omega, by show (i : Int) - 1 ≤ _; omega⟩ (And.intro rfl ?_))) (fun h => absurd ht h)
      apply And.intro
      · exact ltb rfl
      refine And.intro (fun _ => And.intro rfl (And.intro (by show (0 : Int) ≤ (i : Int) - 1; omega) (And.intro (by show (i : Int) - 1 < (v.size : Int); omega) (And.intro rfl ?_)))) (fun h => absurd ht h)
      apply And.intro
      · exact ltb rfl
      refine And.intro (fun _ => And.intro rfl (Or.inl (Exists.intro _ (Exists.intro _ (And.intro (Digit_impl _) (And.intro (AsLe.refl _) (And.intro rfl ?_))))))) (fun h => absurd ht h)
      apply And.intro
      · exact ltb rfl
      refine And.intro (fun _ => And.intro rfl (And.intro rfl ?_)) (fun h => absurd ht h)
      refine And.intro (fun _ => And.intro rfl ?_) (fun h => absurd (ht.symm.trans h) (by decide))
      refine And.intro rfl ?_
      refine And.intro (fun hd => ?_) (fun hd => ?_)
      · have hd : (!(digitB (b.toNat : Int) == digitB (byteAt v ((i : Int) - 1).toNat))) = true := hd
        rw [hdd] at hd
        have hS := hcut (by rw [ht, hd]; rfl)
        refine And.intro rfl (Or.inl (Exists.intro _ (Exists.intro _ (And.intro (Digit_impl _) (And.intro (AsLe.refl _) ?_)))))
        refine And.intro rfl ?_
        refine And.intro rfl ?_
        refine And.intro rfl (Exists.intro _ (And.intro hrow (And.intro (show 2 < 3 by decide) ?_)))
        refine And.intro rfl (And.intro (by decide) (And.intro (by decide) (And.intro rfl (Or.inl ?_))))
        refine And.intro rfl (And.intro ⟨rfl, rfl, rfl, rfl⟩ (And.intro rfl (And.intro (by show (n + 1 + 1) * 24 ≤ _; omega) (And.intro (by show n + 1 + 1 ≤ maxLen; simp only [maxLen]; omega) ?_))))
        refine And.intro rfl ?_
        refine And.intro rfl (And.intro ⟨by show (-9223372036854775808 : Int) ≤ ((n + 1 + 1 : Nat) : Int) - 1; omega, by show ((n + 1 + 1 : Nat) : Int) - 1 ≤ _; omega⟩ ?_)
        refine And.intro rfl (And.intro rfl (And.intro (by show (0 : Int) ≤ ((n + 1 + 1 : Nat) : Int) - 1; omega) (And.intro (by show ((n + 1 + 1 : Nat) : Int) - 1 < ((n + 1 + 1 : Nat) : Int); omega) ?_)))
        have hl : (q.1 ++ [(⟨q.2.text, q.2.dash, digU b⟩ : Pt)]).length = n + 1 := by simp [hn]
        refine ⟨⟨(q.1 ++ [⟨q.2.text, q.2.dash, digU b⟩], ⟨emp, true, false⟩), by rw [hS]; simp only [emp_app], Nat.zero_le _⟩, Sub.ofL _ _ (Nat.zero_le _) ⟨rfl, rfl, ?_, rfl, rfl, rfl, ?_, rfl, rfl, rfl, rfl, rfl, trivial⟩ ?_ rfl⟩
        · show AV.h 0 (n + 1) 0 (n + 1 + 1) = AV.h 0 (q.1 ++ [(⟨q.2.text, q.2.dash, digU b⟩ : Pt)]).length 0 ((q.1 ++ [(⟨q.2.text, q.2.dash, digU b⟩ : Pt)]).length + 1)
          rw [hl]
        · show AV.ep 0 (n + 1) (0 + (((n + 1 + 1 : Nat) : Int) - 1).toNat) 0 = AV.ep 0 (q.1 ++ [(⟨q.2.text, q.2.dash, digU b⟩ : Pt)]).length (q.1 ++ [(⟨q.2.text, q.2.dash, digU b⟩ : Pt)]).length 0
          rw [hl]
          congr 1
          omega
        · show [AO.row (n + 1) 147 3 ((((allP q).map encPt).set n ((encPt q.2).set (0 + 2) (dbool (digitB (b.toNat : Int))))).take (n + 1) ++ [[dstr emp, dbool true, dbool false]])] = [AO.row (q.1 ++ [(⟨q.2.text, q.2.dash, digU b⟩ : Pt)]).length 147 3 _]
          rw [hl, ← hn, row_set q _ ⟨q.2.text, q.2.dash, digU b⟩ (by rw [digU_B]; rfl)]
          have := row_more (q.1, ⟨q.2.text, q.2.dash, digU b⟩) [dstr emp, dbool true, dbool false] ⟨emp, true, false⟩ (q.1.length + 1) rfl rfl
          rw [this]
      · have hd : (!(digitB (b.toNat : Int) == digitB (byteAt v ((i : Int) - 1).toNat))) = false := hd
        rw [hdd] at hd
        have hS := hstay (by rw [ht, hd]; rfl)
        refine ⟨⟨q, hS, by omega⟩, Sub.ofL _ _ (Nat.zero_le _) ⟨rfl, rfl, ?_, rfl, rfl, rfl, ?_, rfl, rfl, rfl, rfl, rfl, trivial⟩ ?_ rfl⟩
        · show AV.h 0 n 0 (n + 1) = AV.h 0 q.1.length 0 (q.1.length + 1)
          rw [hn]
        · show AV.ep 0 n n 0 = AV.ep 0 q.1.length q.1.length 0
          rw [hn]
        · show [AO.row n 147 3 ((allP q).map encPt)] = [AO.row q.1.length 147 3 ((allP q).map encPt)]
          rw [hn]
end Go.Proofs.Nw.K
end
section
/- Q6: a part's word. -/
open Go Go.RowKit Go.Proofs
set_option linter.unusedVariables false
set_option linter.unusedSimpArgs false
namespace Go.Proofs.Nw.K

def sA : Str := ⟨#[97]⟩
def sAlpha : Str := ⟨#[97, 108, 112, 104, 97]⟩
def sB : Str := ⟨#[98]⟩
def sBeta : Str := ⟨#[98, 101, 116, 97]⟩
def sM : Str := ⟨#[109]⟩
def sMile : Str := ⟨#[109, 105, 108, 101, 115, 116, 111, 110, 101]⟩
def sRc : Str := ⟨#[114, 99]⟩
def sCr : Str := ⟨#[99, 114]⟩
def sSnap : Str := ⟨#[115, 110, 97, 112, 115, 104, 111, 116]⟩
def sGa : Str := ⟨#[103, 97]⟩
def sFinal : Str := ⟨#[102, 105, 110, 97, 108]⟩
def sRelease : Str := ⟨#[114, 101, 108, 101, 97, 115, 101]⟩
def sSp : Str := ⟨#[115, 112]⟩

def longS (p : Pt) : Str := if p.number then (if (p.text.toList == sA.toList) then sAlpha else if (p.text.toList == sB.toList) then sBeta else if (p.text.toList == sM.toList) then sMile else p.text) else p.text
def kindS (s : Str) : Option Int := if (s.toList == sAlpha.toList) then some 1 else if (s.toList == sBeta.toList) then some 2 else if (s.toList == sMile.toList) then some 3 else if (s.toList == sRc.toList) || (s.toList == sCr.toList) then some 4 else if (s.toList == sSnap.toList) then some 5 else if (s.toList == sGa.toList) || (s.toList == sFinal.toList) || (s.toList == sRelease.toList) then some 6 else if (s.toList == sSp.toList) then some 7 else none
def lettersOf (p : Pt) : Wd := match kindS (longS p) with | some k => ⟨k, emp⟩ | none => ⟨8, p.text⟩

theorem letters_impl (p : Pt) : Impl Tryz.prog 131 [.agg (encPt p)] [.agg (encWd (lettersOf p))] := by
  refine impl_vc tabOk Tryz.func131 rfl rfl (by exact Nat.le_of_ble_eq_true rfl) ?_
  refine WP_seq (vc_sound tabOk (by kernel_rfl) ?_)
  refine WP_seq (vc_sound tabOk (by kernel_rfl) ?_)
  refine WP_seq_cut (α := Unit) (fun _ => ofL [(1, .ptr 0 0), (2, .ptr 1 0), (3, .str (longS p))]) (fun _ => [.box 147 ((encPt p).map AV.d), .box 94 [.d (dint 0), .d (dstr emp)]]) (vc_sound tabOk (by kernel_rfl) ?_) (fun _ => ?_)
  · have fin : ∀ (x : Str) (env : Env) (st : List AO), longS p = x → env 1 = .ptr 0 0 → env 2 = .ptr 1 0 → env 3 = .str x → st = [.box 147 ((encPt p).map AV.d), .box 94 [.d (dint 0), .d (dstr emp)]] → ∃ _ : Unit, Sub ⟨Tryz.f131.ntmps, 0⟩ env st (ofL [(1, .ptr 0 0), (2, .ptr 1 0), (3, .str (longS p))]) [.box 147 ((encPt p).map AV.d), .box 94 [.d (dint 0), .d (dstr emp)]] := fun x env st hx e1 e2 e3 es => by
      refine ⟨(), Sub.ofL _ _ (Nat.zero_le _) ⟨e1, rfl, e2, rfl, by rw [e3, hx], rfl, trivial⟩ (by rw [es]; rfl) rfl⟩
    refine And.intro (fun hn => ?_) (fun hn => ?_)
    · have hn : p.number = true := hn
      refine And.intro (fun ha => ?_) (fun ha => ?_)
      · have ha : (p.text.toList == sA.toList) = true := ha
        exact fin sAlpha _ _ (by unfold longS; rw [if_pos hn, if_pos ha]) rfl rfl rfl rfl
      have ha : (p.text.toList == sA.toList) = false := ha
      refine And.intro (fun hb => ?_) (fun hb => ?_)
      · have hb : (p.text.toList == sB.toList) = true := hb
        exact fin sBeta _ _ (by unfold longS; rw [if_pos hn, if_neg (by rw [ha]; decide), if_pos hb]) rfl rfl rfl rfl
      have hb : (p.text.toList == sB.toList) = false := hb
      refine And.intro (fun hm => ?_) (fun hm => ?_)
      · have hm : (p.text.toList == sM.toList) = true := hm
        exact fin sMile _ _ (by unfold longS; rw [if_pos hn, if_neg (by rw [ha]; decide), if_neg (by rw [hb]; decide), if_pos hm]) rfl rfl rfl rfl
      have hm : (p.text.toList == sM.toList) = false := hm
      exact fin p.text _ _ (by unfold longS; rw [if_pos hn, if_neg (by rw [ha]; decide), if_neg (by rw [hb]; decide), if_neg (by rw [hm]; decide)]) rfl rfl rfl rfl
    · have hn : p.number = false := hn
      exact fin p.text _ _ (by unfold longS; rw [if_neg (by rw [hn]; decide)]) rfl rfl rfl rfl
  generalize hs : longS p = s
  refine WP_seq (vc_sound tabOk (by kernel_rfl) ?_)
  refine WP_seq_cut (α := {k : Int // lettersOf p = ⟨k, emp⟩}) (fun k => ofL [(2, .ptr 1 0), (4, .int k.1)]) (fun _ => [.box 147 ((encPt p).map AV.d), .box 94 [.d (dint 0), .d (dstr emp)]]) (vc_sound tabOk (by kernel_rfl) ?_) (fun k => ?_)
  rotate_left
  · obtain ⟨k, hk⟩ := k
    refine vc_sound tabOk (by kernel_rfl) ?_
    refine And.intro rfl (And.intro (Nat.le_of_ble_eq_true rfl) ?_)
    refine And.intro rfl (And.intro (DLe.of_eq ?_) trivial)
    show DV.agg [dint k, dstr emp] = _
    rw [hk]; rfl
  refine And.intro (fun h00 => ?_) (fun h00 => ?_)
  · have h00 : (s.toList == sAlpha.toList) = true := h00
    exact ⟨⟨1, by unfold lettersOf; rw [hs, show kindS s = some 1 from (by unfold kindS;  rw [if_pos (by simp [h00])])]⟩, Sub.ofL _ _ (Nat.zero_le _) ⟨rfl, rfl, rfl, rfl, trivial⟩ rfl rfl⟩
  have h00 : (s.toList == sAlpha.toList) = false := h00
  refine And.intro (fun h10 => ?_) (fun h10 => ?_)
  · have h10 : (s.toList == sBeta.toList) = true := h10
    exact ⟨⟨2, by unfold lettersOf; rw [hs, show kindS s = some 2 from (by unfold kindS; rw [if_neg (by simp [h00])]; rw [if_pos (by simp [h10])])]⟩, Sub.ofL _ _ (Nat.zero_le _) ⟨rfl, rfl, rfl, rfl, trivial⟩ rfl rfl⟩
  have h10 : (s.toList == sBeta.toList) = false := h10
  refine And.intro (fun h20 => ?_) (fun h20 => ?_)
  · have h20 : (s.toList == sMile.toList) = true := h20
    exact ⟨⟨3, by unfold lettersOf; rw [hs, show kindS s = some 3 from (by unfold kindS; rw [if_neg (by simp [h00])]; rw [if_neg (by simp [h10])]; rw [if_pos (by simp [h20])])]⟩, Sub.ofL _ _ (Nat.zero_le _) ⟨rfl, rfl, rfl, rfl, trivial⟩ rfl rfl⟩
  have h20 : (s.toList == sMile.toList) = false := h20
  refine And.intro (fun h30 => ?_) (fun h30 => ?_)
  · have h30 : (s.toList == sRc.toList) = true := h30
    refine And.intro (fun _ => ?_) (fun h => absurd (h30.symm.trans h) (by decide))
    exact ⟨⟨4, by unfold lettersOf; rw [hs, show kindS s = some 4 from (by unfold kindS; rw [if_neg (by simp [h00])]; rw [if_neg (by simp [h10])]; rw [if_neg (by simp [h20])]; rw [if_pos (by simp [h30])])]⟩, Sub.ofL _ _ (Nat.zero_le _) ⟨rfl, rfl, rfl, rfl, trivial⟩ rfl rfl⟩
  have h30 : (s.toList == sRc.toList) = false := h30
  refine And.intro (fun h31 => ?_) (fun h31 => ?_)
  · have h31 : (s.toList == sCr.toList) = true := h31
    exact ⟨⟨4, by unfold lettersOf; rw [hs, show kindS s = some 4 from (by unfold kindS; rw [if_neg (by simp [h00])]; rw [if_neg (by simp [h10])]; rw [if_neg (by simp [h20])]; rw [if_pos (by simp [h30, h31])])]⟩, Sub.ofL _ _ (Nat.zero_le _) ⟨rfl, rfl, rfl, rfl, trivial⟩ rfl rfl⟩
  have h31 : (s.toList == sCr.toList) = false := h31
  refine And.intro (fun h40 => ?_) (fun h40 => ?_)
  · have h40 : (s.toList == sSnap.toList) = true := h40
    exact ⟨⟨5, by unfold lettersOf; rw [hs, show kindS s = some 5 from (by unfold kindS; rw [if_neg (by simp [h00])]; rw [if_neg (by simp [h10])]; rw [if_neg (by simp [h20])]; rw [if_neg (by simp [h30, h31])]; rw [if_pos (by simp [h40])])]⟩, Sub.ofL _ _ (Nat.zero_le _) ⟨rfl, rfl, rfl, rfl, trivial⟩ rfl rfl⟩
  have h40 : (s.toList == sSnap.toList) = false := h40
  refine And.intro (fun h50 => ?_) (fun h50 => ?_)
  · have h50 : (s.toList == sGa.toList) = true := h50
    refine And.intro (fun _ => ?_) (fun h => absurd (h50.symm.trans h) (by decide))
    exact ⟨⟨6, by unfold lettersOf; rw [hs, show kindS s = some 6 from (by unfold kindS; rw [if_neg (by simp [h00])]; rw [if_neg (by simp [h10])]; rw [if_neg (by simp [h20])]; rw [if_neg (by simp [h30, h31])]; rw [if_neg (by simp [h40])]; rw [if_pos (by simp [h50])])]⟩, Sub.ofL _ _ (Nat.zero_le _) ⟨rfl, rfl, rfl, rfl, trivial⟩ rfl rfl⟩
  have h50 : (s.toList == sGa.toList) = false := h50
  refine And.intro (fun h51 => ?_) (fun h51 => ?_)
  · have h51 : (s.toList == sFinal.toList) = true := h51
    refine And.intro (fun _ => ?_) (fun h => absurd (h51.symm.trans h) (by decide))
    exact ⟨⟨6, by unfold lettersOf; rw [hs, show kindS s = some 6 from (by unfold kindS; rw [if_neg (by simp [h00])]; rw [if_neg (by simp [h10])]; rw [if_neg (by simp [h20])]; rw [if_neg (by simp [h30, h31])]; rw [if_neg (by simp [h40])]; rw [if_pos (by simp [h50, h51])])]⟩, Sub.ofL _ _ (Nat.zero_le _) ⟨rfl, rfl, rfl, rfl, trivial⟩ rfl rfl⟩
  have h51 : (s.toList == sFinal.toList) = false := h51
  refine And.intro (fun h52 => ?_) (fun h52 => ?_)
  · have h52 : (s.toList == sRelease.toList) = true := h52
    exact ⟨⟨6, by unfold lettersOf; rw [hs, show kindS s = some 6 from (by unfold kindS; rw [if_neg (by simp [h00])]; rw [if_neg (by simp [h10])]; rw [if_neg (by simp [h20])]; rw [if_neg (by simp [h30, h31])]; rw [if_neg (by simp [h40])]; rw [if_pos (by simp [h50, h51, h52])])]⟩, Sub.ofL _ _ (Nat.zero_le _) ⟨rfl, rfl, rfl, rfl, trivial⟩ rfl rfl⟩
  have h52 : (s.toList == sRelease.toList) = false := h52
  refine And.intro (fun h60 => ?_) (fun h60 => ?_)
  · have h60 : (s.toList == sSp.toList) = true := h60
    exact ⟨⟨7, by unfold lettersOf; rw [hs, show kindS s = some 7 from (by unfold kindS; rw [if_neg (by simp [h00])]; rw [if_neg (by simp [h10])]; rw [if_neg (by simp [h20])]; rw [if_neg (by simp [h30, h31])]; rw [if_neg (by simp [h40])]; rw [if_neg (by simp [h50, h51, h52])]; rw [if_pos (by simp [h60])])]⟩, Sub.ofL _ _ (Nat.zero_le _) ⟨rfl, rfl, rfl, rfl, trivial⟩ rfl rfl⟩
  have h60 : (s.toList == sSp.toList) = false := h60
  refine And.intro rfl (And.intro (Nat.le_of_ble_eq_true rfl) ?_)
  refine And.intro rfl (And.intro (DLe.of_eq ?_) trivial)
  have hk : kindS s = none := by unfold kindS; rw [if_neg (by simp [h00])]; rw [if_neg (by simp [h10])]; rw [if_neg (by simp [h20])]; rw [if_neg (by simp [h30, h31])]; rw [if_neg (by simp [h40])]; rw [if_neg (by simp [h50, h51, h52])]; rw [if_neg (by simp [h60])]
  unfold lettersOf
  rw [hs, hk]; rfl
end Go.Proofs.Nw.K
end
