import Derived.Test.YtjfpnnmagnljnaaNwB3
import Derived.Test.YtjfpnnmagnljnaaNwS1
open Go Go.RowKit Go.Proofs
set_option linter.unusedVariables false
set_option linter.unusedSimpArgs false
namespace Go.Proofs.Nw.K

theorem not_true_eq {b : Bool} (h : (!b) = true) : b = false := by cases b <;> simp_all
theorem not_false_eq {b : Bool} (h : (!b) = false) : b = true := by cases b <;> simp_all

theorem Or_impl (l : List Str) (hl : l.length ≤ maxLen) : Impl Try.prog 48 [.one (dStrs l)] [.one (dstr (orOf l))] := by
  simp only [maxLen] at hl
  refine impl_vc tabOk Try.func48 rfl rfl (by exact Nat.le_of_ble_eq_true rfl) (vc_sound tabOk (by kernel_rfl) ?_)
  refine WP_loop (α := {i : Nat // i ≤ l.length ∧ orOf (l.drop i) = orOf l}) (fun i => ofL [(2, .str emp), (3, .str emp), (6, .d (dStrs l)), (7, .int l.length), (8, .int (i.1 : Int))]) (fun _ => []) (fun i => l.length - i.1) ⟨0, by simp⟩ ?_ ?_
  · exact Sub.ofL _ _ (Nat.le_refl _) ⟨rfl, rfl, rfl, rfl, rfl, rfl, rfl, rfl, rfl, rfl, trivial⟩ rfl rfl
  rintro ⟨i, hi, hor⟩
  refine vc_sound tabOk (by kernel_rfl) ?_
  refine And.intro rfl (And.intro (fun h => ?_) (fun h => ?_))
  · have hlt : i < l.length := by simpa using h
    have hd : l.drop i = l[i] :: l.drop (i + 1) := List.drop_eq_getElem_cons hlt
    have hg : l.getD i emp = l[i] := by simp [List.getD, hlt]
    refine And.intro rfl (And.intro (Int.natCast_nonneg _) (And.intro (by simpa using hlt) (And.intro (fun h => ?_) (fun h => ?_))))
    · refine And.intro (DLe.of_eq ?_) trivial
      simp only [Int.toNat_natCast, hg] at h ⊢
      rw [← hor, hd]
      simp only [orOf]
      simp at h
      simp [h]
    · refine And.intro rfl (And.intro ⟨by omega, by show ((i : Int) + 1) ≤ _; omega⟩ ?_)
      refine ⟨⟨i + 1, hlt, ?_⟩, by simp; omega, Sub.ofL _ _ (Nat.le_refl _) ⟨rfl, rfl, rfl, rfl, rfl, rfl, rfl, rfl, rfl, rfl, trivial⟩ rfl rfl⟩
      · simp only [Int.toNat_natCast, hg] at h
        rw [← hor, hd]
        simp only [orOf]
        simp at h
        simp [h]
  · have hge : ¬ i < l.length := by simpa using h
    refine And.intro (DLe.of_eq ?_) trivial
    have : l.drop i = [] := List.drop_eq_nil_of_le (by omega)
    rw [this] at hor
    rw [← hor]; rfl

theorem Join_impl (l : List Str) (sep : Str) (h0 : l ≠ []) (hN : l.length ≤ 140737488355328) (hlen : (joinOf l sep).size ≤ 140737488355328) : Impl Try.prog 65 [.one (dStrs l), .one (dstr sep)] [.one (dstr (joinOf l sep))] := by
  intro w σ vs hs hv
  obtain ⟨hl, hr⟩ := hv
  match vs, hl with
  | [v, u], _ =>
    have h1 : Rep σ v (dStrs l) := hr 0 v _ rfl rfl
    have h2 : u = .string sep := RepA_sc (gh := []) (st := []) (hr 1 u _ rfl rfl)
    subst h2
    cases h1 with
    | tl h1 =>
      generalize hm : l.map encStr = m at h1
      cases h1 with
      | nil _ => exact absurd (by simpa using hm) h0
      | @list b off n c _ _ val hn _ hc hmx hsz hcell hval =>
        subst hm
        have hn : n = l.length := by simpa using hn
        subst hn
        have hcells : ∀ (j : Nat) x, l[j]? = some x → w.cell? ⟨b, off + j, none⟩ = some (.string x) := fun j x hx => by
          have hj : j < l.length := (List.getElem?_eq_some_iff.1 hx).1
          have a1 := (hs.cell _ _ _ (hcell j 0 hj (by decide))).1
          have a2 := hval j 0 (encStr x) (dstr x) (by simp [hx]) rfl
          have a3 : val j 0 = .string x := RepA_sc (gh := []) (st := []) a2
          rw [a3] at a1
          simpa using a1
        have hb : b < w.heap.size := by
          cases l with
          | nil => exact absurd rfl h0
          | cons x r => exact World.block_lt_of_cell? w _ (hcells 0 x rfl)
        refine (Try.strings_Join b off c l sep w hcells hb hN hc (by rw [str_size] at hlen; simpa [joinOf] using hlen)).mono fun e w' ⟨h8, h9⟩ => ?_
        refine ⟨_, σ, h8, h9, hs.grown (grown_of_below h9 none) (fun _ h => by cases h), fun _ _ => ⟨rfl, rfl⟩, Rep.sc rfl⟩

theorem lineOf_join (d : Dep) : lineOf d = (if d.classifier.toList == emp.toList then joinOf [d.group, d.name, tyOf d, d.version, d.scope] colon else joinOf [d.group, d.name, tyOf d, d.classifier, d.version, d.scope] colon) := by
  unfold lineOf
  split <;> simp only [join_cons, join_one, app_assoc]

theorem tyOf_or (d : Dep) : orOf [d.type, jar] = tyOf d := by
  simp only [orOf, tyOf]
  split
  · rw [if_neg (by rw [str_beq]; decide)]
  · rfl

theorem Line_impl (d : Dep) (h : d.wt ≤ 4194304) : Impl Try.prog 40 [.agg (encDep d)] [.one (dstr (lineOf d))] := by
  have hsz := lineOf_size d
  refine impl_vc tabOk Try.func40 rfl rfl (by exact Nat.le_of_ble_eq_true rfl) (vc_sound tabOk (by kernel_rfl) ?_)
  refine ⟨rfl, rfl, rfl, rfl, rfl, rfl, ?_⟩
  refine And.intro rfl (And.intro (by decide) (And.intro (by decide) (And.intro rfl (Or.inl (And.intro rfl ?_)))))
  refine And.intro rfl (Exists.intro _ (Exists.intro _ (And.intro (Or_impl [d.type, jar] (Nat.le_of_ble_eq_true rfl)) (And.intro (And.intro (DLe.tl emp rfl) trivial) (And.intro rfl ?_)))))
  refine And.intro rfl (And.intro (by decide) (And.intro (by decide) (And.intro rfl (Or.inr (And.intro rfl ?_)))))
  refine And.intro rfl ?_
  refine And.intro (fun h => ?_) (fun h => ?_)
  · refine And.intro rfl (And.intro (by decide) (And.intro (by decide) (And.intro rfl (Or.inl ?_))))
    refine And.intro rfl (And.intro rfl (And.intro (List.cons_ne_nil _ _) (And.intro rfl (And.intro (List.cons_ne_nil _ _) (And.intro (Nat.le_of_ble_eq_true rfl) (And.intro (Nat.le_of_ble_eq_true rfl) ?_))))))
    refine And.intro rfl (And.intro (by decide) (And.intro (by decide) (And.intro rfl (Or.inl ?_))))
    refine And.intro rfl (And.intro ⟨rfl, rfl, rfl, rfl⟩ (And.intro rfl (And.intro (Nat.le_of_ble_eq_true rfl) (And.intro (Nat.le_of_ble_eq_true rfl) ?_))))
    refine And.intro rfl (Or.inr (Or.inl (And.intro ⟨rfl, rfl, rfl⟩ ?_)))
    have hc : (d.classifier.toList == emp.toList) = false := not_true_eq h
    refine Exists.intro _ (Exists.intro _ (And.intro (Join_impl [d.group, d.name, tyOf d, d.classifier, d.version, d.scope] colon (List.cons_ne_nil _ _) (Nat.le_of_ble_eq_true rfl) ?_) (And.intro (And.intro (DLe.tl emp ?_) (And.intro (DLe.refl _) trivial)) ?_)))
    · have := lineOf_join d
      rw [if_neg (by rw [hc]; decide)] at this
      rw [← this]; omega
    · rw [← tyOf_or]; rfl
    · refine And.intro (DLe.of_eq ?_) trivial
      have := lineOf_join d
      rw [if_neg (by rw [hc]; decide)] at this
      rw [this]
  · refine And.intro rfl (And.intro (by decide) (And.intro (by decide) (And.intro rfl (Or.inl ?_))))
    refine And.intro rfl (And.intro rfl (And.intro (List.cons_ne_nil _ _) (And.intro rfl (And.intro (List.cons_ne_nil _ _) (And.intro (Nat.le_of_ble_eq_true rfl) (And.intro (Nat.le_of_ble_eq_true rfl) ?_))))))
    refine And.intro rfl (Or.inr (Or.inl (And.intro ⟨rfl, rfl, rfl⟩ ?_)))
    have hc : (d.classifier.toList == emp.toList) = true := not_false_eq h
    refine Exists.intro _ (Exists.intro _ (And.intro (Join_impl [d.group, d.name, tyOf d, d.version, d.scope] colon (List.cons_ne_nil _ _) (Nat.le_of_ble_eq_true rfl) ?_) (And.intro (And.intro (DLe.tl emp ?_) (And.intro (DLe.refl _) trivial)) ?_)))
    · have := lineOf_join d
      rw [if_pos hc] at this
      rw [← this]; omega
    · rw [← tyOf_or]; rfl
    · refine And.intro (DLe.of_eq ?_) trivial
      have := lineOf_join d
      rw [if_pos hc] at this
      rw [this]

theorem linesOf_snoc (l : List Dep) (i : Nat) (h : i < l.length) : linesOf (l.take (i + 1)) = linesOf (l.take i) ++ (lineOf l[i] ++ nl) := by
  rw [List.take_succ_eq_append_getElem h, linesOf_append]
  congr 1
  simp only [linesOf, app_emp]

def linesSt (l : List Dep) : Nat → List AO
  | 0 => [.box 77 [.sc (.pointer none), .nils]]
  | i + 1 => [.box 77 [.ptr 0 0, .h 2 i 0 (linesOf (l.take (i + 1))).data.toList.length], .box 35 ((encDep (l.getD 0 zDep)).map AV.d), .row i 5 1 (byteRows (linesOf (l.take (i + 1))).data.toList)]

theorem le_sum_of_mem : ∀ {l : List Nat} {a : Nat}, a ∈ l → a ≤ l.sum
  | b :: r, a, h => by
    rcases List.mem_cons.1 h with rfl | h
    · simp
    · have := le_sum_of_mem h; simp; omega

theorem sum_take {α : Type} (f : α → Nat) (l : List α) (i : Nat) : ((l.take i).map f).sum ≤ (l.map f).sum := by
  conv => rhs; rw [← List.take_append_drop i l]
  rw [List.map_append, List.sum_append]; omega

theorem Lines_impl (l : List Dep) (h : (l.map Dep.wt).sum ≤ 4194304) : Impl Try.prog 17 [.one (dDeps l)] [.one (dstr (linesOf l))] := by
  have hlen := len_le_wt l
  have hwt : ∀ i (hi : i < l.length), l[i].wt ≤ 4194304 := fun i hi => by
    have := le_sum_of_mem (l := l.map Dep.wt) (a := l[i].wt) (List.mem_map_of_mem (List.getElem_mem hi))
    omega
  have hpre : ∀ i, (linesOf (l.take i)).size ≤ 2 * 4194304 := fun i => by
    have h1 := linesOf_size (l.take i)
    have h2 := sum_take Dep.wt l i
    have h3 : (l.take i).length ≤ l.length := by rw [List.length_take]; omega
    omega
  refine impl_vc tabOk Try.func17 rfl rfl (by exact Nat.le_of_ble_eq_true rfl) (vc_sound tabOk (by kernel_rfl) ?_)
  refine WP_loop (α := {i : Nat // i ≤ l.length}) (fun i => ofL [(2, .str emp), (3, .ptr 0 0), (6, .d (dDeps l)), (7, .int l.length), (8, .int (i.1 : Int))]) (fun i => linesSt l i.1) (fun i => l.length - i.1) ⟨0, by simp⟩ ?_ ?_
  · exact Sub.ofL _ _ (Nat.zero_le _) ⟨rfl, rfl, rfl, rfl, rfl, rfl, rfl, rfl, rfl, rfl, trivial⟩ rfl rfl
  rintro ⟨i, hi⟩
  cases i with
  | zero =>
    refine vc_sound tabOk (by kernel_rfl) ?_
    refine And.intro rfl (And.intro (fun h => ?_) (fun h => ?_))
    · have hlt : 0 < l.length := by simpa using h
      have hg : l.getD 0 zDep = l[0] := by simp [List.getD, hlt]
      refine And.intro rfl (And.intro (Int.natCast_nonneg _) (And.intro (by simpa using hlt) ?_))
      refine And.intro (Nat.le_of_ble_eq_true rfl) ?_
      refine And.intro rfl (And.intro (Nat.le_of_ble_eq_true rfl) ?_)
      refine And.intro rfl ?_
      refine And.intro rfl (Exists.intro _ (Exists.intro _ (And.intro (Line_impl (l.getD 0 zDep) ?_) (And.intro (AsLe.refl _) ?_))))
      · rw [hg]; exact hwt 0 hlt
      have hls := lineOf_size (l.getD 0 zDep)
      have hw0 := hwt 0 hlt
      rw [← hg] at hw0
      refine And.intro (by show (lineOf (l.getD 0 zDep)).size + 1 ≤ _; omega) ?_
      refine And.intro rfl (Or.inl (Exists.intro _ (Exists.intro _ (And.intro (write_first (s := 0) rfl (.inl rfl) _ ?_) ?_))))
      · rw [app_size]; show _ + 1 ≤ _; omega
      refine And.intro rfl (And.intro ⟨by omega, by show (0 : Int) + 1 ≤ _; decide⟩ ?_)
      refine ⟨⟨1, hlt⟩, by simp; omega, Sub.ofL _ _ (Nat.zero_le _) ⟨rfl, rfl, rfl, rfl, rfl, rfl, rfl, rfl, rfl, rfl, trivial⟩ ?_ rfl⟩
      have e1 : linesOf (l.take 1) = lineOf (l.getD 0 zDep) ++ nl := by
        rw [linesOf_snoc l 0 hlt, hg]
        exact emp_app _
      show _ = linesSt l 1
      simp only [linesSt, e1]
      rfl
    · have h0 : l = [] := List.eq_nil_of_length_eq_zero (by
        have : ¬ 0 < l.length := by simpa using h
        omega)
      subst h0
      refine And.intro rfl (Or.inl (Exists.intro _ (Exists.intro _ (And.intro (string_new (s := 0) rfl) ?_))))
      exact And.intro (DLe.refl _) trivial
  | succ i =>
    refine vc_sound tabOk (by kernel_rfl) ?_
    refine And.intro rfl (And.intro (fun h => ?_) (fun h => ?_))
    · have hlt : i + 1 < l.length := by
        have h : decide (((i + 1 : Nat) : Int) < (l.length : Int)) = true := h
        have := of_decide_eq_true h
        omega
      have hg : l.getD (i + 1) zDep = l[i + 1] := by simp [List.getD, hlt]
      refine And.intro rfl (And.intro (Int.natCast_nonneg _) (And.intro (by show ((i + 1 : Nat) : Int) < (l.length : Int); omega) ?_))
      refine And.intro (Nat.le_of_ble_eq_true rfl) ?_
      refine And.intro rfl (And.intro (Nat.le_of_ble_eq_true rfl) ?_)
      refine And.intro rfl ?_
      refine And.intro rfl (Exists.intro _ (Exists.intro _ (And.intro (Line_impl (l.getD (i + 1) zDep) ?_) (And.intro (AsLe.refl _) ?_))))
      · rw [hg]; exact hwt _ hlt
      have hls := lineOf_size (l.getD (i + 1) zDep)
      have hw0 := hwt _ hlt
      rw [← hg] at hw0
      refine And.intro (by show (lineOf (l.getD (i + 1) zDep)).size + 1 ≤ _; omega) ?_
      have hp := hpre (i + 1)
      refine And.intro rfl (Or.inl (Exists.intro _ (Exists.intro _ (And.intro (write_more (s := 0) (r := 2) (k := i) (l := (linesOf (l.take (i + 1))).data.toList) rfl rfl _ ?_) ?_))))
      · rw [app_size, ← str_size]; show _ + (_ + 1) ≤ _; omega
      refine And.intro rfl (And.intro ⟨by omega, by show ((i + 1 : Nat) : Int) + 1 ≤ _; omega⟩ ?_)
      refine ⟨⟨i + 2, hlt⟩, by simp; omega, Sub.ofL _ _ (Nat.zero_le _) ⟨rfl, rfl, rfl, rfl, rfl, rfl, rfl, rfl, rfl, rfl, trivial⟩ ?_ rfl⟩
      have e1 : linesOf (l.take (i + 2)) = linesOf (l.take (i + 1)) ++ (lineOf (l.getD (i + 1) zDep) ++ nl) := by
        rw [linesOf_snoc l (i + 1) hlt, hg]
      show _ = linesSt l (i + 2)
      simp only [linesSt, e1, str_app]
      rfl
    · have h0 : l.take (i + 1) = l := by
        have h : decide (((i + 1 : Nat) : Int) < (l.length : Int)) = false := h
        have := of_decide_eq_false h
        exact List.take_of_length_le (by omega)
      refine And.intro rfl (Or.inl (Exists.intro _ (Exists.intro _ (And.intro (string_used (s := 0) (r := 2) (l := (linesOf (l.take (i + 1))).data.toList) rfl rfl) ?_))))
      refine And.intro (DLe.of_eq ?_) trivial
      rw [h0]
end Go.Proofs.Nw.K
