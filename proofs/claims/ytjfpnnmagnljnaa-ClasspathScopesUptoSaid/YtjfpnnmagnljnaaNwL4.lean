/- L4: the law ClasspathScopes. -/
import Derived.Test.YtjfpnnmagnljnaaNwC9
import Derived.Test.YtjfpnnmagnljnaaNwK22
import Derived.Test.YtjfpnnmagnljnaaNwL3
import Derived.Test.YtjfpnnmagnljnaaNwO1
open Go Go.RowKit Go.Proofs
set_option linter.unusedVariables false
set_option linter.unusedSimpArgs false
namespace Go.Proofs.Nw.K

def nameOf (n : Int) : Str := if n = 0 then sCompile else if n = 1 then sRuntime else if n = 2 then sProvided else sTest
def kindAt (kinds : List Int) (j : Nat) : Int := if j < kinds.length then 1 + m4 (kinds.getD j 0) else 1
def nodeAt (scopes kinds : List Int) (j : Nat) : Found := ⟨-1, j, ⟨⟨#[103]⟩, ⟨#[110]⟩ ++ digitsOf j, ⟨#[49]⟩, emp, emp, nameOf (m4 (scopes.getD j 0)), false, []⟩, kindAt kinds j⟩
def nodesTo (scopes kinds : List Int) (i : Nat) : List Found := (List.range i).map (nodeAt scopes kinds)
def encF0 (f : Found) : List D := [dint f.parent, dint f.index, dstr f.dep.group, dstr f.dep.name, dstr f.dep.version, dstr f.dep.type, dstr f.dep.classifier, dstr f.dep.scope, dbool f.dep.optional, .nils, dint f.kind]
def dNames : D := .list 1 [[dstr sCompile], [dstr sRuntime], [dstr sProvided], [dstr sTest]]

theorem nodesTo_succ (scopes kinds : List Int) (i : Nat) : nodesTo scopes kinds (i + 1) = nodesTo scopes kinds i ++ [nodeAt scopes kinds i] := by
  simp [nodesTo, List.range_succ]
theorem nodesTo_length (scopes kinds : List Int) (i : Nat) : (nodesTo scopes kinds i).length = i := by simp [nodesTo]

theorem ClasspathScopes_impl (scopes kinds : List Int) (kind : Int) (_ : scopes.length ≤ maxLen ∧ ∀ s ∈ scopes, isInt s) (_ : kinds.length ≤ maxLen ∧ ∀ s ∈ kinds, isInt s) (_ : isInt kind) (h : (scopes.map (fun _ => 1)).sum + 1 + ((kinds.map (fun _ => 1)).sum + 1) + 1 ≤ 1048576) :
    Impl Try.prog 4 [.one (dInts scopes), .one (dInts kinds), .one (dint kind)] [.one (.sc (.bool true))] := by
  have hm := m4_ok kind
  have hsl : scopes.length ≤ 1048576 := by
    have := len_le_sum (fun _ : Int => 1) (fun _ => Nat.le_refl _) scopes
    omega
  refine impl_vc tabOk Try.func4 rfl rfl (by exact Nat.le_of_ble_eq_true rfl) ?_
  refine WP_seq (vc_sound tabOk (by kernel_rfl) ?_)
  refine WP_seq (vc_sound tabOk (by kernel_rfl) ?_)
  refine And.intro rfl (And.intro (by decide) (And.intro (by decide) (And.intro rfl (Or.inl ?_))))
  refine WP_seq (vc_sound tabOk (by kernel_rfl) ?_)
  refine And.intro rfl (And.intro rfl (And.intro (by decide) (And.intro rfl (And.intro rfl (And.intro ?_ ?_)))))
  · show _ ≤ 2 + m4 kind ∧ 2 + m4 kind ≤ _; omega
  refine WP_seq (vc_sound tabOk (by kernel_rfl) ?_)
  refine WP_seq (vc_sound tabOk (by kernel_rfl) ?_)
  generalize hkk : 2 + m4 kind = kk
  have hgk : goodKind kk = true := (good_iff kk).2 (by omega)
  refine WP_sub (Sub.ofL [(0, .d (dInts scopes)), (1, .d (dInts kinds)), (2, .int kk), (7, .d dNames), (8, .ptr 0 0), (9, .int 0)] [.box 26 [.d (dstr emp), .d (dstr emp), .d (dstr emp), .nils]] (Nat.zero_le _) ⟨rfl, rfl, rfl, rfl, ?_, rfl, rfl, rfl, rfl, rfl, rfl, rfl, trivial⟩ rfl rfl) ?_
  · show AV.int (2 + m4 kind) = _; rw [hkk]
  refine WP_seq_cut (α := {i : Nat // i ≤ 30 ∧ i ≤ scopes.length}) (fun i => ofL [(2, .int kk), (8, .ptr 0 0), (9, .int (ofOf kk (nodesTo scopes kinds i.1)).length)])
    (fun i => [.box 26 [.d (dstr emp), .d (dstr emp), .d (dstr emp), .h 1 i.1 0 i.1], .row i.1 45 11 ((nodesTo scopes kinds i.1).map encF0)]) (WP_seq (vc_sound tabOk (by kernel_rfl) ?_)) (fun i => ?_)
  · refine WP_block (WP_loop (α := {i : Nat // i ≤ 30 ∧ i ≤ scopes.length}) (fun i => ofL [(0, .d (dInts scopes)), (1, .d (dInts kinds)), (2, .int kk), (7, .d dNames), (8, .ptr 0 0), (9, .int (ofOf kk (nodesTo scopes kinds i.1)).length), (10, .int (i.1 : Int))])
      (fun i => [.box 26 [.d (dstr emp), .d (dstr emp), .d (dstr emp), .h 1 i.1 0 i.1], .row i.1 45 11 ((nodesTo scopes kinds i.1).map encF0)]) (fun i => 30 - i.1) ⟨0, Nat.zero_le _, Nat.zero_le _⟩ ?_ ?_)
    · exact (Sub.nilsCell (s := 0) (i := 3) 45 11 rfl rfl).trans (Sub.ofL _ _ (Nat.zero_le _) ⟨rfl, rfl, rfl, rfl, rfl, rfl, rfl, rfl, rfl, rfl, rfl, rfl, rfl, rfl, trivial⟩ rfl rfl)
    rintro ⟨i, hi30, hil⟩
    refine WP_seq (vc_sound tabOk (by kernel_rfl) ?_)
    refine And.intro rfl ?_
    cases hc1 : decide ((i : Int) < (scopes.length : Int)) with
    | false =>
      apply And.intro
      · exact ltb rfl
      refine And.intro (fun h => by cases h) (fun _ => ?_)
      apply And.intro
      · exact ltb rfl
      refine And.intro (fun h => by cases h) (fun _ => ?_)
      refine And.intro (fun h => by cases h) (fun _ => ?_)
      refine And.intro (fun h => by cases h) (fun _ => ?_)
      exact ⟨⟨i, hi30, hil⟩, Sub.ofL _ _ (Nat.zero_le _) ⟨rfl, rfl, rfl, rfl, rfl, rfl, trivial⟩ rfl rfl⟩
    | true =>
      have hlt : i < scopes.length := by have := of_decide_eq_true hc1; omega
      apply And.intro
      · exact ltb rfl
      refine And.intro (fun _ => ?_) (fun h => absurd rfl h)
      apply And.intro
      · exact ltb rfl
      refine And.intro (fun _ => And.intro rfl ?_) (fun h => absurd rfl h)
      refine And.intro (fun _ => ?_) (fun h => by cases h)
      refine And.intro (fun h30 => ?_) (fun h30 => ?_)
      rotate_left
      · exact ⟨⟨i, hi30, hil⟩, Sub.ofL _ _ (Nat.zero_le _) ⟨rfl, rfl, rfl, rfl, rfl, rfl, trivial⟩ rfl rfl⟩
      have hi' : i < 30 := by
        have h30 : decide ((i : Int) < 30) = true := h30
        have := of_decide_eq_true h30; omega
      refine WP_seq (WP_block (WP_seq (vc_sound tabOk (by kernel_rfl) ?_)))
      refine WP_seq_cut (α := Unit) (fun _ => ofL [(0, .d (dInts scopes)), (1, .d (dInts kinds)), (2, .int kk), (7, .d dNames), (8, .ptr 0 0), (9, .int (ofOf kk (nodesTo scopes kinds i)).length), (10, .int (i : Int)), (11, .int (kindAt kinds i))])
        (fun _ => [.box 26 [.d (dstr emp), .d (dstr emp), .d (dstr emp), .h 1 i 0 i], .row i 45 11 ((nodesTo scopes kinds i).map encF0)]) (vc_sound tabOk (by kernel_rfl) ?_) (fun _ => ?_)
      · refine And.intro rfl ?_
        refine And.intro (fun hk => ?_) (fun hk => ?_)
        · have hk : decide ((i : Int) < (kinds.length : Int)) = true := hk
          have hki : i < kinds.length := by have := of_decide_eq_true hk; omega
          have hmk := m4_ok (kinds.getD i 0)
          refine And.intro rfl (And.intro (Int.natCast_nonneg _) (And.intro (by show (i : Int) < (kinds.length : Int); omega) ?_))
          refine And.intro rfl ?_
          refine And.intro rfl (And.intro (by decide) ?_)
          refine And.intro rfl (And.intro rfl (And.intro ?_ ?_))
          · show _ ≤ 1 + m4 (kinds.getD i 0) ∧ 1 + m4 (kinds.getD i 0) ≤ _; omega
          refine ⟨(), Sub.ofL _ _ (Nat.zero_le _) ⟨rfl, rfl, rfl, rfl, rfl, rfl, rfl, rfl, rfl, rfl, rfl, rfl, rfl, rfl, ?_, rfl, trivial⟩ rfl rfl⟩
          show AV.int (1 + m4 (kinds.getD i 0)) = AV.int (kindAt kinds i)
          rw [kindAt, if_pos hki]
        · have hk : decide ((i : Int) < (kinds.length : Int)) = false := hk
          have hki : ¬ i < kinds.length := by have := of_decide_eq_false hk; omega
          refine ⟨(), Sub.ofL _ _ (Nat.zero_le _) ⟨rfl, rfl, rfl, rfl, rfl, rfl, rfl, rfl, rfl, rfl, rfl, rfl, rfl, rfl, ?_, rfl, trivial⟩ rfl rfl⟩
          show AV.int 1 = AV.int (kindAt kinds i)
          rw [kindAt, if_neg hki]
      have hmi := m4_ok (scopes.getD i 0)
      have hkb : 1 ≤ kindAt kinds i ∧ kindAt kinds i ≤ 4 := by
        unfold kindAt
        have := m4_ok (kinds.getD i 0)
        split <;> omega
      refine WP_seq (vc_sound tabOk (by kernel_rfl) ?_)
      refine And.intro rfl (And.intro (Int.natCast_nonneg _) (And.intro (by show (i : Int) < (scopes.length : Int); omega) ?_))
      refine And.intro rfl ?_
      refine And.intro rfl (And.intro (by decide) ?_)
      refine And.intro rfl ?_
      refine And.intro rfl (And.intro hmi.1 (Exists.intro [dstr (nameOf (m4 (scopes.getD i 0)))] (And.intro ?_ ?_)))
      · show [[dstr sCompile], [dstr sRuntime], [dstr sProvided], [dstr sTest]][(m4 (scopes.getD i 0)).toNat]? = _
        generalize m4 (scopes.getD i 0) = x at hmi
        have : x = 0 ∨ x = 1 ∨ x = 2 ∨ x = 3 := by omega
        rcases this with rfl | rfl | rfl | rfl <;> rfl
      generalize hsc : nameOf (m4 (scopes.getD i 0)) = sc
      have e1 : nodesTo scopes kinds (i + 1) = nodesTo scopes kinds i ++ [nodeAt scopes kinds i] := nodesTo_succ _ _ _
      have e2 : (ofOf kk (nodesTo scopes kinds (i + 1))).length = (ofOf kk (nodesTo scopes kinds i)).length + (if ((kindAt kinds i == 1) && inScope kk sc) = true then 1 else 0) := by
        rw [e1, ofOf_append, List.length_append]
        congr 1
        show (if _ then _ else _ : List Dep).length = _
        rw [← hsc]
        show (if ((kindAt kinds i == 1) && inScope kk (nameOf (m4 (scopes.getD i 0)))) = true then _ else _ : List Dep).length = _
        split <;> rfl
      have hol : (ofOf kk (nodesTo scopes kinds i)).length ≤ 30 := by
        have := ofOf_length kk (nodesTo scopes kinds i)
        rw [nodesTo_length] at this; omega
      refine WP_seq_cut (α := Unit) (fun _ => ofL [(0, .d (dInts scopes)), (1, .d (dInts kinds)), (2, .int kk), (7, .d dNames), (8, .ptr 0 0), (9, .int (ofOf kk (nodesTo scopes kinds (i + 1))).length), (10, .int (i : Int)), (11, .int (kindAt kinds i)), (12, .str sc)])
        (fun _ => [.box 26 [.d (dstr emp), .d (dstr emp), .d (dstr emp), .h 1 i 0 i], .row i 45 11 ((nodesTo scopes kinds i).map encF0)]) (vc_sound tabOk (by kernel_rfl) ?_) (fun _ => ?_)
      · refine And.intro rfl ?_
        cases hb : (kindAt kinds i == 1) with
        | true =>
          apply And.intro
          · exact ltb rfl
          refine And.intro (fun _ => ?_) (fun h => absurd rfl h)
          apply And.intro
          · exact ltb rfl
          refine And.intro (fun _ => ?_) (fun h => absurd rfl h)
          apply And.intro
          · exact ltb rfl
          refine And.intro (fun _ => ?_) (fun h => absurd rfl h)
          refine And.intro rfl (Exists.intro _ (Exists.intro _ (And.intro (refIn_impl kk sc) (And.intro (AsLe.refl _) ?_))))
          refine And.intro (fun _ => ?_) (fun h => by cases h)
          refine And.intro (fun hs => ?_) (fun hs => ?_)
          · have hs : inScope kk sc = true := hs
            refine And.intro rfl (And.intro ⟨by omega, by omega⟩ ?_)
            refine ⟨(), Sub.ofL _ _ (Nat.zero_le _) ⟨rfl, rfl, rfl, rfl, rfl, rfl, rfl, rfl, rfl, rfl, ?_, rfl, rfl, rfl, rfl, rfl, rfl, rfl, trivial⟩ rfl rfl⟩
            rw [e2, hb, hs]; rfl
          · have hs : inScope kk sc = false := hs
            refine ⟨(), Sub.ofL _ _ (Nat.zero_le _) ⟨rfl, rfl, rfl, rfl, rfl, rfl, rfl, rfl, rfl, rfl, ?_, rfl, rfl, rfl, rfl, rfl, rfl, rfl, trivial⟩ rfl rfl⟩
            rw [e2, hb, hs]; rfl
        | false =>
          have hb' : ¬ (kindAt kinds i == 1) = true := by rw [hb]; decide
          apply And.intro
          · exact ltb rfl
          refine And.intro (fun h => by cases h) (fun _ => ?_)
          apply And.intro
          · exact ltb rfl
          refine And.intro (fun h => by cases h) (fun _ => ?_)
          apply And.intro
          · exact ltb rfl
          refine And.intro (fun h => by cases h) (fun _ => ?_)
          refine And.intro (fun h => by cases h) (fun _ => ?_)
          refine And.intro (fun h => by cases h) (fun _ => ?_)
          refine ⟨(), Sub.ofL _ _ (Nat.zero_le _) ⟨rfl, rfl, rfl, rfl, rfl, rfl, rfl, rfl, rfl, rfl, ?_, rfl, rfl, rfl, rfl, rfl, rfl, rfl, trivial⟩ rfl rfl⟩
          rw [e2, hb]; rfl
      have hds := digitsOf_size (i : Int)
      refine vc_draw2 tabOk 11 (by kernel_rfl) ?_
      refine And.intro rfl (And.intro rfl (And.intro rfl (And.intro rfl (And.intro rfl ?_))))
      refine And.intro rfl (Exists.intro _ (Exists.intro _ (And.intro (Digits_impl (i : Int) (by omega) (by omega)) (And.intro (AsLe.refl _) (And.intro rfl ?_)))))
      refine And.intro (by show 1 + (digitsOf (i : Int)).size ≤ _; omega) (And.intro rfl ?_)
      refine And.intro rfl (And.intro rfl (And.intro rfl ?_))
      refine And.intro rfl (And.intro (by decide) (And.intro (by decide) (And.intro rfl (Or.inl (And.intro rfl ?_)))))
      refine And.intro rfl (And.intro ⟨rfl, rfl, rfl, rfl⟩ (And.intro rfl (And.intro ?_ (And.intro ?_ ?_))))
      · show (i + 1) * _ ≤ _; omega
      · show i + 1 ≤ _; simp only [maxLen]; omega
      refine Or.inl ?_
      refine And.intro ⟨_, _, _, rfl⟩ (And.intro (Nat.le_of_ble_eq_true rfl) ?_)
      refine vc_sound tabOk (by kernel_rfl) ?_
      refine And.intro rfl (And.intro ⟨by omega, by show (i : Int) + 1 ≤ _; omega⟩ ?_)
      refine ⟨⟨i + 1, hi', hlt⟩, by show 30 - (i + 1) < 30 - i; omega, Sub.ofL _ _ (Nat.zero_le _) ⟨rfl, rfl, rfl, rfl, rfl, rfl, rfl, rfl, rfl, rfl, rfl, rfl, rfl, rfl, trivial⟩ ?_ rfl⟩
      show [AO.box 26 [.d (dstr emp), .d (dstr emp), .d (dstr emp), .h 1 (i + 1) 0 (i + 1)], AO.row (i + 1) 45 11 (((nodesTo scopes kinds i).map encF0).take i ++ _)] = _
      rw [List.take_of_length_le (by rw [List.length_map, nodesTo_length]; exact Nat.le_refl _)]
      show _ = [AO.box 26 [.d (dstr emp), .d (dstr emp), .d (dstr emp), .h 1 (i + 1) 0 (i + 1)], AO.row (i + 1) 45 11 ((nodesTo scopes kinds (i + 1)).map encF0)]
      rw [e1, List.map_append, ← hsc]
      rfl
  obtain ⟨i, hi30, hil⟩ := i
  generalize hnl : nodesTo scopes kinds i = nl
  have hlen : nl.length = i := by rw [← hnl, nodesTo_length]
  have hex : ∀ n ∈ nl, n.dep.excluded = [] := fun n hn => by
    rw [← hnl] at hn
    obtain ⟨j, _, rfl⟩ := List.mem_map.1 hn
    rfl
  have hrow : LsLe (nl.map encF0) (nl.map encFound) := by
    clear hnl hlen
    induction nl with
    | nil => trivial
    | cons n r ih =>
      refine And.intro ?_ (ih fun m hm => hex m (by simp [hm]))
      have := hex n (by simp)
      show CLe (encF0 n) (encFound n)
      unfold encFound
      rw [this]
      exact ⟨DLe.refl _, DLe.refl _, DLe.refl _, DLe.refl _, DLe.refl _, DLe.refl _, DLe.refl _, DLe.refl _, DLe.refl _, DLe.nils _, DLe.refl _, trivial⟩
  have hOf := fun k => Of_impl ⟨⟨emp, emp, emp⟩, nl⟩ k (by show nl.length ≤ _; omega) (fun n hn => by rw [hex n hn]; exact Nat.zero_le _)
  have hol := ofOf_length kk nl
  refine WP_sub ((Sub.shutCell (s := 0) (i := 3) (r := 1) (d := dFounds nl) rfl rfl rfl (by rw [List.length_map]; exact hlen.symm) (DLe.tlr _ hrow)).trans (Sub.ofL [(2, .int kk), (8, .ptr 0 0), (9, .int (ofOf kk nl).length)] [.box 26 ((encResolved ⟨⟨emp, emp, emp⟩, nl⟩).map AV.d)] (Nat.zero_le _) ⟨rfl, rfl, rfl, rfl, rfl, rfl, trivial⟩ rfl rfl)) ?_
  have h2 := hOf kk
  rw [if_pos hgk, if_pos hgk] at h2
  refine WP_seq (vc_sound tabOk (by kernel_rfl) ?_)
  refine And.intro rfl ?_
  refine And.intro rfl (Exists.intro _ (Exists.intro _ (And.intro h2 (And.intro (AsLe.refl _) ?_))))
  have h3 := hOf 1
  rw [if_neg (by decide), if_neg (by decide)] at h3
  refine WP_seq (vc_sound tabOk (by kernel_rfl) ?_)
  refine And.intro rfl ?_
  refine And.intro rfl (Exists.intro _ (Exists.intro _ (And.intro h3 (And.intro (AsLe.refl _) ?_))))
  refine WP_seq (vc_sound tabOk (by kernel_rfl) ?_)
  refine And.intro rfl (Exists.intro _ (Exists.intro _ (And.intro awake_impl (And.intro (AsLe.refl _) ?_))))
  have hq : (((ofOf kk nl).length : Int) == ((ofOf kk nl).length : Int)) = true := by simp
  apply And.intro
  · exact ltb rfl
  refine And.intro (fun _ => ?_) (fun h => absurd rfl h)
  apply And.intro
  · exact ltb rfl
  refine And.intro (fun _ => And.intro rfl ?_) (fun h => absurd rfl h)
  refine And.intro (fun _ => ?_) (fun h => by cases h)
  apply And.intro
  · exact ltb rfl
  refine And.intro (fun _ => ?_) (fun h => absurd rfl h)
  apply And.intro
  · exact ltb rfl
  refine And.intro (fun _ => ?_) (fun h => absurd rfl h)
  apply And.intro
  · exact ltb rfl
  refine And.intro (fun _ => ?_) (fun h => absurd rfl h)
  apply And.intro
  · exact ltb rfl
  refine And.intro (fun _ => And.intro rfl ?_) (fun h => absurd rfl h)
  refine And.intro (fun _ => ?_) (fun h => by cases h)
  apply And.intro
  · exact ltb rfl
  refine And.intro (fun _ => ?_) (fun h => absurd hq h)
  apply And.intro
  · exact ltb rfl
  refine And.intro (fun _ => And.intro rfl ?_) (fun h => absurd hq h)
  refine And.intro (fun _ => ?_) (fun h => absurd (hq.symm.trans h) (by decide))
  refine WP_ret ?_
  exact And.intro (DLe.of_eq rfl) trivial
end Go.Proofs.Nw.K
