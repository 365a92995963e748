import Derived.Test.YtjfpnnmagnljnaaNwC3
open Go Go.RowKit Go.Proofs
set_option linter.unusedVariables false
set_option linter.unusedSimpArgs false
namespace Go.Proofs.Nw.K

theorem beq_f {a b : Int} (h : (a == b) = false) : ¬ (a == b) = true := by rw [h]; decide

theorem Of_impl (r : Resolved) (kind : Int) (hn : r.nodes.length ≤ 4194304) (he : ∀ n ∈ r.nodes, n.dep.excluded.length ≤ 4194304) :
    Impl Try.prog 13 [.agg (encResolved r), .one (dint kind)] [.one (dDeps (if goodKind kind then ofOf kind r.nodes else [])), .one (dint (if goodKind kind then 0 else 20))] := by
  refine impl_vc tabOk Try.func13 rfl rfl (by exact Nat.le_of_ble_eq_true rfl) (vc_sound tabOk (by kernel_rfl) ?_)
  refine WP_scope_cut (α := {i : Nat // i ≤ r.nodes.length ∧ goodKind kind = true}) 0 (fun i => ofL [(1, .int kind), (2, .ptr 0 0), (4, .nils), (5, .int 0), (6, .h 1 (ofOf kind (r.nodes.take i.1)).length 0 (ofOf kind (r.nodes.take i.1)).length), (7, .d (dFounds (r.nodes.drop i.1)))])
    (fun i => [.box 26 ((encResolved r).map AV.d), .row (ofOf kind (r.nodes.take i.1)).length 35 8 ((ofOf kind (r.nodes.take i.1)).map encDep)]) (fun i => r.nodes.length - i.1) (by rfl) ?_ (fun cut => vc_sound tabOk (by kernel_rfl) ?_)
  · rintro ⟨i, hi, hk⟩
    refine vc_sound tabOk (by kernel_rfl) ?_
    refine And.intro rfl (And.intro (fun h => ?_) (fun h => ?_))
    · have h0 : r.nodes.drop i = [] := List.eq_nil_of_length_eq_zero (by simpa using h)
      have h1 : r.nodes.take i = r.nodes := List.take_of_length_le (by have := congrArg List.length h0; simp at this; omega)
      refine And.intro ⟨rfl, rfl, (List.length_map _).symm⟩ (And.intro (DLe.tl _ ?_) (And.intro (DLe.of_eq ?_) trivial))
      · rw [if_pos hk]; show List.map encDep (ofOf kind (r.nodes.take i)) = _; rw [h1]
      · rw [if_pos hk]; try rfl
    · have hlt : i < r.nodes.length := by
        have : ¬ (r.nodes.drop i).length = 0 := by simpa using h
        simp at this; omega
      have hd : r.nodes.drop i = r.nodes[i] :: r.nodes.drop (i + 1) := List.drop_eq_getElem_cons hlt
      have hg : (r.nodes.drop i).getD 0 zFound = r.nodes[i] := by rw [hd]; rfl
      have htk : r.nodes.take (i + 1) = r.nodes.take i ++ [r.nodes[i]] := List.take_succ_eq_append_getElem hlt
      refine And.intro rfl (And.intro (Int.le_refl _) (And.intro (by show (0 : Int) < ((r.nodes.drop i).length : Int); simp; omega) ?_))
      refine And.intro (Nat.le_of_ble_eq_true rfl) ?_
      refine And.intro rfl (And.intro (Nat.le_of_ble_eq_true rfl) ?_)
      refine And.intro rfl ?_
      have lt : ∀ {a b : Nat}, Nat.ble (a + 1) b = true → a < b := fun h => Nat.le_of_ble_eq_true h
      have stp : ∀ (d : Bool), d = ((r.nodes[i].kind == 1) && inScope kind r.nodes[i].dep.scope) → ofOf kind (r.nodes.take (i + 1)) = ofOf kind (r.nodes.take i) ++ (if d then [r.nodes[i].dep] else []) := fun d hd => by
        rw [htk, ofOf_append, hd]
        congr 1
      have sl : ∀ (l : List Found), (l.take l.length).drop 1 = l.drop 1 := fun l => by rw [List.take_length]
      by_cases hb : (r.nodes[i].kind == 1) = true
      · have hb' : ((((r.nodes.drop i).getD (Int.toNat 0) zFound).kind == 1) : Bool) = true := by show (((r.nodes.drop i).getD 0 zFound).kind == 1) = true; rw [hg]; exact hb
        refine And.intro (lt rfl) (And.intro (fun _ => ?_) (fun h => absurd hb' h))
        refine And.intro (lt rfl) (And.intro (fun _ => ?_) (fun h => absurd hb' h))
        refine And.intro (lt rfl) (And.intro (fun _ => ?_) (fun h => absurd hb' h))
        refine And.intro (lt rfl) (And.intro (fun _ => ?_) (fun h => absurd hb' h))
        refine And.intro (lt rfl) (And.intro (fun _ => ?_) (fun h => absurd hb' h))
        refine And.intro rfl (Exists.intro _ (Exists.intro _ (And.intro (In_impl kind ((r.nodes.drop i).getD (Int.toNat 0) zFound).dep.scope) (And.intro (AsLe.refl _) ?_))))
        refine And.intro (fun _ => ?_) (fun h => absurd hb' (by rw [h]; decide))
        refine And.intro (fun hs => ?_) (fun hs => ?_)
        · have hs : inScope kind r.nodes[i].dep.scope = true := by rw [← hg]; exact hs
          have st1 := stp true (by rw [hb, hs]; rfl)
          simp only [if_pos] at st1
          have hex : r.nodes[i].dep.excluded.length ≤ 4194304 := he _ (List.getElem_mem hlt)
          have hol := ofOf_length kind (r.nodes.take i)
          have htl : (r.nodes.take i).length ≤ r.nodes.length := by rw [List.length_take]; omega
          refine And.intro rfl ?_
          refine And.intro rfl (And.intro (Nat.le_of_ble_eq_true rfl) ?_)
          refine And.intro rfl (Exists.intro _ (Exists.intro _ (And.intro (Clone_impl ((r.nodes.drop i).getD (Int.toNat 0) zFound).dep.excluded (by show ((r.nodes.drop i).getD 0 zFound).dep.excluded.length ≤ _; rw [hg]; exact hex)) (And.intro (AsLe.refl _) ?_))))
          refine And.intro rfl (And.intro (Nat.le_of_ble_eq_true rfl) ?_)
          refine And.intro rfl ?_
          refine And.intro rfl (And.intro (by decide) (And.intro (by decide) (And.intro rfl (Or.inl ?_))))
          refine And.intro rfl (And.intro ⟨rfl, rfl, rfl, rfl⟩ (And.intro rfl (And.intro ?_ (And.intro ?_ ?_))))
          · show ((ofOf kind (r.nodes.take i)).length + 1) * 128 ≤ _; omega
          · show (ofOf kind (r.nodes.take i)).length + 1 ≤ _; simp only [maxLen]; omega
          refine And.intro rfl (And.intro (by decide) (And.intro (by show 1 ≤ (r.nodes.drop i).length; simp; omega) (And.intro (Nat.le_refl _) ?_)))
          have e1 : (ofOf kind (r.nodes.take (i + 1))).length = (ofOf kind (r.nodes.take i)).length + 1 := by rw [st1]; simp
          refine And.intro rfl ⟨⟨i + 1, hlt, hk⟩, by simp; omega, Sub.ofL _ _ (Nat.zero_le _) ⟨rfl, rfl, rfl, rfl, rfl, rfl, rfl, rfl, ?_, rfl, ?_, rfl, trivial⟩ ?_ rfl⟩
          · show AV.h 1 ((ofOf kind (r.nodes.take i)).length + 1) 0 ((ofOf kind (r.nodes.take i)).length + 1) = _
            rw [← e1]
          · show AV.d (dFounds (((r.nodes.drop i).take (r.nodes.drop i).length).drop 1)) = _
            rw [sl, List.drop_drop]
          · show [AO.box 26 ((encResolved r).map AV.d), AO.row ((ofOf kind (r.nodes.take i)).length + 1) 35 8 (((ofOf kind (r.nodes.take i)).map encDep).take (ofOf kind (r.nodes.take i)).length ++ [encDep ((r.nodes.drop i).getD 0 zFound).dep])] = _
            have e2 : ((ofOf kind (r.nodes.take i)).map encDep).take (ofOf kind (r.nodes.take i)).length = (ofOf kind (r.nodes.take i)).map encDep := List.take_of_length_le (by rw [List.length_map]; exact Nat.le_refl _)
            rw [hg, e2, ← e1]
            show _ = [AO.box 26 ((encResolved r).map AV.d), AO.row (ofOf kind (r.nodes.take (i + 1))).length 35 8 ((ofOf kind (r.nodes.take (i + 1))).map encDep)]
            rw [st1, List.map_append]; rfl
        · have hs : inScope kind r.nodes[i].dep.scope = false := by rw [← hg]; exact hs
          have st1 := stp false (by rw [hb, hs]; rfl)
          simp only [if_neg (show ¬ (false = true) by decide), List.append_nil] at st1
          refine And.intro rfl (And.intro (by decide) (And.intro (by show 1 ≤ (r.nodes.drop i).length; simp; omega) (And.intro (Nat.le_refl _) ?_)))
          refine And.intro rfl ⟨⟨i + 1, hlt, hk⟩, by simp; omega, Sub.ofL _ _ (Nat.zero_le _) ⟨rfl, rfl, rfl, rfl, rfl, rfl, rfl, rfl, ?_, rfl, ?_, rfl, trivial⟩ ?_ rfl⟩
          · show _ = AV.h 1 (ofOf kind (r.nodes.take (i + 1))).length 0 (ofOf kind (r.nodes.take (i + 1))).length
            rw [st1]; rfl
          · show AV.d (dFounds (((r.nodes.drop i).take (r.nodes.drop i).length).drop 1)) = _
            rw [sl, List.drop_drop]
          · show _ = [AO.box 26 ((encResolved r).map AV.d), AO.row (ofOf kind (r.nodes.take (i + 1))).length 35 8 ((ofOf kind (r.nodes.take (i + 1))).map encDep)]
            rw [st1]; rfl
      · have hb' : ¬ ((((r.nodes.drop i).getD (Int.toNat 0) zFound).kind == 1) : Bool) = true := by show ¬ (((r.nodes.drop i).getD 0 zFound).kind == 1) = true; rw [hg]; exact hb
        refine And.intro (lt rfl) (And.intro (fun h => absurd h hb') (fun _ => ?_))
        refine And.intro (lt rfl) (And.intro (fun h => absurd h hb') (fun _ => ?_))
        refine And.intro (lt rfl) (And.intro (fun h => absurd h hb') (fun _ => ?_))
        refine And.intro (lt rfl) (And.intro (fun h => absurd h hb') (fun _ => ?_))
        refine And.intro (lt rfl) (And.intro (fun h => absurd h hb') (fun _ => ?_))
        refine And.intro (fun h => absurd h hb') (fun _ => ?_)
        refine And.intro (fun h => by cases h) (fun _ => ?_)
        have st1 := stp false (by rw [show (r.nodes[i].kind == 1) = false by simpa using hb]; rfl)
        simp only [if_neg (show ¬ (false = true) by decide), List.append_nil] at st1
        refine And.intro rfl (And.intro (by decide) (And.intro (by show 1 ≤ (r.nodes.drop i).length; simp; omega) (And.intro (Nat.le_refl _) ?_)))
        refine And.intro rfl ⟨⟨i + 1, hlt, hk⟩, by simp; omega, Sub.ofL _ _ (Nat.zero_le _) ⟨rfl, rfl, rfl, rfl, rfl, rfl, rfl, rfl, ?_, rfl, ?_, rfl, trivial⟩ ?_ rfl⟩
        · show _ = AV.h 1 (ofOf kind (r.nodes.take (i + 1))).length 0 (ofOf kind (r.nodes.take (i + 1))).length
          rw [st1]; rfl
        · show AV.d (dFounds (((r.nodes.drop i).take (r.nodes.drop i).length).drop 1)) = _
          rw [sl, List.drop_drop]
        · show _ = [AO.box 26 ((encResolved r).map AV.d), AO.row (ofOf kind (r.nodes.take (i + 1))).length 35 8 ((ofOf kind (r.nodes.take (i + 1))).map encDep)]
          rw [st1]; rfl
  · have fin : ∀ (env : Env), env 1 = .int kind → env 2 = .ptr 0 0 → env 4 = .nils → env 5 = .int 0 → env 6 = .nils → env 7 = .d (dFounds r.nodes) →
        Sub ⟨Try.f13.ntmps, 0⟩ env [.box 26 ((encResolved r).map AV.d)] (ofL [(1, .int kind), (2, .ptr 0 0), (4, .nils), (5, .int 0), (6, .h 1 (ofOf kind (r.nodes.take 0)).length 0 (ofOf kind (r.nodes.take 0)).length), (7, .d (dFounds (r.nodes.drop 0)))])
          [.box 26 ((encResolved r).map AV.d), .row (ofOf kind (r.nodes.take 0)).length 35 8 ((ofOf kind (r.nodes.take 0)).map encDep)] := fun env h1 h2 h3 h4 h5 h6 =>
      (Sub.nilsRow 6 35 8 h5).trans (Sub.ofL _ _ (Nat.zero_le _) ⟨h1, rfl, h2, rfl, h3, rfl, h4, rfl, rfl, rfl, h6, rfl, trivial⟩ rfl rfl)
    refine And.intro rfl (And.intro (fun h2 => ?_) (fun h2 => ?_))
    · have h2 : (kind == 2) = true := h2
      refine And.intro (fun _ => ?_) (fun h => absurd h (by rw [h2]; decide))
      exact cut ⟨0, Nat.zero_le _, by simp only [goodKind, h2]; rfl⟩ _ _ (fin _ rfl rfl rfl rfl rfl rfl)
    have h2 : (kind == 2) = false := h2
    refine And.intro rfl (And.intro (fun h3 => ?_) (fun h3 => ?_))
    · have h3 : (kind == 3) = true := h3
      refine And.intro (fun _ => ?_) (fun h => absurd h (by rw [h3]; decide))
      exact cut ⟨0, Nat.zero_le _, by simp only [goodKind, h3, Bool.or_true, Bool.true_or]⟩ _ _ (fin _ rfl rfl rfl rfl rfl rfl)
    have h3 : (kind == 3) = false := h3
    refine And.intro rfl (And.intro (fun h4 => ?_) (fun h4 => ?_))
    · have h4 : (kind == 4) = true := h4
      refine And.intro (fun _ => ?_) (fun h => absurd h (by rw [h4]; decide))
      exact cut ⟨0, Nat.zero_le _, by simp only [goodKind, h4, Bool.or_true, Bool.true_or]⟩ _ _ (fin _ rfl rfl rfl rfl rfl rfl)
    have h4 : (kind == 4) = false := h4
    refine And.intro rfl (And.intro (fun h => ?_) (fun h => ?_))
    · have h5 : (kind == 5) = true := h
      exact cut ⟨0, Nat.zero_le _, by simp only [goodKind, h5, Bool.or_true, Bool.true_or]⟩ _ _ (fin _ rfl rfl rfl rfl rfl rfl)
    · have h5 : (kind == 5) = false := h
      have hg : goodKind kind = false := by simp only [goodKind, h2, h3, h4, h5]; rfl
      refine And.intro ?_ (And.intro (DLe.of_eq ?_) trivial)
      · rw [hg]; exact DLe.nils _
      · rw [hg]; rfl
end Go.Proofs.Nw.K
