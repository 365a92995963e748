import Derived.Test.YtjfpnnmagnljnaaNwC7
open Go Go.RowKit Go.Proofs
set_option linter.unusedVariables false
set_option linter.unusedSimpArgs false
namespace Go.Proofs.Nw.K

/-- a row of one's own, seen with weaker cells -/
theorem Sub.row {N : Fm} {env : Env} {st : List AO} {s k e sz : Nat} {xs ys : List (List D)} (hst : st[s]? = some (.row k e sz xs)) (h : LsLe xs ys) : Sub N env st env (st.set s (.row k e sz ys)) := by
  intro w0 σ0 I a w ⟨hs, hd, hI, σ, gh, hb, hk, he⟩
  have hlt : s < gh.length := by rw [hb.len]; exact (List.getElem?_eq_some_iff.1 hst).1
  obtain ⟨g, hg⟩ : ∃ g, gh[s]? = some g := ⟨gh[s], List.getElem?_eq_getElem hlt⟩
  have keep : ∀ v a, RepA σ gh st v a → RepA σ gh (st.set s (.row k e sz ys)) v a := fun v a h' => h'.set hst _ (fun k' e' sz' xs' heq => by cases heq; exact ⟨e, xs, rfl, h.length⟩)
  obtain ⟨vals, hown, hsz, hval, huns, hone⟩ := hb.obj s _ _ hst hg
  have := hb.turn (w' := w) hst hg (by simp) ⟨rfl, rfl, rfl, Nat.le_refl _, fun _ _ _ => rfl⟩ g (.row k e sz ys) (fun b hb' => .inl hb')
    ⟨vals, by rw [← h.length]; exact hown, fun i y hy => by obtain ⟨x, hx, hc⟩ := h.get hy; rw [← hc.length]; exact hsz i x hx, fun i j y d hy hd => by
      obtain ⟨x, hx, hc⟩ := h.get hy
      obtain ⟨d0, hd0, hle⟩ := hc.get hd
      obtain ⟨v, h1, h2⟩ := hval i j x d0 hx hd0
      exact ⟨v, h1, hle σ v h2⟩, huns, hone⟩ (by rw [set_self hg]; exact keep)
  rw [set_self hg] at this
  exact ⟨hs, hd, hI, σ, gh, this.base, fun v a ha => this.keep _ _ (hk v a ha), fun t => this.keep _ _ (he t)⟩

theorem good_iff (kind : Int) : goodKind kind = true ↔ 2 ≤ kind ∧ kind ≤ 5 := by
  simp only [goodKind, Bool.or_eq_true, beq_iff_eq]
  omega

theorem refClasspath_impl (r : Resolved) (kind : Int) (hn : r.nodes.length ≤ 4194304) (he : ∀ n ∈ r.nodes, n.dep.excluded.length ≤ 4194304) :
    Impl Try.prog 14 [.agg (encResolved r), .one (dint kind)] [.one (dDeps (if goodKind kind then ofOf kind r.nodes else [])), .one (dint (if goodKind kind then 0 else 20))] := by
  refine impl_vc tabOk Try.func14 rfl rfl (by exact Nat.le_of_ble_eq_true rfl) ?_
  refine WP_seq (vc_sound tabOk (by kernel_rfl) ?_)
  refine WP_seq (vc_sound tabOk (by kernel_rfl) ?_)
  refine And.intro rfl ?_
  cases hlo : decide (kind < 2) with
  | true =>
    have hk : ¬ goodKind kind = true := fun h => by have := (good_iff kind).1 h; have := of_decide_eq_true hlo; omega
    apply And.intro
    · exact ltb rfl
    refine And.intro (fun h => by cases h) (fun _ => ?_)
    apply And.intro
    · exact ltb rfl
    refine And.intro (fun h => by cases h) (fun _ => ?_)
    refine And.intro (fun _ => ?_) (fun h => by cases h)
    refine And.intro (fun _ => ?_) (fun h => by cases h)
    refine And.intro ?_ (And.intro (DLe.of_eq ?_) trivial)
    · rw [if_neg hk]; exact DLe.nils _
    · rw [if_neg hk]
  | false =>
    apply And.intro
    · exact ltb rfl
    refine And.intro (fun _ => ?_) (fun h => absurd rfl h)
    apply And.intro
    · exact ltb rfl
    refine And.intro (fun _ => And.intro rfl ?_) (fun h => absurd rfl h)
    refine And.intro (fun h => by cases h) (fun _ => ?_)
    refine And.intro (fun h => ?_) (fun hhi => ?_)
    · have h : decide (kind > 5) = true := h
      have hk : ¬ goodKind kind = true := fun h' => by have := (good_iff kind).1 h'; have := of_decide_eq_true h; omega
      refine And.intro ?_ (And.intro (DLe.of_eq ?_) trivial)
      · rw [if_neg hk]; exact DLe.nils _
      · rw [if_neg hk]
    have hk : goodKind kind = true := (good_iff kind).2 (by
      have hhi : decide (kind > 5) = false := hhi
      have := of_decide_eq_false hhi
      have := of_decide_eq_false hlo
      omega)
    rw [if_pos hk, if_pos hk]
    refine WP_seq (vc_sound tabOk (by kernel_rfl) ?_)
    refine WP_seq (WP_seq (vc_sound tabOk (by kernel_rfl) ?_))
    refine WP_block (WP_loop (α := {i : Nat // i ≤ r.nodes.length}) (fun i => ofL [(1, .int kind), (2, .ptr 0 0), (4, .nils), (5, .int 0), (6, .h 1 (ofOf kind (r.nodes.take i.1)).length 0 (ofOf kind (r.nodes.take i.1)).length), (7, .int (i.1 : Int))])
      (fun i => [.box 26 ((encResolved r).map AV.d), .row (ofOf kind (r.nodes.take i.1)).length 35 8 ((ofOf kind (r.nodes.take i.1)).map encDep)]) (fun i => r.nodes.length - i.1) ⟨0, Nat.zero_le _⟩ ?_ ?_)
    · exact (Sub.nilsRow 6 35 8 rfl).trans (Sub.ofL _ _ (Nat.zero_le _) ⟨rfl, rfl, rfl, rfl, rfl, rfl, rfl, rfl, rfl, rfl, rfl, rfl, trivial⟩ rfl rfl)
    rintro ⟨i, hi⟩
    refine vc_sound tabOk (by kernel_rfl) ?_
    refine And.intro rfl (And.intro (fun h => ?_) (fun h => ?_))
    · have hlt : i < r.nodes.length := by simpa using h
      have hg : r.nodes.getD ((i : Int)).toNat zFound = r.nodes[i] := by simp [List.getD, hlt]
      refine And.intro rfl (And.intro (Int.natCast_nonneg _) (And.intro (by show (i : Int) < (r.nodes.length : Int); omega) ?_))
      refine And.intro (Nat.le_of_ble_eq_true rfl) ?_
      refine And.intro rfl (And.intro (Nat.le_of_ble_eq_true rfl) ?_)
      refine And.intro rfl ?_
      have htk : r.nodes.take (i + 1) = r.nodes.take i ++ [r.nodes[i]] := List.take_succ_eq_append_getElem hlt
      have stp : ∀ (d : Bool), d = ((r.nodes[i].kind == 1) && inScope kind r.nodes[i].dep.scope) → ofOf kind (r.nodes.take (i + 1)) = ofOf kind (r.nodes.take i) ++ (if d then [r.nodes[i].dep] else []) := fun d hd => by
        rw [htk, ofOf_append, hd]
        congr 1
      by_cases hb : (r.nodes[i].kind == 1) = true
      · have hb' : ((r.nodes.getD ((i : Int)).toNat zFound).kind == 1) = true := by rw [hg]; exact hb
        apply And.intro
        · exact ltb rfl
        refine And.intro (fun _ => ?_) (fun h => absurd hb' h)
        apply And.intro
        · exact ltb rfl
        refine And.intro (fun _ => ?_) (fun h => absurd hb' h)
        apply And.intro
        · exact ltb rfl
        refine And.intro (fun _ => ?_) (fun h => absurd hb' h)
        apply And.intro
        · exact ltb rfl
        refine And.intro (fun _ => ?_) (fun h => absurd hb' h)
        apply And.intro
        · exact ltb rfl
        refine And.intro (fun _ => ?_) (fun h => absurd hb' h)
        refine And.intro rfl (Exists.intro _ (Exists.intro _ (And.intro (refIn_impl kind (r.nodes.getD ((i : Int)).toNat zFound).dep.scope) (And.intro (AsLe.refl _) ?_))))
        refine And.intro (fun _ => ?_) (fun h => absurd hb' (by rw [h]; decide))
        refine And.intro (fun hs => ?_) (fun hs => ?_)
        · have hs : inScope kind r.nodes[i].dep.scope = true := by rw [← hg]; exact hs
          have st1 := stp true (by rw [hb, hs]; rfl)
          simp only [if_pos] at st1
          have hex : (r.nodes.getD ((i : Int)).toNat zFound).dep.excluded.length ≤ 4194304 := by rw [hg]; exact he _ (List.getElem_mem hlt)
          have hol := ofOf_length kind (r.nodes.take i)
          have htl : (r.nodes.take i).length ≤ r.nodes.length := by rw [List.length_take]; omega
          have e1 : (ofOf kind (r.nodes.take (i + 1))).length = (ofOf kind (r.nodes.take i)).length + 1 := by rw [st1]; simp
          refine And.intro rfl ?_
          refine And.intro rfl (And.intro (Nat.le_of_ble_eq_true rfl) ?_)
          refine And.intro rfl (And.intro rfl (And.intro ?_ (And.intro ?_ ?_)))
          · simp only [List.length_map]; omega
          · simp only [List.length_map, maxLen]; omega
          refine Or.inr (And.intro ⟨rfl, rfl, rfl⟩ (And.intro rfl (And.intro (Nat.le_of_ble_eq_true rfl) ?_)))
          refine And.intro rfl ?_
          refine And.intro rfl (And.intro (by decide) (And.intro (by decide) (And.intro rfl (Or.inl ?_))))
          refine And.intro rfl (And.intro ⟨rfl, rfl, rfl, rfl⟩ (And.intro rfl (And.intro ?_ (And.intro ?_ ?_))))
          · show ((ofOf kind (r.nodes.take i)).length + 1) * 128 ≤ _; omega
          · show (ofOf kind (r.nodes.take i)).length + 1 ≤ _; simp only [maxLen]; omega
          refine And.intro rfl (And.intro ⟨by omega, by show (i : Int) + 1 ≤ _; omega⟩ ?_)
          have e2 : ((ofOf kind (r.nodes.take i)).map encDep).take (ofOf kind (r.nodes.take i)).length = (ofOf kind (r.nodes.take i)).map encDep := List.take_of_length_le (by rw [List.length_map]; exact Nat.le_refl _)
          refine ⟨⟨i + 1, hlt⟩, by simp; omega, (Sub.ofL [(1, .int kind), (2, .ptr 0 0), (4, .nils), (5, .int 0), (6, .h 1 (ofOf kind (r.nodes.take (i + 1))).length 0 (ofOf kind (r.nodes.take (i + 1))).length), (7, .int ((i + 1 : Nat) : Int))]
            [.box 26 ((encResolved r).map AV.d), .row (ofOf kind (r.nodes.take (i + 1))).length 35 8 ((ofOf kind (r.nodes.take i)).map encDep ++ [[dstr r.nodes[i].dep.group, dstr r.nodes[i].dep.name, dstr r.nodes[i].dep.version, dstr r.nodes[i].dep.type, dstr r.nodes[i].dep.classifier, dstr r.nodes[i].dep.scope, dbool r.nodes[i].dep.optional, .list 2 (r.nodes[i].dep.excluded.map encExcluded)]])]
            (Nat.zero_le _) ⟨rfl, rfl, rfl, rfl, rfl, rfl, rfl, rfl, ?_, rfl, rfl, rfl, trivial⟩ ?_ rfl).trans ((Sub.row (s := 1) (ys := (ofOf kind (r.nodes.take (i + 1))).map encDep) rfl ?_).trans (Sub.ofL _ _ (Nat.zero_le _) ⟨rfl, rfl, rfl, rfl, rfl, rfl, rfl, rfl, rfl, rfl, rfl, rfl, trivial⟩ rfl rfl))⟩
          · show AV.h 1 ((ofOf kind (r.nodes.take i)).length + 1) 0 ((ofOf kind (r.nodes.take i)).length + 1) = _
            rw [← e1]
          · rw [e1, ← hg]
            show [AO.box 26 ((encResolved r).map AV.d), AO.row ((ofOf kind (r.nodes.take i)).length + 1) 35 8 (((ofOf kind (r.nodes.take i)).map encDep).take (ofOf kind (r.nodes.take i)).length ++ _)] = _
            rw [e2]; rfl
          · rw [st1, List.map_append]
            refine LsLe.app (LsLe.refl _) (And.intro ?_ trivial)
            exact ⟨DLe.refl _, DLe.refl _, DLe.refl _, DLe.refl _, DLe.refl _, DLe.refl _, DLe.refl _, DLe.tl _ rfl, trivial⟩
        · have hs : inScope kind r.nodes[i].dep.scope = false := by rw [← hg]; exact hs
          have st1 := stp false (by rw [hb, hs]; rfl)
          simp only [if_neg (show ¬ (false = true) by decide), List.append_nil] at st1
          refine And.intro rfl (And.intro ⟨by omega, by show (i : Int) + 1 ≤ _; omega⟩ ?_)
          refine ⟨⟨i + 1, hlt⟩, by simp; omega, Sub.ofL _ _ (Nat.zero_le _) ⟨rfl, rfl, rfl, rfl, rfl, rfl, rfl, rfl, ?_, rfl, rfl, rfl, trivial⟩ ?_ rfl⟩
          · show _ = AV.h 1 (ofOf kind (r.nodes.take (i + 1))).length 0 (ofOf kind (r.nodes.take (i + 1))).length
            rw [st1]; rfl
          · show _ = [AO.box 26 ((encResolved r).map AV.d), AO.row (ofOf kind (r.nodes.take (i + 1))).length 35 8 ((ofOf kind (r.nodes.take (i + 1))).map encDep)]
            rw [st1]; rfl
      · have hb' : ¬ ((r.nodes.getD ((i : Int)).toNat zFound).kind == 1) = true := by rw [hg]; exact hb
        apply And.intro
        · exact ltb rfl
        refine And.intro (fun h => absurd h hb') (fun _ => ?_)
        apply And.intro
        · exact ltb rfl
        refine And.intro (fun h => absurd h hb') (fun _ => ?_)
        apply And.intro
        · exact ltb rfl
        refine And.intro (fun h => absurd h hb') (fun _ => ?_)
        apply And.intro
        · exact ltb rfl
        refine And.intro (fun h => absurd h hb') (fun _ => ?_)
        apply And.intro
        · exact ltb rfl
        refine And.intro (fun h => absurd h hb') (fun _ => ?_)
        refine And.intro (fun h => absurd h hb') (fun _ => ?_)
        refine And.intro (fun h => by cases h) (fun _ => ?_)
        have st1 := stp false (by rw [show (r.nodes[i].kind == 1) = false by simpa using hb]; rfl)
        simp only [if_neg (show ¬ (false = true) by decide), List.append_nil] at st1
        refine And.intro rfl (And.intro ⟨by omega, by show (i : Int) + 1 ≤ _; omega⟩ ?_)
        refine ⟨⟨i + 1, hlt⟩, by simp; omega, Sub.ofL _ _ (Nat.zero_le _) ⟨rfl, rfl, rfl, rfl, rfl, rfl, rfl, rfl, ?_, rfl, rfl, rfl, trivial⟩ ?_ rfl⟩
        · show _ = AV.h 1 (ofOf kind (r.nodes.take (i + 1))).length 0 (ofOf kind (r.nodes.take (i + 1))).length
          rw [st1]; rfl
        · show _ = [AO.box 26 ((encResolved r).map AV.d), AO.row (ofOf kind (r.nodes.take (i + 1))).length 35 8 ((ofOf kind (r.nodes.take (i + 1))).map encDep)]
          rw [st1]; rfl
    · have h0 : r.nodes.take i = r.nodes := List.take_of_length_le (by
        have : ¬ i < r.nodes.length := by simpa using h
        omega)
      refine vc_sound tabOk (by kernel_rfl) ?_
      refine And.intro ⟨rfl, rfl, (List.length_map _).symm⟩ (And.intro (DLe.tl _ ?_) (And.intro (DLe.refl _) trivial))
      show List.map encDep (ofOf kind (r.nodes.take i)) = _
      rw [h0]
end Go.Proofs.Nw.K
