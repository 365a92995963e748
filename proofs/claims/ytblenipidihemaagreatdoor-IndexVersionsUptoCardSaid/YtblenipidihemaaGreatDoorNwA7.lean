/- Bundle 7: NwK28, NwZ7, NwV1, NwV2. -/
import Derived.Test.YtblenipidihemaaGreatDoorNwA6
section
/- K28: regions whose order is open: the first ones turn no own thing, and run in any order; some of them are moves, which may come at any time, even behind the last ones; the last ones come one behind the other, each behind all first ones but those moves. -/
open Go Go.RowKit
set_option linter.unusedVariables false
set_option linter.unusedSimpArgs false
namespace Go.Proofs.Nw.K

def aheadOf (l : List Oper) (j : Nat) (o : Oper) : List Nat := downS .any l j ((o.after.toList.filter (Region.binds .any)).map (·.on))

/-- one of the first ones -/
def earlyAt (N : Fm) (m : Nat) (M : List Nat) (l : List Oper) (i : Nat) : Bool :=
  match l[i]? with
  | some o => match o.dst, o.guard with
    | some d, none => decide (d < N.n) &&
        ((List.range l.length).all fun k => k == i || (match l[k]? with | some o' => o'.dst != some d | none => true)) &&
        ((o.looksAt l.toArray).all fun t => ((List.range m).all fun k => match l[k]? with | some o' => o'.dst != some t || (decide (k < i) && (aheadOf l i o).contains k) | none => true)) &&
        (!M.contains i || (match o.op with
          | .move (.tmp s) => (List.range l.length).all fun k => match l[k]? with | some o' => o'.dst != some s | none => true
          | _ => false))
    | _, _ => false
  | none => false

/-- one of the last ones -/
def lateAt (m : Nat) (M : List Nat) (l : List Oper) (j : Nat) : Bool :=
  match l[j]? with
  | some o => let S := aheadOf l j o; (List.range j).all (fun i => S.contains i || (decide (i < m) && M.contains i && (match l[i]? with
    | some o' => (match o'.dst with | some d => !((o.looksAt l.toArray).contains d) | none => true)
    | none => true)))
  | none => true

def earlyB (N : Fm) (m : Nat) (M : List Nat) (ops : Array Oper) : Bool :=
  ops.all (fun o => match o.dst with | some d => decide (d < N.n) | none => true) && decide (m ≤ ops.size) && (List.range m).all (earlyAt N m M ops.toList) && (List.range ops.size).all (backAt .any ops.toList) && ((List.range ops.size).drop m).all (lateAt m M ops.toList)

def fDst (l : List Oper) (i : Nat) : Option Nat := match l[i]? with | some o => o.dst | none => none

/-- what is not yet done is not known -/
def maskEnv (l : List Oper) (G : List Nat) (env : Env) : Env := fun t => if G.any (fun i => fDst l i == some t) then .junk else env t

section
variable {P : Program} {N : Fm}

theorem earlyAt_spec {m : Nat} {M : List Nat} {l : List Oper} {i : Nat} (h : earlyAt N m M l i = true) : ∃ (d : Nat) (o : Oper), l[i]? = some o ∧ o.dst = some d ∧ o.guard = none ∧ d < N.n ∧ fDst l i = some d ∧
    (∀ (k : Nat) (o' : Oper), l[k]? = some o' → k ≠ i → o'.dst ≠ some d) ∧
    (∀ t ∈ o.looksAt l.toArray, ∀ (k : Nat) (o' : Oper), k < m → l[k]? = some o' → o'.dst = some t → k < i ∧ k ∈ aheadOf l i o) ∧
    (i ∈ M → ∃ s, o.op = .move (.tmp s) ∧ ∀ (k : Nat) (o' : Oper), l[k]? = some o' → o'.dst ≠ some s) := by
  unfold earlyAt at h
  split at h
  · rename_i o ho
    split at h
    · rename_i d hd hg
      simp only [Bool.and_eq_true, decide_eq_true_eq, List.all_eq_true, List.mem_range, Bool.or_eq_true, beq_iff_eq, Bool.not_eq_true'] at h
      obtain ⟨⟨⟨h1, h2⟩, h3⟩, h4⟩ := h
      refine ⟨d, o, ho, hd, hg, h1, by simp [fDst, ho, hd], fun k o' hk hne => ?_, fun t ht k o' hkm hk hkd => ?_, fun hM => ?_⟩
      · have := h2 k (List.getElem?_eq_some_iff.1 hk).1
        simp only [hk] at this
        rcases this with h5 | h5
        · exact absurd h5 hne
        · simpa using h5
      · have := h3 t ht k hkm
        simp only [hk, hkd, bne_self_eq_false, Bool.false_or, Bool.and_eq_true, decide_eq_true_eq] at this
        exact ⟨this.1, by simpa using this.2⟩
      · rcases h4 with h5 | h5
        · have : M.contains i = true := by simpa using hM
          rw [this] at h5; cases h5
        · split at h5
          · rename_i s hop
            refine ⟨s, hop, fun k o' hk => ?_⟩
            simp only [List.all_eq_true, List.mem_range] at h5
            have := h5 k (List.getElem?_eq_some_iff.1 hk).1
            simp only [hk] at this
            simpa using this
          · cases h5
    · cases h
  · cases h

theorem maskEnv_upd {l : List Oper} {G : List Nat} {env : Env} {dst : Option Nat} {v : AV} (h : ∀ i ∈ G, ∀ d, fDst l i = some d → dst ≠ some d) : updO (maskEnv l G env) dst v = maskEnv l G (updO env dst v) := by
  cases dst with
  | none => rfl
  | some d =>
    funext t
    simp only [updO, upd, maskEnv]
    by_cases e : t = d
    · subst e
      have : (G.any fun i => fDst l i == some t) = false := by
        rw [List.any_eq_false]
        intro i hi
        have := h i hi
        simp only [beq_iff_eq]
        intro e'
        exact this t e' rfl
      simp [this]
    · simp [e]

/-- one of the first ones is done -/
theorem rel_unmask {l : List Oper} {G : List Nat} {w0 σ0 I} {env : Env} {st a w} {i d : Nat} (hd : fDst l i = some d) (h : Rel N w0 σ0 I (upd (maskEnv l G env) d (env d)) st a w) : Rel N w0 σ0 I (maskEnv l (G.erase i) env) st a w := by
  obtain ⟨q1, q2, hI, σ, gh, hb, hk, he⟩ := h
  refine ⟨q1, q2, hI, σ, gh, hb, hk, fun t => ?_⟩
  have := he t
  simp only [upd] at this
  by_cases e : t = d
  · subst e
    rw [if_pos rfl] at this
    unfold maskEnv
    split
    · trivial
    · exact this
  · rw [if_neg e] at this
    unfold maskEnv at this ⊢
    by_cases c1 : (G.any fun i => fDst l i == some t) = true
    · rw [if_pos]
      · trivial
      · rw [List.any_eq_true] at c1 ⊢
        obtain ⟨j, hj, hjd⟩ := c1
        refine ⟨j, (List.mem_erase_of_ne (fun e' => ?_)).2 hj, hjd⟩
        subst e'
        rw [hd] at hjd
        simp only [beq_iff_eq, Option.some.injEq] at hjd
        exact e hjd.symm
    · rw [if_neg c1] at this
      split
      · trivial
      · exact this

theorem runG {l : List Oper} {m : Nat} {M : List Nat} {st0 : List AO} {w0 : World} {σ0 : Sig} {I : Ini} {Q' : Exit → Act → World → Prop} {K : Env → List AO → Prop} (hm : m ≤ l.length)
    (hQ : ∀ env st a w, Rel N w0 σ0 I env st a w → K env st → Q' .normal a w)
    (hback : ∀ j, j < l.length → backAt .any l j = true) (hea : ∀ i, i < m → earlyAt N m M l i = true) (hla : ∀ j, m ≤ j → j < l.length → lateAt m M l j = true) :
    ∀ (f k : Nat) (G : List Nat) (listed : Array Bool) (env : Env) (st : List AO) (a : Act) (w : World), m ≤ k → k ≤ l.length → (l.length - k) + G.length ≤ f → listed.size = l.length → Closed .any l listed →
      (∀ i, m ≤ i → i < k → listed.getD i false = true) → (∀ i, k ≤ i → i < l.length → listed.getD i true = false) → (∀ i, i < m → (listed.getD i false = true ↔ i ∉ G)) → (∀ i ∈ G, i < m) → G.Nodup →
      (st = st0 ∨ ∀ i ∈ G, i ∈ M) →
      (∀ (i : Nat) (o : Oper) (d : Nat), i ∈ G → i ∉ M → l[i]? = some o → o.dst = some d → OpS P o.op (evalE env) st0 (env d) st0) →
      (∀ (i : Nat) (o : Oper) (d s : Nat), i < m → i ∈ M → l[i]? = some o → o.dst = some d → o.op = .move (.tmp s) → env d = env s) →
      Rel N w0 σ0 I (maskEnv l G env) st a w → GQ P N l.toArray (l.drop k) env st K → wpAny P .any l.toArray Q' f listed a w := by
  intro f
  induction f with
  | zero =>
    intro k G listed env st a w hmk hkl hf hsz hc hl hu hG hGm hnd hst hA hM hrel h
    have hG0 : G = [] := List.eq_nil_of_length_eq_zero (by omega)
    have hk0 : k = l.length := by omega
    subst hG0 hk0
    have hall : ∀ i, i < l.length → listed.getD i false = true := fun i hi => by
      by_cases him : i < m
      · exact (hG i him).2 (by simp)
      · exact hl i (by omega) hi
    have h0 : Region.ready .any l.toArray listed = [] := List.eq_nil_iff_forall_not_mem.2 fun i hi => by
      obtain ⟨h1, o, ho, _⟩ := mem_ready.1 hi
      have hil : i < l.length := by
        have : l[i]? = some o := by simpa using ho
        exact (List.getElem?_eq_some_iff.1 this).1
      have := hall i hil
      rw [list_getD_unlisted h1] at this
      cases this
    refine ⟨h0, ?_⟩
    rw [List.drop_length] at h
    refine hQ env st a w ?_ h
    have : maskEnv l [] env = env := by funext t; simp [maskEnv]
    rwa [this] at hrel
  | succ f ih =>
    intro k G listed env st a w hmk hkl hf hsz hc hl hu hG hGm hnd hst hA hM hrel h
    by_cases hdone : ∀ i, i < l.length → listed.getD i false = true
    · have h0 : Region.ready .any l.toArray listed = [] := List.eq_nil_iff_forall_not_mem.2 fun i hi => by
        obtain ⟨h1, o, ho, _⟩ := mem_ready.1 hi
        have hil : i < l.length := by
          have : l[i]? = some o := by simpa using ho
          exact (List.getElem?_eq_some_iff.1 this).1
        have := hdone i hil
        rw [list_getD_unlisted h1] at this
        cases this
      have hG0 : G = [] := by
        cases G with
        | nil => rfl
        | cons i r =>
          have him := hGm i (by simp)
          exact absurd (by simp) ((hG i him).1 (hdone i (by omega)))
      subst hG0
      have hk0 : k = l.length := by
        by_cases e : k < l.length
        · have h3 := hu k (Nat.le_refl _) e
          have h4 := hdone k e
          rw [list_getD_unlisted h3] at h4
          cases h4
        · omega
      subst hk0
      rw [List.drop_length] at h
      have hm0 : maskEnv l [] env = env := by funext t; simp [maskEnv]
      rw [hm0] at hrel
      exact ⟨fun _ => hQ env st a w hrel h, fun i hi => by rw [h0] at hi; cases hi⟩
    · have hex : ∃ i, i < l.length ∧ listed.getD i false = false := by
        rcases Classical.em (∃ i, i < l.length ∧ listed.getD i false = false) with h' | h'
        · exact h'
        · exact absurd (fun i hi => by
            cases hx : listed.getD i false with
            | true => rfl
            | false => exact absurd ⟨i, hi, hx⟩ h') hdone
      obtain ⟨i0, h1, h2, h3⟩ := exists_least (p := fun i => listed.getD i false = false) l.length hex
      have hi0 : i0 ∈ Region.ready .any l.toArray listed := by
        refine mem_ready.2 ⟨?_, l[i0]'h1, by simp, ?_⟩
        · have hi : i0 < listed.size := by omega
          simp only [Array.getD_eq_getD_getElem?, Array.getElem?_eq_getElem hi, Option.getD_some] at *
          exact h2
        · intro e he hb
          have hlt : e.on < i0 := by
            have := hback i0 h1
            unfold backAt at this
            simp only [List.getElem?_eq_getElem h1, List.all_eq_true, List.mem_filter, decide_eq_true_eq] at this
            exact this e ⟨by simpa using he, hb⟩
          simpa using h3 e.on hlt
      refine ⟨fun h0 => (by rw [h0] at hi0; cases hi0), fun i hi => ?_⟩
      obtain ⟨hin, oi, hoi, hai⟩ := mem_ready.1 hi
      have hoi' : l[i]? = some oi := by simpa using hoi
      have hilt : i < l.length := (List.getElem?_eq_some_iff.1 hoi').1
      have hclosed := closed_set hc hi
      have hset : ∀ j, j ≠ i → ∀ b, (listed.setIfInBounds i true).getD j b = listed.getD j b := fun j hj b => by
        rw [getD_set_ne b (Ne.symm hj)]
      have hseti : (listed.setIfInBounds i true).getD i false = true := by
        have : i < listed.size := by omega
        simp [Array.getD_eq_getD_getElem?, this]
      have hoa : l.toArray[i]? = some oi := by simpa using hoi'
      have hah : ∀ x ∈ aheadOf l i oi, listed.getD x false = true := downS_sound hc i _ (fun x hx => by
        obtain ⟨e, he, rfl⟩ := List.mem_map.1 hx
        obtain ⟨he1, he2⟩ := List.mem_filter.1 he
        exact hai e (by simpa using he1) he2)
      by_cases him : i < m
      · -- one of the first ones
        obtain ⟨d, o, f1, f2, f4, f5, f7, f9, f10, f11⟩ := earlyAt_spec (hea i him)
        rw [f1] at hoi'
        cases hoi'
        have hiG : i ∈ G := by
          by_cases hg : i ∈ G
          · exact hg
          · have := (hG i him).2 hg
            rw [list_getD_unlisted hin] at this
            cases this
        unfold wpOp
        simp only [hoa]
        have hw : Region.wanted oi (yielded l.toArray a.tmps) = true := by simp [Region.wanted, f4]
        rw [hw]
        simp only [if_true]
        refine .inl ?_
        have hlook : ∀ t ∈ oi.looksAt l.toArray, maskEnv l G env t = env t := fun t ht => by
          unfold maskEnv
          rw [if_neg]
          rw [Bool.not_eq_true, List.any_eq_false]
          intro j hj
          simp only [beq_iff_eq]
          intro e
          obtain ⟨d2, o2, g1, g2, _, _, g7, _⟩ := earlyAt_spec (hea j (hGm j hj))
          rw [g7] at e
          cases e
          have := (f10 t ht j o2 (hGm j hj) g1 g2).2
          exact (hG j (hGm j hj)).1 (hah j this) hj
        have hE : ∀ x ∈ oi.op.operands, evalE (maskEnv l G env) x = evalE env x := fun x hx => by
          cases x with
          | tmp t => exact hlook t (List.mem_append_left _ (List.mem_filterMap.2 ⟨.tmp t, by simpa using hx, rfl⟩))
          | _ => rfl
        have hop : OpS P oi.op (evalE (maskEnv l G env)) st (env d) st := by
          by_cases hiM : i ∈ M
          · obtain ⟨s, hs, _⟩ := f11 hiM
            have e1 := hM i oi d s him hiM f1 f2 hs
            rw [e1]
            have := op_move (P := P) (E := evalE env) (st := st) (.tmp s)
            rw [← hs] at this
            exact OpS.congr this hE
          · rcases hst with rfl | hst
            · exact OpS.congr (hA i oi d hiG hiM f1 f2) hE
            · exact absurd (hst i hiG) hiM
        have hE' : ∀ x ∈ oi.op.operands, evalE (maskEnv l G env) x = evalE env x := hE
        refine op_wp hop (fun d' hd' => by rw [f2] at hd'; cases hd'; exact f5) hrel fun a' w' hrel' => ?_
        rw [f2] at hrel'
        have hrel'' := rel_unmask f7 hrel'
        have hlenG : (G.erase i).length + 1 = G.length := by
          have := List.length_erase_of_mem hiG
          have : 0 < G.length := List.length_pos_of_mem hiG
          omega
        refine ih k (G.erase i) _ env st a' w' hmk hkl (by omega) (by simpa using hsz) hclosed ?_ ?_ ?_ ?_ (hnd.erase i) ?_ ?_ hM hrel'' h
        · intro j hj1 hj2
          by_cases e : j = i
          · subst e; exact hseti
          · rw [hset j e]; exact hl j hj1 hj2
        · intro j h5 h6
          rw [hset j (by omega)]; exact hu j h5 h6
        · intro j hjm
          by_cases e : j = i
          · subst e
            exact ⟨fun _ => fun hh => (List.Nodup.not_mem_erase hnd) hh, fun _ => hseti⟩
          · rw [hset j e, hG j hjm]
            constructor
            · intro hh hh2; exact hh (List.mem_of_mem_erase hh2)
            · intro hh hh2; exact hh ((List.mem_erase_of_ne e).2 hh2)
        · intro j hj; exact hGm j (List.mem_of_mem_erase hj)
        · rcases hst with h5 | h5
          · exact .inl h5
          · exact .inr fun j hj => h5 j (List.mem_of_mem_erase hj)
        · intro j oj dj hj
          exact hA j oj dj (List.mem_of_mem_erase hj)
      · -- the next one of the last ones
        have hmi : m ≤ i := by omega
        have hik : k ≤ i := by
          by_cases hlt : i < k
          · have := hl i hmi hlt
            rw [list_getD_unlisted hin] at this
            cases this
          · omega
        have hpi := hla i hmi hilt
        unfold lateAt at hpi
        simp only [hoi', List.all_eq_true, List.mem_range, Bool.or_eq_true, Bool.and_eq_true, decide_eq_true_eq] at hpi
        have hki : k = i := by
          by_cases e : k < i
          · rcases hpi k e with h5 | h5
            · have := hah k (by simpa using h5)
              rw [list_getD_unlisted (hu k (Nat.le_refl _) (by omega))] at this
              cases this
            · omega
          · omega
        subst hki
        rw [List.drop_eq_getElem_cons hilt] at h
        have hgo : l[k]'hilt = oi := by rw [List.getElem?_eq_getElem hilt] at hoi'; exact Option.some.inj hoi'
        rw [hgo] at h
        obtain ⟨hd, hy⟩ := h
        have hGM : ∀ j ∈ G, j ∈ M := fun j hj => by
          rcases hpi j (by have := hGm j hj; omega) with h5 | h5
          · exact absurd hj ((hG j (hGm j hj)).1 (hah j (by simpa using h5)))
          · simpa using h5.1.2
        have hlook : ∀ t ∈ oi.looksAt l.toArray, maskEnv l G env t = env t := fun t ht => by
          unfold maskEnv
          rw [if_neg]
          rw [Bool.not_eq_true, List.any_eq_false]
          intro j hj
          simp only [beq_iff_eq]
          intro e
          obtain ⟨d2, o2, g1, g2, _, _, g7, _⟩ := earlyAt_spec (hea j (hGm j hj))
          rw [g7] at e
          cases e
          rcases hpi j (by have := hGm j hj; omega) with h5 | h5
          · exact (hG j (hGm j hj)).1 (hah j (by simpa using h5)) hj
          · have h6 := h5.2
            simp only [g1, g2, Bool.not_eq_true'] at h6
            have : (oi.looksAt l.toArray).contains t = true := by simpa using ht
            rw [this] at h6; cases h6
        have hE : ∀ x ∈ oi.op.operands, evalE (maskEnv l G env) x = evalE env x := fun x hx => by
          cases x with
          | tmp t => exact hlook t (List.mem_append_left _ (List.mem_filterMap.2 ⟨.tmp t, by simpa using hx, rfl⟩))
          | _ => rfl
        have hGd : ∀ b, guardE (N := N) l.toArray oi env b → guardE (N := N) l.toArray oi (maskEnv l G env) b := fun b hg => by
          unfold guardE at *
          cases hgd : oi.guard with
          | none => simp only [hgd] at hg ⊢; exact hg
          | some g =>
            obtain ⟨j, want⟩ := g
            simp only [hgd] at hg ⊢
            obtain ⟨oj, d, c, e1, e2, e3, e4⟩ := hg
            refine ⟨oj, d, c, e1, e2, e3, ?_⟩
            rw [hlook d (by simp [Oper.looksAt, hgd, e1, e2])]
            exact e4
        have hdst : ∀ j ∈ G, ∀ d, fDst l j = some d → oi.dst ≠ some d := fun j hj d hjd => by
          obtain ⟨d2, o2, g1, g2, _, _, g7, g9, _⟩ := earlyAt_spec (hea j (hGm j hj))
          rw [g7] at hjd
          cases hjd
          exact g9 k oi hoi' (by have := hGm j hj; omega)
        have next : ∀ (v : AV) (st' : List AO) (a' : Act) (w' : World), Rel N w0 σ0 I (updO (maskEnv l G env) oi.dst v) st' a' w' → GQ P N l.toArray (l.drop (k + 1)) (updO env oi.dst v) st' K → wpAny P .any l.toArray Q' f (listed.setIfInBounds k true) a' w' := fun v st' a' w' hrel' h' => by
          rw [maskEnv_upd hdst] at hrel'
          refine ih (k + 1) G _ _ st' a' w' (by omega) (by omega) (by omega) (by simpa using hsz) hclosed ?_ ?_ ?_ hGm hnd (.inr hGM) (fun j oj dj hj hjM => absurd (hGM j hj) hjM) ?_ hrel' h'
          · intro j hj1 hj2
            by_cases e : j = k
            · subst e; exact hseti
            · rw [hset j e]; exact hl j hj1 (by omega)
          · intro j h5 h6
            rw [hset j (by omega)]; exact hu j (by omega) h6
          · intro j hjm
            rw [hset j (by omega)]; exact hG j hjm
          · intro j oj dj s hj hjM e1 e2 e3
            obtain ⟨d2, o2, g1, g2, _, _, g7, g9, _, g11⟩ := earlyAt_spec (hea j hj)
            rw [g1] at e1; cases e1
            rw [g2] at e2; cases e2
            obtain ⟨s2, hs2, hw2⟩ := g11 hjM
            rw [hs2] at e3; cases e3
            rw [updO_other (fun x hx e => g9 k oi hoi' (by omega) (by rw [hx, e])), updO_other (fun x hx e => hw2 k oi hoi' (by rw [hx, e]))]
            exact hM j _ _ _ hj hjM g1 g2 hs2
        unfold wpOp
        simp only [hoa]
        rcases hy with ⟨hg, ho⟩ | ⟨hg, h'⟩
        · rw [guard_wanted (hGd _ hg) hrel]
          simp only [if_true]
          have ho' : OpN P oi.op (evalE (maskEnv l G env)) st fun v st' => GQ P N l.toArray (l.drop (k + 1)) (updO env oi.dst v) st' K := fun o e w0 σ0 σ gh ρ w hb hr => ho o e w0 σ0 σ gh ρ w hb fun x hx => by rw [← hE x hx]; exact hr x hx
          exact .inl (op_wpN ho' hd hrel fun v st' a' w' hV hrel' => next v st' a' w' hrel' hV)
        · rw [guard_wanted (hGd _ hg) hrel]
          simp only [Bool.false_eq_true, if_false]
          obtain ⟨g1, g2, hI, σ, gh, hbase, hk0, he⟩ := hrel
          exact next (.tup []) st _ _ (rel_put g1 g2 hI hk0 hbase he oi.dst hd (v := .tup []) ⟨[], rfl, by simp [RepVs]⟩) h'

/-- the run in the order of the text, moves being moves -/
def WQ2 (P : Program) (N : Fm) (ops : Array Oper) (st : List AO) (K : Env → Prop) : List Oper → Env → Prop
  | [], env => K env
  | o :: rest, env => ∃ v, EYields P N ops st o v env ∧ (∀ s, o.op = .move (.tmp s) → o.guard = none → v = env s) ∧ WQ2 P N ops st K rest (updO env o.dst v)

theorem WQ2_mono {ops : Array Oper} {st : List AO} {K K' : Env → Prop} (hk : ∀ e, K e → K' e) : ∀ {l : List Oper} {env : Env}, WQ2 P N ops st K l env → WQ2 P N ops st K' l env
  | [], _, h => hk _ h
  | _ :: _, _, ⟨v, hy, hm, h⟩ => ⟨v, hy, hm, WQ2_mono hk h⟩

/-- the first ones, done in the order of the text: what each is comes out at the end -/
theorem WQ_end {l : List Oper} {m : Nat} {M : List Nat} {st : List AO} {K : Env → Prop} (hm : m ≤ l.length) (hea : ∀ i, i < m → earlyAt N m M l i = true) :
    ∀ (n k : Nat) (env : Env), k + n = m → WQ2 P N (l.take m).toArray st K ((l.take m).drop k) env →
      ∃ env', K env' ∧ (∀ (i : Nat) (o : Oper) (d s : Nat), k ≤ i → i < m → i ∈ M → l[i]? = some o → o.dst = some d → o.op = .move (.tmp s) → env' d = env' s) ∧ (∀ t, (∀ (i : Nat) (o : Oper), k ≤ i → i < m → l[i]? = some o → o.dst ≠ some t) → env' t = env t) ∧
        ∀ (i : Nat) (o : Oper) (d : Nat), k ≤ i → i < m → l[i]? = some o → o.dst = some d → OpS P o.op (evalE env') st (env' d) st
  | 0, k, env, hk, h => by
    have : (l.take m).drop k = [] := List.drop_eq_nil_of_le (by rw [List.length_take]; omega)
    rw [this] at h
    exact ⟨env, h, fun i o d s h1 h2 => by omega, fun t _ => rfl, fun i o d h1 h2 => by omega⟩
  | n + 1, k, env, hk, h => by
    have hkm : k < m := by omega
    have hkl : k < (l.take m).length := by rw [List.length_take]; omega
    rw [List.drop_eq_getElem_cons hkl] at h
    obtain ⟨v, hy, hmv, h'⟩ := h
    obtain ⟨d, o, f1, f2, f4, f5, f7, f9, f10, f11⟩ := earlyAt_spec (hea k hkm)
    have hgo : (l.take m)[k] = o := by
      have : (l.take m)[k]? = some o := by rw [List.getElem?_take_of_lt hkm]; exact f1
      rw [List.getElem?_eq_getElem hkl] at this
      exact Option.some.inj this
    rw [hgo] at hy hmv h'
    obtain ⟨env', hK, hmvs, hoth, hops⟩ := WQ_end hm hea n (k + 1) _ (by omega) h'
    have ho : OpS P o.op (evalE env) st v st := by
      rcases hy.2 with ⟨_, ho⟩ | ⟨hg, _⟩
      · exact ho
      · unfold guardE at hg
        simp only [f4] at hg
        cases hg
    have hd' : env' d = v := by
      rw [hoth d (fun i oi h1 h2 h3 => f9 i oi h3 (by omega)), f2]
      exact upd_same _ _ _
    refine ⟨env', hK, fun i oi di s h1 h2 h3 h4 h5 h6 => ?_, fun t ht => ?_, fun i oi di h1 h2 h3 h4 => ?_⟩
    · by_cases e : i = k
      · subst e
        rw [f1] at h4; cases h4
        rw [f2] at h5; cases h5
        obtain ⟨s2, hs2, hw2⟩ := f11 h3
        have h6' := h6
        rw [hs2] at h6'
        simp only [Op.move.injEq, Operand.tmp.injEq] at h6'
        subst h6'
        rw [hd', hmv _ hs2 f4, hoth s2 (fun j oj _ _ h7 => hw2 j oj h7)]
        exact (updO_other fun x hx e => hw2 i o f1 (by rw [hx, e])).symm
      · exact hmvs i oi di s (by omega) h2 h3 h4 h5 h6
    · rw [hoth t (fun i oi h1 h2 h3 => ht i oi (by omega) h2 h3)]
      exact updO_other fun x hx e => ht k o (Nat.le_refl _) hkm f1 (by rw [hx, e])
    · by_cases e : i = k
      · subst e
        rw [f1] at h3; cases h3
        rw [f2] at h4; cases h4
        rw [hd']
        refine OpS.congr ho fun x hx => ?_
        cases x with
        | tmp t =>
          have htl : t ∈ o.looksAt l.toArray := List.mem_append_left _ (List.mem_filterMap.2 ⟨.tmp t, by simpa using hx, rfl⟩)
          show env' t = env t
          rw [hoth t (fun j oj h5 h6 h7 e' => by have := (f10 t htl j oj h6 h7 e').1; omega)]
          exact updO_other fun x hx e => by
            have := (f10 t htl i o hkm f1 (by rw [hx, e])).1
            omega
        | _ => rfl
      · exact hops i oi di (by omega) h2 h3 h4

theorem WP_draw4 {env : Env} {st : List AO} {Q : Post} {id : Nat} {l : List Oper} (m : Nat) (M : List Nat) (hmx : P.follows .mixedOrders = true) (hB : earlyB N m M l.toArray = true)
    (h : WQ2 P N (l.take m).toArray st (fun env => GQ P N l.toArray (l.drop m) env st (Q .normal)) (l.take m) env) : WP P N (.region id l.toArray true) env st Q := by
  intro w0 σ0 I a w hr
  simp only [earlyB, Bool.and_eq_true, List.all_eq_true, decide_eq_true_eq] at hB
  obtain ⟨⟨⟨⟨hdst, hm⟩, hea⟩, hback⟩, hlate⟩ := hB
  have hm' : m ≤ l.length := by simpa using hm
  have hbk : ∀ j, j < l.length → backAt .any l j = true := fun j hj => by simpa using hback j (by simpa using hj)
  have hea' : ∀ i, i < m → earlyAt N m M l i = true := fun i hi => by simpa using hea i (by simpa using hi)
  have hla' : ∀ j, m ≤ j → j < l.length → lateAt m M l j = true := fun j h1 h2 => by
    refine hlate j ?_
    rw [List.mem_drop_iff_getElem]
    refine ⟨j - m, by simp; omega, ?_⟩
    simp only [List.getElem_range]
    omega
  obtain ⟨env', hK, hmvs, hoth, hops⟩ := WQ_end (P := P) hm' hea' m 0 env (by omega) (by simpa using h)
  have hr' : Rel N w0 σ0 I (maskEnv l (List.range m) env') st a { w with drawn := w.drawn + 1 } := by
    obtain ⟨h1, h2, hI, σ, gh, hb, hk, he⟩ := hr
    refine ⟨h1, h2, hI, σ, gh, hb.grown ⟨rfl, rfl, rfl, Nat.le_refl _, fun _ _ _ => rfl⟩, hk, fun t => ?_⟩
    unfold maskEnv
    split
    · trivial
    · rename_i hc
      rw [hoth t (fun i o _ h2 h3 e => hc (List.any_eq_true.2 ⟨i, List.mem_range.2 h2, by simp [fDst, h3, e]⟩))]
      exact he t
  refine wp_region_any hmx ?_
  have hsize : l.toArray.size = l.length := by simp
  have hun : ∀ i b, i < l.length → (Array.replicate l.length false).getD i b = false := fun i b h => by simp [Array.getD_eq_getD_getElem?, Array.getElem?_replicate, h]
  rw [hsize]
  refine runG (P := P) (l := l) (m := m) (M := M) (st0 := st) (Q' := Lift N w0 σ0 I Q) (K := Q .normal) hm' (fun env st a w hrel hq => ⟨env, st, hrel, hq⟩) hbk hea' hla' l.length m (List.range m) _ env' st a _ (Nat.le_refl _) hm' (by simp; omega) (by simp) (fun i o ho hi => by
      have hil : i < l.length := (List.getElem?_eq_some_iff.1 ho).1
      rw [hun i false hil] at hi; cases hi) (fun i h1 h2 => by omega) (fun i _ h2 => hun i true h2) (fun i hi => ?_) (fun i hi => List.mem_range.1 hi) List.nodup_range (.inl rfl) (fun i o d h1 _ h3 h4 => hops i o d (Nat.zero_le _) (List.mem_range.1 h1) h3 h4) (fun i o d s h1 h2 h3 h4 h5 => ?_) hr' hK
  · constructor
    · intro h2; rw [hun i false (by omega)] at h2; cases h2
    · intro h2; exact absurd (List.mem_range.2 hi) h2
  · exact hmvs i o d s (Nat.zero_le _) h1 h2 h3 h4 h5

end

section
variable {P : Program} {T : Tab} {N : Fm} (hT : TabOk P T)
include hT

theorem vcQ_sound2 {ops : List Oper} {st : List AO} : ∀ {l : List Oper} {env : Env} {K : Env → Prop}, dstOk N l → vcQ P T N ops st l env K → WQ2 P N ops.toArray st K l env
  | [], env, K, _, h => h
  | o :: rest, env, K, hd, h => by
    have hd0 : ∀ d, o.dst = some d → d < N.n := hd o (by simp)
    have hdr : dstOk N rest := fun o' ho' => hd o' (by simp [ho'])
    obtain ⟨dst, op, ty, pos, after, guard⟩ := o
    unfold vcQ at h
    split at h
    · rename_i hg
      simp only at hg
      subst hg
      by_cases hmv : ∃ s, op = .move (.tmp s)
      · obtain ⟨s, rfl⟩ := hmv
        have h' := force_out (show force (evalE env (.tmp s)) (fun v => st = st ∧ vcQ P T N ops st rest (updO env dst v) K) from h)
        refine ⟨env s, ⟨hd0, .inl ⟨rfl, ?_⟩⟩, fun s' hs' _ => ?_, vcQ_sound2 hdr h'.2⟩
        · exact op_move (P := P) (E := evalE env) (st := st) (.tmp s)
        · simp only [Op.move.injEq, Operand.tmp.injEq] at hs'
          rw [hs']
      · obtain ⟨v, st', h1, h2, h3⟩ := vcOp_sound hT h
        subst h2
        exact ⟨v, ⟨hd0, .inl ⟨rfl, h1⟩⟩, fun s hs _ => absurd ⟨s, hs⟩ hmv, vcQ_sound2 hdr h3⟩
    · rename_i j want hg
      simp only at hg
      subst hg
      split at h
      · rename_i oj hj
        split at h
        · rename_i d hdj
          split at h
          · rename_i b hb
            obtain ⟨hdN, h1, h2⟩ := h
            by_cases e : b = want
            · obtain ⟨v, st', h3, h4, h5⟩ := vcOp_sound hT (h1 e)
              subst h4
              exact ⟨v, ⟨hd0, .inl ⟨⟨oj, d, b, by simpa using hj, hdj, hdN, .inl ⟨hb, by simp [e]⟩⟩, h3⟩⟩, fun s _ hg => (by cases hg), vcQ_sound2 hdr h5⟩
            · exact ⟨.tup [], ⟨hd0, .inr ⟨⟨oj, d, b, by simpa using hj, hdj, hdN, .inl ⟨hb, by simp [e]⟩⟩, rfl⟩⟩, fun s _ hg => (by cases hg), vcQ_sound2 hdr (h2 e)⟩
          · exact h.elim
        · exact h.elim
      · exact h.elim

theorem vc_draw4 {env : Env} {st : List AO} {Q : Post} {id : Nat} {ops : Array Oper} (m : Nat) (M : List Nat) (hB : earlyB N m M ops = true)
    (h : vcQ P T N (ops.toList.take m) st (ops.toList.take m) env fun env => vcL P T N ops.toList (ops.toList.drop m) env st (Q .normal)) : WP P N (.region id ops true) env st Q := by
  obtain ⟨l⟩ := ops
  have hd : dstOk N l := fun o ho d hdo => by
    simp only [earlyB, Bool.and_eq_true, Array.all_eq_true_iff_forall_mem] at hB
    have := hB.1.1.1.1 o (by simpa using ho)
    rw [hdo] at this
    simpa using this
  refine WP_draw4 m M hT.mixed hB ?_
  have h2 := vcQ_sound2 hT (fun o ho => hd o (List.mem_of_mem_take ho)) h
  exact WQ2_mono (fun e he => vcG_sound hT (fun o ho => hd o (List.mem_of_mem_drop ho)) he) h2
end
end Go.Proofs.Nw.K
end
section
/- Q7: words turned round. -/
open Go Go.RowKit Go.Proofs
set_option linter.unusedVariables false
set_option linter.unusedSimpArgs false
namespace Go.Proofs.Nw.K

def MidR (xs : List Wd) (i : Nat) (ys : List Wd) : Prop := ys.length = xs.length ∧ ∀ t, t < xs.length → ys[t]? = if t < i ∨ xs.length - i ≤ t then xs[xs.length - 1 - t]? else xs[t]?

theorem MidR.zero (xs : List Wd) : MidR xs 0 xs := ⟨rfl, fun t ht => by rw [if_neg (by omega)]⟩
theorem MidR.done {xs ys : List Wd} {i : Nat} (h : MidR xs i ys) (hi : xs.length ≤ 2 * i + 1) : ys = xs.reverse := by
  apply List.ext_getElem?
  intro t
  by_cases ht : t < xs.length
  · rw [h.2 t ht, List.getElem?_reverse ht]
    split
    · rfl
    · congr 1; omega
  · rw [List.getElem?_eq_none (by rw [h.1]; omega), List.getElem?_eq_none (by simp; omega)]
theorem MidR.step {xs ys : List Wd} {i j : Nat} (h : MidR xs i ys) (hj : j = xs.length - 1 - i) (hij : i < j) (a b : Wd) (ha : ys[j]? = some a) (hb : ys[i]? = some b) : MidR xs (i + 1) ((ys.set i a).set j b) := by
  refine ⟨by simp [h.1], fun t ht => ?_⟩
  have hjx : j < xs.length := by omega
  rw [h.2 j hjx, if_neg (by omega)] at ha
  rw [h.2 i (by omega), if_neg (by omega)] at hb
  rw [List.getElem?_set, List.getElem?_set]
  simp only [List.length_set, h.1]
  by_cases e1 : j = t
  · subst e1
    rw [if_pos rfl, if_pos hjx, if_pos (by omega)]
    rw [← hb]; congr 1; try omega
  · rw [if_neg e1]
    by_cases e2 : i = t
    · subst e2
      rw [if_pos rfl, if_pos (by omega), if_pos (by omega)]
      rw [← ha]; congr 1; try omega
    · rw [if_neg e2, h.2 t ht]
      by_cases c : t < i ∨ xs.length - i ≤ t
      · rw [if_pos c, if_pos (by omega)]
      · rw [if_neg c, if_neg (by omega)]

theorem map_set {ys : List Wd} {i : Nat} {x : List D} {w : Wd} (hx : x = encWd w) : (ys.map encWd).set i x = (ys.set i w).map encWd := by
  subst hx
  rw [List.map_set]

theorem reverse_eff (k : Nat) (xs : List Wd) (hn : xs.length ≤ 4194304) : Eff Tryz.prog 114 [.h 0 k 0 xs.length] [.row k 94 2 (xs.map encWd)] [] [.row k 94 2 (xs.reverse.map encWd)] := by
  refine eff_vc Tryz.func114 rfl rfl (by exact Nat.le_of_ble_eq_true rfl) rfl (vc_sound tabOk (by kernel_rfl) ?_)
  refine And.intro rfl ?_
  refine And.intro rfl (And.intro ⟨by show (-9223372036854775808 : Int) ≤ (xs.length : Int) - 1; omega, by show (xs.length : Int) - 1 ≤ _; omega⟩ ?_)
  refine WP_loop (α := {p : Nat × List Wd // MidR xs p.1 p.2 ∧ 2 * p.1 ≤ xs.length + 1}) (fun p => ofL [(0, .h 0 k 0 xs.length), (2, .int (p.1.1 : Int)), (3, .int ((xs.length : Int) - 1 - (p.1.1 : Int)))]) (fun p => [.row k 94 2 (p.1.2.map encWd)]) (fun p => xs.length + 1 - 2 * p.1.1) ⟨(0, xs), MidR.zero xs, by show 2 * 0 ≤ _; omega⟩ ?_ ?_
  · refine Sub.ofL _ _ (Nat.le_refl _) ⟨rfl, rfl, rfl, rfl, ?_, rfl, trivial⟩ rfl rfl
    show AV.int ((xs.length : Int) - 1) = AV.int ((xs.length : Int) - 1 - ((0 : Nat) : Int))
    rw [show (xs.length : Int) - 1 - ((0 : Nat) : Int) = (xs.length : Int) - 1 by omega]
  rintro ⟨⟨i, ys⟩, hmid, hi2⟩
  have hmid : MidR xs i ys := hmid
  have hi2 : 2 * i ≤ xs.length + 1 := hi2
  refine WP_seq (vc_sound tabOk (by kernel_rfl) ?_)
  refine And.intro rfl ?_
  refine And.intro (fun h => ?_) (fun h => ?_)
  rotate_left
  · have h : decide ((i : Int) < (xs.length : Int) - 1 - (i : Int)) = false := h
    have h2 := of_decide_eq_false h
    have hd := hmid.done (by omega)
    refine And.intro ?_ (And.intro rfl (Exists.intro [] (And.intro rfl trivial)))
    show [AO.row k 94 2 (ys.map encWd)] = _
    rw [hd]
  have h : decide ((i : Int) < (xs.length : Int) - 1 - (i : Int)) = true := h
  have hlt := of_decide_eq_true h
  obtain ⟨j, hj⟩ : ∃ j : Nat, (xs.length : Int) - 1 - (i : Int) = (j : Int) := ⟨xs.length - 1 - i, by omega⟩
  have hij : i < j := by omega
  have hjn : j = xs.length - 1 - i := by omega
  have hyl : ys.length = xs.length := hmid.1
  have hjy : j < ys.length := by omega
  have hiy : i < ys.length := by omega
  have ea : ys[j]? = some ys[j] := List.getElem?_eq_getElem hjy
  have eb : ys[i]? = some ys[i] := List.getElem?_eq_getElem hiy
  have hstep := hmid.step hjn hij _ _ ea eb
  generalize ys[j] = wa at *
  generalize ys[i] = wb at *
  have htj : 0 + ((xs.length : Int) - 1 - (i : Int)).toNat = j := by omega
  have hti : 0 + ((i : Int)).toNat = i := by omega
  have ra : (ys.map encWd)[0 + ((xs.length : Int) - 1 - (i : Int)).toNat]? = some (encWd wa) := by rw [htj, List.getElem?_map, ea]; rfl
  have rb : (ys.map encWd)[0 + ((i : Int)).toNat]? = some (encWd wb) := by rw [hti, List.getElem?_map, eb]; rfl
  refine WP_seq (WP_block (vc_draw4 tabOk 12 [2, 3] (by kernel_rfl) ?_))
  refine And.intro rfl ?_
  refine And.intro rfl ?_
  refine And.intro rfl ?_
  refine And.intro rfl ?_
  refine And.intro rfl ?_
  refine And.intro rfl ?_
  refine And.intro rfl (And.intro rfl (And.intro (by show (0 : Int) ≤ (xs.length : Int) - 1 - (i : Int); omega) (And.intro (by show (xs.length : Int) - 1 - (i : Int) < (xs.length : Int); omega) (And.intro rfl ?_))))
  refine And.intro rfl (Exists.intro _ (And.intro ra (And.intro (Nat.le_of_ble_eq_true rfl) (And.intro rfl ?_))))
  refine And.intro rfl ?_
  refine And.intro rfl ?_
  refine And.intro rfl (And.intro rfl (And.intro (Int.natCast_nonneg _) (And.intro (by show (i : Int) < (xs.length : Int); omega) (And.intro rfl ?_))))
  refine And.intro rfl (Exists.intro _ (And.intro rb (And.intro (Nat.le_of_ble_eq_true rfl) (And.intro rfl ?_))))
  refine And.intro rfl (And.intro rfl (And.intro (Int.natCast_nonneg _) (And.intro (by show (i : Int) < (xs.length : Int); omega) ?_)))
  refine And.intro rfl (Exists.intro _ (And.intro rb (And.intro rfl (And.intro (Nat.le_of_ble_eq_true rfl) ?_))))
  refine And.intro rfl (And.intro rfl (And.intro (by show (0 : Int) ≤ (xs.length : Int) - 1 - (i : Int); omega) (And.intro (by show (xs.length : Int) - 1 - (i : Int) < (xs.length : Int); omega) ?_)))
  have rc : ((ys.set i wa).map encWd)[0 + ((xs.length : Int) - 1 - (i : Int)).toNat]? = some (encWd wa) := by
    rw [htj, List.getElem?_map, List.getElem?_set_ne (by omega), ea]; rfl
  have e1 : (ys.map encWd).set (0 + ((i : Int)).toNat) (encWd wa) = (ys.set i wa).map encWd := by rw [hti, map_set rfl]
  refine And.intro rfl (Exists.intro (encWd wa) (And.intro (by rw [← rc, ← e1]; rfl) (And.intro rfl (And.intro (Nat.le_of_ble_eq_true rfl) ?_))))
  refine vc_sound tabOk (by kernel_rfl) ?_
  refine And.intro rfl (And.intro ⟨by omega, by show (i : Int) + 1 ≤ _; omega⟩ ?_)
  refine And.intro rfl (And.intro ⟨by show (-9223372036854775808 : Int) ≤ (xs.length : Int) - 1 - (i : Int) - 1; omega, by show (xs.length : Int) - 1 - (i : Int) - 1 ≤ _; omega⟩ ?_)
  refine ⟨⟨(i + 1, (ys.set i wa).set j wb), hstep, by show 2 * (i + 1) ≤ xs.length + 1; omega⟩, by show xs.length + 1 - 2 * (i + 1) < xs.length + 1 - 2 * i; omega, Sub.ofL _ _ (Nat.le_refl _) ⟨rfl, rfl, rfl, rfl, ?_, rfl, trivial⟩ ?_ rfl⟩
  · show AV.int ((xs.length : Int) - 1 - (i : Int) - 1) = AV.int ((xs.length : Int) - 1 - ((i + 1 : Nat) : Int))
    rw [show (xs.length : Int) - 1 - ((i + 1 : Nat) : Int) = (xs.length : Int) - 1 - (i : Int) - 1 by omega]
  · show [AO.row k 94 2 (((ys.map encWd).set (0 + ((i : Int)).toNat) (encWd wa)).set (0 + ((xs.length : Int) - 1 - (i : Int)).toNat) (encWd wb))] = [AO.row k 94 2 (((ys.set i wa).set j wb).map encWd)]
    rw [e1, htj, map_set rfl]
end Go.Proofs.Nw.K
end
section
/- V1: what is to be shown of code, without what goes without saying: 'vcc'. -/
open Go Go.RowKit
set_option linter.unusedVariables false
set_option linter.unusedSimpArgs false
namespace Go.Proofs.Nw.K

/-- one thing to be shown, and on -/
inductive Ob (p K : Prop) : Prop | mk (h : p) (k : K) : Ob p K
/-- two ways -/
inductive Br (b : Bool) (K L : Prop) : Prop | mk (h : b = true → K) (k : b = false → L) : Br b K L
theorem Br.t {K L : Prop} (h : K) : Br true K L := .mk (fun _ => h) (fun e => by cases e)
theorem Br.f {K L : Prop} (h : L) : Br false K L := .mk (fun e => by cases e) (fun _ => h)
theorem Br.yes {b : Bool} {K L : Prop} (e : b = true) (h : K) : Br b K L := by subst e; exact Br.t h
theorem Br.no {b : Bool} {K L : Prop} (e : b = false) (h : L) : Br b K L := by subst e; exact Br.f h
def gd (b : Bool) (K : Prop) : Prop := match b with | true => K | false => False
theorem gd_out {b : Bool} {K : Prop} (h : gd b K) : b = true ∧ K := by cases b with | true => exact ⟨rfl, h⟩ | false => exact h.elim
theorem Ob.out {p K : Prop} (h : Ob p K) : p ∧ K := ⟨h.1, h.2⟩

def ikN : IntKind → Nat | .i8 => 0 | .i16 => 1 | .i32 => 2 | .i64 => 3 | .u8 => 4 | .u16 => 5 | .u32 => 6 | .u64 => 7
def ikb (a b : IntKind) : Bool := Nat.beq (ikN a) (ikN b)
theorem ikb_eq {a b : IntKind} (h : ikb a b = true) : a = b := by cases a <;> cases b <;> first | rfl | cases h
def lenOk {α : Type _} : Nat → List α → Bool
  | 0, _ => true
  | _ + 1, [] => false
  | n + 1, _ :: r => lenOk n r
theorem lenOk_le {α : Type _} : ∀ {n : Nat} {l : List α}, lenOk n l = true → n ≤ l.length
  | 0, _, _ => Nat.zero_le _
  | _ + 1, [], h => by cases h
  | n + 1, _ :: r, h => Nat.succ_le_succ (lenOk_le (l := r) h)
def lenIs {α : Type _} : Nat → List α → Bool
  | 0, [] => true
  | n + 1, _ :: r => lenIs n r
  | _, _ => false
theorem lenIs_eq {α : Type _} : ∀ {n : Nat} {l : List α}, lenIs n l = true → l.length = n
  | 0, [], _ => rfl
  | n + 1, _ :: r, h => by simp [lenIs_eq (n := n) (l := r) h]
  | 0, _ :: _, h => by cases h
  | _ + 1, [], h => by cases h
theorem beq_out {a b : Nat} (h : Nat.beq a b = true) : a = b := Nat.eq_of_beq_eq_true h
def isStr : TK → Bool | .str => true | _ => false
theorem isStr_eq {k : TK} (h : isStr k = true) : k = .str := by cases k <;> first | rfl | cases h
def isBool : TK → Bool | .bool => true | _ => false
theorem isBool_eq {k : TK} (h : isBool k = true) : k = .bool := by cases k <;> first | rfl | cases h
def isU8 : TK → Bool | .int .u8 => true | _ => false
theorem isU8_eq {k : TK} (h : isU8 k = true) : k = .int .u8 := by
  cases k with
  | int k => cases k <;> first | rfl | cases h
  | _ => cases h

section
variable (P : Program) (T : Tab) (N : Fm)

def cArith (k : IntKind) (r : Int) (st : List AO) (K : KO) : Prop :=
  match k with
  | .i64 => Ob (-9223372036854775808 ≤ r ∧ r ≤ 9223372036854775807) (K (.int r) st)
  | k => K (.sc (.int k (k.wrap r))) st
theorem cArith_out {k r st K} (h : cArith k r st K) : vcArith k r st K := by
  unfold cArith at h
  unfold vcArith
  split at h
  · exact h.out
  · split
    · rename_i h0; exact (h0 rfl).elim
    · exact h

def cBin (op : BinOp) (t : Nat) (x y : AV) (st : List AO) (K : KO) : Prop :=
  match op, x, y with
  | .add, .v (.one (.sc (.int k a))), .v (.one (.sc (.int k' b))) => gd (ikb k' k) (cArith k (a + b) st K)
  | .sub, .v (.one (.sc (.int k a))), .v (.one (.sc (.int k' b))) => gd (ikb k' k) (cArith k (a - b) st K)
  | .mul, .v (.one (.sc (.int k a))), .v (.one (.sc (.int k' b))) => gd (ikb k' k) (cArith k (a * b) st K)
  | .quo, .v (.one (.sc (.int k a))), .v (.one (.sc (.int k' b))) => gd (ikb k' k) (Ob (b ≠ 0) (cArith k (a.tdiv b) st K))
  | .rem, .v (.one (.sc (.int k a))), .v (.one (.sc (.int k' b))) => gd (ikb k' k) (Ob (b ≠ 0) (K (.sc (.int k (a.tmod b))) st))
  | .eql, .v (.one (.sc (.int k a))), .v (.one (.sc (.int k' b))) => gd (ikb k' k) (K (.bool (a == b)) st)
  | .neq, .v (.one (.sc (.int k a))), .v (.one (.sc (.int k' b))) => gd (ikb k' k) (K (.bool (a != b)) st)
  | .lss, .v (.one (.sc (.int k a))), .v (.one (.sc (.int k' b))) => gd (ikb k' k) (K (.bool (decide (a < b))) st)
  | .leq, .v (.one (.sc (.int k a))), .v (.one (.sc (.int k' b))) => gd (ikb k' k) (K (.bool (decide (a ≤ b))) st)
  | .gtr, .v (.one (.sc (.int k a))), .v (.one (.sc (.int k' b))) => gd (ikb k' k) (K (.bool (decide (a > b))) st)
  | .geq, .v (.one (.sc (.int k a))), .v (.one (.sc (.int k' b))) => gd (ikb k' k) (K (.bool (decide (a ≥ b))) st)
  | .add, .v (.one (.sc (.string a))), .v (.one (.sc (.string b))) => Ob (a.size + b.size ≤ 9223372036854775807) (K (.str (a ++ b)) st)
  | .eql, .v (.one (.sc (.bool a))), .v (.one (.sc (.bool b))) => gd (isBool (T.kd t)) (K (.bool (a == b)) st)
  | .neq, .v (.one (.sc (.bool a))), .v (.one (.sc (.bool b))) => gd (isBool (T.kd t)) (K (.bool (!(a == b))) st)
  | .eql, .ptr _ _, .v (.one (.sc (.pointer none))) => gd (T.pt t) (K (.bool false) st)
  | .eql, .v (.one (.sc (.pointer none))), .v (.one (.sc (.pointer none))) => gd (T.pt t) (K (.bool true) st)
  | .eql, .v (.agg cs), .v (.agg ds) => match T.ss t, strsOf cs, strsOf ds with
    | some n, some a, some b => gd (lenIs n a && lenIs n b) (K (.bool (eqStrs a b)) st)
    | _, _, _ => False
  | .neq, .v (.agg cs), .v (.agg ds) => match T.ss t, strsOf cs, strsOf ds with
    | some n, some a, some b => gd (lenIs n a && lenIs n b) (K (.bool (!eqStrs a b)) st)
    | _, _, _ => False
  | op, x, y => vcBin T op t x y st K

theorem cBin_out {op t x y st K} (h : cBin T op t x y st K) : vcBin T op t x y st K := by
  unfold cBin at h
  split at h
  case h_12 => exact h.out
  case h_13 => exact ⟨isBool_eq (gd_out h).1, (gd_out h).2⟩
  case h_14 => exact ⟨isBool_eq (gd_out h).1, (gd_out h).2⟩
  case h_15 => exact gd_out h
  case h_16 => exact gd_out h
  case h_17 =>
    unfold vcBin
    simp only
    split at h
    · rename_i h1 h2 h3
      obtain ⟨h4, h5⟩ := gd_out h
      rw [Bool.and_eq_true] at h4
      rw [h1, h2, h3]
      exact ⟨lenIs_eq h4.1, lenIs_eq h4.2, h5⟩
    · exact h.elim
  case h_18 =>
    unfold vcBin
    simp only
    split at h
    · rename_i h1 h2 h3
      obtain ⟨h4, h5⟩ := gd_out h
      rw [Bool.and_eq_true] at h4
      rw [h1, h2, h3]
      exact ⟨lenIs_eq h4.1, lenIs_eq h4.2, h5⟩
    · exact h.elim
  case h_19 => exact h
  case h_1 => exact ⟨ikb_eq (gd_out h).1, cArith_out (gd_out h).2⟩
  case h_2 => exact ⟨ikb_eq (gd_out h).1, cArith_out (gd_out h).2⟩
  case h_3 => exact ⟨ikb_eq (gd_out h).1, cArith_out (gd_out h).2⟩
  case h_4 => exact ⟨ikb_eq (gd_out h).1, (gd_out h).2.1, cArith_out (gd_out h).2.2⟩
  case h_5 => exact ⟨ikb_eq (gd_out h).1, (gd_out h).2.1, (gd_out h).2.2⟩
  all_goals exact ⟨ikb_eq (gd_out h).1, (gd_out h).2⟩

/-- a cell's row -/
inductive RowAt (xs : List (List D)) (i : Nat) (K : List D → Prop) : Prop
  | mk (cells : List D) (h : xs[i]? = some cells) (k : K cells) : RowAt xs i K
theorem RowAt.ty {α : Type} {enc : α → List D} {es : List α} {i : Nat} {K : List D → Prop} (z : α) (h : i < es.length) (k : K (enc (es.getD i z))) : RowAt (es.map enc) i K :=
  .mk _ (by rw [List.getElem?_map, List.getElem?_eq_getElem h, List.getD_eq_getElem?_getD, List.getElem?_eq_getElem h]; rfl) k

def cLoad (t : Nat) (x : AV) (st : List AO) (K : KO) : Prop :=
  match T.ld t, x with
  | some (n, true), .v (.one (.ref cells)) => gd (lenOk n cells) (K (.agg (cells.take n)) st)
  | some (n, true), .ptr s off => match st[s]? with
    | some (.box bT cells) => match toDs ((cells.drop off).take n) with
      | some ds => gd (lenIs n ds) (K (.agg ds) st)
      | none => False
    | _ => False
  | some (n, true), .ep s v i off => match st[s]? with
    | some (.row v' e sz xs) => Ob (v = v') (RowAt xs i fun cells => gd (lenOk (off + n) cells) (K (.agg ((cells.drop off).take n)) st))
    | _ => False
  | some (_, false), .ep s v i off => match st[s]? with
    | some (.row v' e sz xs) => Ob (v = v') (RowAt xs i fun cells => match cells[off]? with | some d => K (.d d) st | none => False)
    | _ => False
  | _, _ => vcLoad T t x st K

theorem cLoad_out {t x st K} (h : cLoad T t x st K) : vcLoad T t x st K := by
  unfold cLoad at h
  split at h
  · rename_i n cells hl
    unfold vcLoad
    rw [hl]
    exact ⟨lenOk_le (gd_out h).1, (gd_out h).2⟩
  · rename_i n s off hl
    unfold vcLoad
    rw [hl]
    simp only
    split at h
    · rename_i bT cells hst
      rw [hst]
      simp only
      split at h
      · rename_i ds hds
        rw [hds]
        exact ⟨lenIs_eq (gd_out h).1, (gd_out h).2⟩
      · exact h.elim
    · exact h.elim
  · rename_i n s v i off hl
    unfold vcLoad
    rw [hl]
    simp only
    split at h
    · rename_i v' e sz xs hst
      rw [hst]
      obtain ⟨h1, cells, h2, h3⟩ := h
      exact ⟨h1, cells, h2, lenOk_le (gd_out h3).1, (gd_out h3).2⟩
    · exact h.elim
  · rename_i n s v i off hl
    unfold vcLoad
    rw [hl]
    simp only
    split at h
    · rename_i v' e sz xs hst
      rw [hst]
      obtain ⟨h1, cells, h2, h3⟩ := h
      split at h3
      · rename_i d hd
        exact ⟨h1, cells, d, h2, hd, h3⟩
      · exact h3.elim
    · exact h.elim
  · exact h

/-- a row, turned -/
inductive RowSet (xs : List (List D)) (i sz : Nat) (G : List D → Prop → Prop) (f : List D → List D) (K : List (List D) → Prop) : Prop
  | raw (cells : List D) (h : xs[i]? = some cells) (k : G cells (K (xs.set i (f cells)))) : RowSet xs i sz G f K
  | ty {α : Type} (enc : α → List D) (es : List α) (z y : α) (h : xs = es.map enc) (hi : i < es.length) (hy : f (enc (es.getD i z)) = enc y) (k : G (enc (es.getD i z)) (K ((es.set i y).map enc))) : RowSet xs i sz G f K
theorem RowSet.out {xs i sz G f K} (h : RowSet xs i sz G f K) : ∃ cells, xs[i]? = some cells ∧ G cells (K (xs.set i (f cells))) := by
  cases h with
  | raw cells h k => exact ⟨cells, h, k⟩
  | ty enc es z y h hi hy k =>
    subst h
    refine ⟨enc (es.getD i z), by rw [List.getElem?_map, List.getElem?_eq_getElem hi, List.getD_eq_getElem?_getD, List.getElem?_eq_getElem hi]; rfl, ?_⟩
    rw [hy, ← List.map_set]
    exact k

def cStore (t : Nat) (x y : AV) (st : List AO) (K : KO) : Prop :=
  match T.ld t, x, y with
  | some (n, true), .ptr s off, .v (.agg ds) => match st[s]? with
    | some (.box bT cells) => gd (lenIs n ds && lenOk (off + n) cells) (K .junk (st.set s (.box bT (cells.take off ++ ds.map AV.d ++ cells.drop (off + n)))))
    | _ => False
  | some (1, false), .ptr s off, a => match st[s]? with
    | some (.box bT cells) => Ob (okSingle st a) (gd (lenOk (off + 1) cells) (K .junk (st.set s (.box bT (cells.take off ++ [a] ++ cells.drop (off + 1))))))
    | some (.brow e ns) => ∃ m, a = .byte m ∧ Ob (off < ns.length) (K .junk (st.set s (.brow e (ns.set off m))))
    | _ => False
  | some (n, true), .ep s v i off, .v (.agg ds) => match st[s]? with
    | some (.row v' e sz xs) => Ob (v = v') (RowSet xs i sz (fun cells => gd (lenIs n ds && lenOk (off + n) cells)) (fun cells => cells.take off ++ ds ++ cells.drop (off + n)) fun xs' => K .junk (st.set s (.row v e sz xs')))
    | _ => False
  | some (1, false), .ep s v i off, .v (.one d) => match st[s]? with
    | some (.row v' e sz xs) => Ob (v = v') (RowSet xs i sz (fun cells => gd (lenOk (off + 1) cells)) (fun cells => cells.set off d) fun xs' => K .junk (st.set s (.row v e sz xs')))
    | _ => False
  | _, _, _ => vcStore T t x y st K

theorem cStore_out {t x y st K} (h : cStore T t x y st K) : vcStore T t x y st K := by
  unfold cStore at h
  split at h
  · rename_i n s off ds hl
    unfold vcStore
    rw [hl]
    simp only
    split at h
    · rename_i bT cells hst
      rw [hst]
      obtain ⟨h4, h5⟩ := gd_out h
      rw [Bool.and_eq_true] at h4
      exact ⟨lenIs_eq h4.1, lenOk_le h4.2, h5⟩
    · exact h.elim
  · rename_i s off hl
    unfold vcStore
    rw [hl]
    simp only
    split at h
    · rename_i bT cells hst
      rw [hst]
      exact ⟨h.1, lenOk_le (gd_out h.2).1, (gd_out h.2).2⟩
    · rename_i e ns hst
      rw [hst]
      obtain ⟨m, h1, h2, h3⟩ := h
      exact ⟨m, h1, h2, h3⟩
    · exact h.elim
  · rename_i n s v i off ds hl
    unfold vcStore
    rw [hl]
    simp only
    split at h
    · rename_i v' e sz xs hst
      rw [hst]
      obtain ⟨h1, h0⟩ := h
      obtain ⟨cells, h2, h3⟩ := h0.out
      obtain ⟨h4, h5⟩ := gd_out h3
      rw [Bool.and_eq_true] at h4
      exact ⟨h1, cells, h2, lenIs_eq h4.1, lenOk_le h4.2, h5⟩
    · exact h.elim
  · rename_i s v i off d hl
    unfold vcStore
    rw [hl]
    simp only
    split at h
    · rename_i v' e sz xs hst
      rw [hst]
      obtain ⟨h1, h0⟩ := h
      obtain ⟨cells, h2, h3⟩ := h0.out
      exact ⟨h1, cells, h2, lenOk_le (gd_out h3).1, (gd_out h3).2⟩
    · exact h.elim
  · exact h

inductive GiveK (K L : Prop) : Prop | keep (h : K) : GiveK K L | give (h : L) : GiveK K L
def cStoreG (t : Nat) (x y : AV) (st : List AO) (K : KO) : Prop :=
  match y with
  | .h s k lo n => GiveK (cStore T t x (.h s k lo n) st K) (match st[s]? with
    | some (.row k' e sz xs) => Ob (k = k' ∧ lo = 0 ∧ n = xs.length) (cStore T t x (.list sz xs) (st.set s .gone) K)
    | _ => False)
  | y => cStore T t x y st K
theorem cStoreG_out {t x y st K} (h : cStoreG T t x y st K) : vcStoreG T t x y st K := by
  unfold cStoreG at h
  unfold vcStoreG
  split at h
  · simp only
    rcases h with h | h
    · exact .inl (cStore_out T h)
    · refine .inr ?_
      split at h
      · rename_i hst
        rw [hst]
        exact ⟨h.1, cStore_out T h.2⟩
      · exact h.elim
  · rename_i hn
    split
    · exact (hn _ _ _ _ rfl).elim
    · exact cStore_out T h

def cIndexAddr (t : Nat) (x i : AV) (st : List AO) (K : KO) : Prop :=
  match T.el t, x, i with
  | some (e, sz), .v (.one (.tl α sz' enc z xs)), .v (.one (.sc (.int _ n))) => gd (Nat.beq sz' sz) (Ob (0 ≤ n ∧ n < xs.length) (K (.d (.ref (enc (xs.getD n.toNat z)))) st))
  | some (e, sz), .v (.one (.list sz' xs)), .v (.one (.sc (.int _ n))) => gd (Nat.beq sz' sz) (Ob (0 ≤ n) (∃ cells, xs[n.toNat]? = some cells ∧ K (.d (.ref cells)) st))
  | some (e, sz), .h s v lo m, .v (.one (.sc (.int _ n))) => match st[s]? with
    | some (.row v' e' sz' xs) => gd (Nat.beq sz' sz) (Ob (v = v' ∧ 0 ≤ n ∧ n < m) (match Nat.beq lo 0 with | true => K (.ep s v n.toNat 0) st | false => K (.ep s v (lo + n.toNat) 0) st))
    | _ => False
  | _, _, _ => vcIndexAddr T t x i st K
theorem cIndexAddr_out {t x i st K} (h : cIndexAddr T t x i st K) : vcIndexAddr T t x i st K := by
  unfold cIndexAddr at h
  split at h
  · rename_i hl
    unfold vcIndexAddr
    rw [hl]
    obtain ⟨h1, h2⟩ := gd_out h
    exact ⟨beq_out h1, h2.1.1, h2.1.2, h2.2⟩
  · rename_i hl
    unfold vcIndexAddr
    rw [hl]
    obtain ⟨h1, h2⟩ := gd_out h
    exact ⟨beq_out h1, h2.1, h2.2⟩
  · rename_i hl
    unfold vcIndexAddr
    rw [hl]
    simp only
    split at h
    · rename_i hst
      rw [hst]
      obtain ⟨h1, h2⟩ := gd_out h
      refine ⟨beq_out h1, h2.1.1, h2.1.2.1, h2.1.2.2, ?_⟩
      have h3 := h2.2
      split at h3
      · rename_i h4
        rw [beq_out h4, Nat.zero_add]; exact h3
      · exact h3
    · exact h.elim
  · exact h

def cLo (E : Operand → AV) (o : Option Operand) (K : Nat → Prop) : Prop :=
  match o with
  | none => K 0
  | some x => match E x with
    | .v (.one (.sc (.int .i64 n))) => Ob (0 ≤ n) (K n.toNat)
    | _ => False
def cHi (E : Operand → AV) (len : Nat) (o : Option Operand) (K : Nat → Prop) : Prop :=
  match o with
  | none => K len
  | some x => match E x with
    | .v (.one (.sc (.int .i64 n))) => Ob (0 ≤ n) (K n.toNat)
    | _ => False
theorem cLo_out {E : Operand → AV} {o K} {K' : Nat → Prop} (h : cLo E o K) (hk : ∀ n, K n → K' n) : vcLo E o K' := by
  cases o with
  | none => exact hk _ h
  | some x =>
    unfold cLo at h
    unfold vcLo
    simp only at h ⊢
    split at h
    · rename_i he
      simp only [he]
      exact ⟨h.1, hk _ h.2⟩
    · exact h.elim
theorem cHi_out {E : Operand → AV} {o K len} {K' : Nat → Prop} (h : cHi E len o K) (hk : ∀ n, K n → K' n) : vcHi E len o K' := by
  cases o with
  | none => exact hk _ h
  | some x =>
    unfold cHi at h
    unfold vcHi
    simp only at h ⊢
    split at h
    · rename_i he
      simp only [he]
      exact ⟨h.1, hk _ h.2⟩
    · exact h.elim

def cSlice (t : Nat) (x : AV) (lo hi : Option Operand) (E : Operand → AV) (st : List AO) (K : KO) : Prop :=
  match x with
  | .v (.one (.sc (.string s))) => gd (isStr (T.kd t)) (cLo E lo fun l => cHi E s.size hi fun h => Ob (l ≤ h ∧ h ≤ s.size) (K (.str (s.extract l h)) st))
  | .v (.one (.tl α sz enc z xs)) => match T.el t with
    | some (e, sz') => gd (Nat.beq sz sz') (match hi, lo with
      | none, _ => cLo E lo fun l => Ob (l ≤ xs.length) (K (.d (.tl α sz enc z (xs.drop l))) st)
      | some _, none => cHi E xs.length hi fun h => Ob (h ≤ xs.length) (K (.d (.tl α sz enc z (xs.take h))) st)
      | _, _ => cLo E lo fun l => cHi E xs.length hi fun h => Ob (l ≤ h ∧ h ≤ xs.length) (K (.d (.tl α sz enc z ((xs.take h).drop l))) st))
    | none => False
  | .v (.one (.list sz xs)) => match T.el t with
    | some (e, sz') => gd (Nat.beq sz sz') (cLo E lo fun l => cHi E xs.length hi fun h => Ob (l ≤ h ∧ h ≤ xs.length) (K (.list sz ((xs.take h).drop l)) st))
    | none => False
  | .h s k off n => match T.el t, st[s]? with
    | some (e, sz'), some (.row k' e' sz xs) => gd (Nat.beq sz sz') (Ob (k = k') (cLo E lo fun l => cHi E n hi fun h => Ob (l ≤ h ∧ h ≤ n) (K (.h s k (off + l) (h - l)) st)))
    | _, _ => False
  | _ => False
theorem cSlice_out {t x lo hi E st K} (h : cSlice T t x lo hi E st K) : vcSlice T t x lo hi E st K := by
  unfold cSlice at h
  split at h
  · obtain ⟨h1, h2⟩ := gd_out h
    exact ⟨isStr_eq h1, cLo_out h2 fun l hl => cHi_out hl fun n hn => ⟨hn.1.1, hn.1.2, hn.2⟩⟩
  · unfold vcSlice
    simp only
    split at h
    · rename_i hl
      rw [hl]
      obtain ⟨h1, h2⟩ := gd_out h
      refine ⟨beq_out h1, ?_⟩
      split at h2
      · refine cLo_out h2 fun l hl => ?_
        show l ≤ _ ∧ _ ≤ _ ∧ _
        refine ⟨hl.1, Nat.le_refl _, ?_⟩
        rw [List.take_length]; exact hl.2
      · unfold vcLo
        simp only
        refine cHi_out h2 fun n hn => ⟨Nat.zero_le _, hn.1, ?_⟩
        rw [List.drop_zero]; exact hn.2
      · exact cLo_out h2 fun l hl => cHi_out hl fun n hn => ⟨hn.1.1, hn.1.2, hn.2⟩
    · exact h.elim
  · unfold vcSlice
    simp only
    split at h
    · rename_i hl
      rw [hl]
      obtain ⟨h1, h2⟩ := gd_out h
      exact ⟨beq_out h1, cLo_out h2 fun l hl => cHi_out hl fun n hn => ⟨hn.1.1, hn.1.2, hn.2⟩⟩
    · exact h.elim
  · unfold vcSlice
    simp only
    split at h
    · rename_i hl hst
      rw [hl, hst]
      obtain ⟨h1, h2⟩ := gd_out h
      exact ⟨beq_out h1, h2.1, cLo_out h2.2 fun l hl => cHi_out hl fun n hn => ⟨hn.1.1, hn.1.2, hn.2⟩⟩
    · exact h.elim
  · exact h.elim

/-- what is appended: rows, and how many -/
def cSrc (st : List AO) (sz : Nat) (a : AV) (K : List (List D) → Nat → Prop) : Prop :=
  match a with
  | .v (.one (.list sz' [c])) => gd (Nat.beq sz' sz) (K [c] 1)
  | .v (.one (.list sz' [c, d])) => gd (Nat.beq sz' sz) (K [c, d] 2)
  | .v (.one (.list sz' ys)) => gd (Nat.beq sz' sz) (K ys ys.length)
  | .v (.one (.tl α sz' enc z ys)) => gd (Nat.beq sz' sz) (K (ys.map enc) ys.length)
  | .v (.one .nils) => K [] 0
  | .h s k lo n => match st[s]? with
    | some (.row k' e sz' xs) => gd (Nat.beq sz' sz) (Ob (k = k' ∧ lo = 0 ∧ n = xs.length) (K xs n))
    | _ => False
  | _ => False
theorem cSrc_out {st sz a K} {K' : List (List D) → Prop} (h : cSrc st sz a K) (hk : ∀ ys n, n = ys.length → K ys n → K' ys) : srcRows st sz a K' := by
  unfold cSrc at h
  split at h
  · exact ⟨beq_out (gd_out h).1, hk _ _ rfl (gd_out h).2⟩
  · exact ⟨beq_out (gd_out h).1, hk _ _ rfl (gd_out h).2⟩
  · exact ⟨beq_out (gd_out h).1, hk _ _ rfl (gd_out h).2⟩
  · exact ⟨beq_out (gd_out h).1, hk _ _ (by simp) (gd_out h).2⟩
  · exact hk _ _ rfl h
  · unfold srcRows
    simp only
    split at h
    · rename_i hst
      rw [hst]
      obtain ⟨h1, ⟨rfl, rfl, rfl⟩, h3⟩ := gd_out h
      refine ⟨beq_out h1, rfl, ?_⟩
      rw [List.drop_zero, List.take_length]
      exact hk _ _ rfl h3
    · exact h.elim
  · exact h.elim

/-- a source's rows -/
def SrcIs (st : List AO) (sz : Nat) (y : AV) (rows : List (List D)) : Prop := cSrc st sz y fun ys _ => ys = rows
inductive AppK (st : List AO) (e sz by_ s k n : Nat) (rows : List (List D)) (y : AV) (K : KO) : Prop
  | whole (h : n = rows.length) (kk : cSrc st sz y fun ys m => Ob ((n + m) * by_ ≤ 140737488355328) (K (.h s (k + 1) 0 (n + m)) (st.set s (.row (k + 1) e sz (rows ++ ys))))) : AppK st e sz by_ s k n rows y K
  | part (kk : cSrc st sz y fun ys m => Ob ((n + m) * by_ ≤ 140737488355328) (K (.h s (k + 1) 0 (n + m)) (st.set s (.row (k + 1) e sz (rows.take n ++ ys))))) : AppK st e sz by_ s k n rows y K
  | ty {α : Type} (enc : α → List D) (xs ys : List α) (h1 : rows = xs.map enc) (h2 : n = xs.length) (h3 : SrcIs st sz y (ys.map enc)) (h4 : (xs ++ ys).length * by_ ≤ 140737488355328)
      (kk : K (.h s (k + 1) 0 (xs ++ ys).length) (st.set s (.row (k + 1) e sz ((xs ++ ys).map enc)))) : AppK st e sz by_ s k n rows y K
inductive AppN (st : List AO) (e sz by_ : Nat) (y : AV) (K : KO) : Prop
  | raw (k : cSrc st sz y fun ys m => Ob (m * by_ ≤ 140737488355328) (K (.h st.length 0 0 m) (st ++ [.row 0 e sz ys]))) : AppN st e sz by_ y K
  | ty {α : Type} (enc : α → List D) (ys : List α) (h3 : SrcIs st sz y (ys.map enc)) (h4 : ys.length * by_ ≤ 140737488355328) (k : K (.h st.length 0 0 ys.length) (st ++ [.row 0 e sz (ys.map enc)])) : AppN st e sz by_ y K
def cAppend (t : Nat) (x y : AV) (st : List AO) (K : KO) : Prop :=
  match T.ap t, x with
  | some (e, sz, by_), .v (.one .nils) => gd (Nat.ble 1 by_) (AppN st e sz by_ y K)
  | some (e, sz, by_), .h s k lo n => match st[s]? with
    | some (.row k' e' sz' xs) => gd (Nat.ble 1 by_ && Nat.beq e' e && Nat.beq sz' sz && Nat.beq lo 0) (Ob (k = k') (AppK st e sz by_ s k n xs y K))
    | _ => False
  | _, _ => vcAppend T t x y st K

theorem by_le {n b : Nat} (hb : Nat.ble 1 b = true) (h : n * b ≤ 140737488355328) : n ≤ maxLen := by
  have h1 : 1 ≤ b := Nat.le_of_ble_eq_true hb
  have h2 : n * 1 ≤ n * b := Nat.mul_le_mul_left n h1
  have : maxLen = 9223372036854775807 := rfl
  omega

theorem cSrc_len {st sz a K} {K' : List (List D) → Prop} (h : cSrc st sz a K) (hk : ∀ ys n, n = ys.length → K ys n → K' ys) : srcRows st sz a K' := cSrc_out h hk

theorem cAppend_out {t x y st K} (h : cAppend T t x y st K) : vcAppend T t x y st K := by
  unfold cAppend at h
  split at h
  · rename_i hl
    unfold vcAppend
    rw [hl]
    obtain ⟨h1, h2⟩ := gd_out h
    cases h2 with
    | raw h2 =>
      refine cSrc_out h2 fun ys n hn h3 => ?_
      subst hn
      exact ⟨h3.1, by_le h1 h3.1, h3.2⟩
    | ty enc zs h3 h4 k =>
      refine cSrc_out h3 fun ys n hn h5 => ?_
      subst h5
      rw [List.length_map]
      exact ⟨h4, by_le h1 h4, k⟩
  · rename_i hl
    unfold vcAppend
    rw [hl]
    simp only
    split at h
    · rename_i hst
      rw [hst]
      obtain ⟨h1, h2, h3⟩ := gd_out h
      simp only [Bool.and_eq_true] at h1
      refine ⟨⟨h2, beq_out h1.1.1.2, beq_out h1.1.2, beq_out h1.2⟩, ?_⟩
      cases h3 with
      | whole he h3 =>
        refine cSrc_out h3 fun ys n hn h3 => ?_
        subst hn he
        rw [List.take_length]
        exact ⟨h3.1, by_le h1.1.1.1 h3.1, h3.2⟩
      | part h3 =>
        refine cSrc_out h3 fun ys n hn h3 => ?_
        subst hn
        exact ⟨h3.1, by_le h1.1.1.1 h3.1, h3.2⟩
      | ty enc us vs e1 e2 h3 h4 k =>
        subst e1 e2
        refine cSrc_out h3 fun ys n hn h5 => ?_
        subst h5
        have ht : (us.map enc).take us.length = us.map enc := List.take_of_length_le (by simp)
        rw [ht, List.length_map, ← List.length_append, ← List.map_append]
        exact ⟨h4, by_le h1.1.1.1 h4, k⟩
    · exact h.elim
  · exact h

def cAppendS (t : Nat) (x : AV) (s : ByteArray) (st : List AO) (K : KO) : Prop :=
  match T.bb t, x with
  | some e, .v (.one .nils) => Ob (s.size ≤ 140737488351232) (K (.h st.length 0 0 (strRows s).length) (st ++ [.row 0 e 1 (strRows s)]))
  | some e, .h r k lo n => match st[r]? with
    | some (.row k' e' sz xs) => gd (Nat.beq e' e && Nat.beq sz 1 && Nat.beq lo 0) (Ob (k = k' ∧ n = xs.length) (Ob (n + s.size ≤ 140737488351232) (K (.h r (k + 1) 0 (n + (strRows s).length)) (st.set r (.row (k + 1) e 1 (xs ++ strRows s))))))
    | _ => False
  | _, _ => False
theorem cAppendS_out {t x s st K} (h : cAppendS T t x s st K) : vcAppendS T t x s st K := by
  unfold cAppendS at h
  unfold vcAppendS
  split at h
  · rename_i hl
    simp only [hl]
    exact h.out
  · rename_i hl
    simp only [hl]
    split at h
    · rename_i hst
      obtain ⟨h1, h2, h3⟩ := gd_out h
      obtain ⟨rfl, rfl⟩ := h2
      simp only [Bool.and_eq_true] at h1
      have e1 := beq_out h1.1.1
      have e2 := beq_out h1.1.2
      have e3 := beq_out h1.2
      subst e1 e2 e3
      simp only [hst, List.take_length]
      exact ⟨⟨trivial, trivial, trivial, trivial⟩, h3.1, h3.2⟩
    · exact h.elim
  · exact h.elim

def isSl : TK → Bool | .slice _ => true | _ => false
theorem isSl_eq {k : TK} (h : isSl k = true) : ∃ e, k = .slice e := by cases k <;> first | exact ⟨_, rfl⟩ | cases h
def cLen (t : Nat) (x : AV) (st : List AO) (K : KO) : Prop :=
  match T.kd t, x with
  | .slice _, .h s k _ n => match st[s]? with
    | some (.row k' _ _ _) => Ob (k = k') (K (.int n) st)
    | _ => False
  | _, _ => vcLen T t x st K
theorem cLen_out {t x st K} (h : cLen T t x st K) : vcLen T t x st K := by
  unfold cLen at h
  split at h
  · rename_i hk
    unfold vcLen
    rw [hk]
    simp only
    split at h
    · rename_i hst
      rw [hst]
      exact h.out
    · exact h.elim
  · exact h

/-- a call, data alone -/
inductive CallD (P : Program) (f : FuncId) (ds : List DV) (st : List AO) (K : KO) : Prop
  | mk (ds' res : List DV) (h : Impl P f ds' res) (hl : AsLe ds ds') (k : K (resAV res) st) : CallD P f ds st K
  | own (e : TypeId) (sz : Nat) (xs : List (List D)) (h : Gives P f ds e sz xs) (k : K (.h st.length 0 0 xs.length) (st ++ [.row 0 e sz xs])) : CallD P f ds st K
theorem CallD.of {P f ds res st K} (h : Impl P f ds res) (k : K (resAV res) st) : CallD P f ds st K := .mk ds res h (AsLe.refl _) k
/-- .. of a list of such things -/
theorem CallD.ownt {P f ds st K} {α : Type} (e : TypeId) (sz : Nat) (enc : α → List D) (xs : List α) (h : Gives P f ds e sz (xs.map enc)) (k : K (.h st.length 0 0 xs.length) (st ++ [.row 0 e sz (xs.map enc)])) : CallD P f ds st K :=
  .own e sz _ h (by rw [List.length_map]; exact k)
/-- a call, own things among the arguments -/
inductive CallE (P : Program) (f : FuncId) (args : List AV) (st : List AO) (K : KO) : Prop
  | eff (res : List DV) (st' : List AO) (h : Eff P f args st res st') (k : K (resAV res) st') : CallE P f args st K
  | give (h : sealK st args fun st' ds => ∃ ds' res, Impl P f ds' res ∧ AsLe ds ds' ∧ K (resAV res) st') : CallE P f args st K
  | lend (h : sealK st args fun _ ds => ∃ ds' res, Impl P f ds' res ∧ AsLe ds ds' ∧ res.all scDV = true ∧ K (resAV res) st) : CallE P f args st K

def cCall (f : AV) (args : List AV) (st : List AO) (K : KO) : Prop :=
  match f with
  | .v (.one (.sc (.func (.func f) ⟨[]⟩ ⟨[]⟩))) => match T.ei f with
    | true => (match args with
      | [a] => K a st
      | _ => False)
    | false => gd (T.cl f) (match argsDV args with
      | some ds => CallD P f ds st K
      | none => CallE P f args st K)
  | _ => False
theorem cCall_out {f args st K} (h : cCall P T f args st K) : vcCall P T f args st K := by
  unfold cCall at h
  split at h
  · rename_i f'
    unfold vcCall
    simp only
    cases hei : T.ei f' with
    | true =>
      simp only [hei] at h
      exact h
    | false =>
      simp only [hei] at h
      obtain ⟨h1, h2⟩ := gd_out h
      refine ⟨h1, ?_⟩
      cases hds : argsDV args with
      | some ds =>
        simp only [hds] at h2
        cases h2 with
        | mk a b c d e => exact .inl ⟨a, b, c, d, e⟩
        | own a b c d e => exact .inr ⟨a, b, c, d, e⟩
      | none =>
        simp only [hds] at h2
        cases h2 with
        | eff a b c d => exact .inl ⟨a, b, c, d⟩
        | give h => exact .inr (.inl h)
        | lend h => exact .inr (.inr h)
  · exact h.elim

/-- bytes as a text -/
def bytesS (ns : List Int) : ByteArray := ⟨(ns.map fun n => UInt8.ofNat n.toNat).toArray⟩
inductive BytesK (st : List AO) (a : AV) (K : ByteArray → Prop) : Prop
  | mk (ns : List Int) (h : SrcIs st 1 a (ns.map byteRow)) (k : K (bytesS ns)) : BytesK st a K
def cConv (s d : Nat) (x : AV) (st : List AO) (K : KO) : Prop :=
  match T.kd s, T.kd d, x with
  | .int k', .int k, .v (.one (.sc (.int k2 n))) => gd (ikb k2 k') (K (.sc (.int k (k.wrap n))) st)
  | .str, .slice e, .v (.one (.sc (.string s))) => gd (isU8 (T.kd e)) (K (.bs st.length s.size) (st ++ [.brow e (bytesI s)]))
  | .slice e, .str, .bs r n => gd (isU8 (T.kd e)) (match st[r]? with
    | some (.brow e' ns) => Ob (n = ns.length) (K (.str ⟨(ns.map fun n => UInt8.ofNat n.toNat).toArray⟩) st)
    | _ => False)
  | .slice e, .str, a => gd (isU8 (T.kd e)) (BytesK st a fun b => K (.str b) st)
  | _, _, _ => vcConv T s d x st K
theorem cConv_out {s d x st K} (h : cConv T s d x st K) : vcConv T s d x st K := by
  unfold cConv at h
  split at h
  · rename_i h1 h2
    unfold vcConv
    rw [h1, h2]
    exact ⟨ikb_eq (gd_out h).1, (gd_out h).2⟩
  · rename_i h1 h2
    unfold vcConv
    rw [h1, h2]
    exact ⟨isU8_eq (gd_out h).1, (gd_out h).2⟩
  · rename_i h1 h2
    unfold vcConv
    rw [h1, h2]
    simp only
    obtain ⟨h3, h4⟩ := gd_out h
    refine ⟨isU8_eq h3, ?_⟩
    split at h4
    · rename_i hst
      rw [hst]
      exact ⟨h4.1, h4.2⟩
    · exact h4.elim
  · rename_i h1 h2 hx
    unfold vcConv
    rw [h1, h2]
    obtain ⟨h3, h4⟩ := gd_out h
    split
    · exact absurd ‹TK.slice _ = TK.other› (by intro e; cases e)
    · exact absurd ‹TK.slice _ = TK.int _› (by intro e; cases e)
    · exact absurd ‹TK.slice _ = TK.str› (by intro e; cases e)
    · exact (hx _ _ rfl).elim
    · have e := ‹TK.slice _ = TK.slice _›; cases e; obtain ⟨ns, h5, h6⟩ := h4; exact ⟨isU8_eq h3, cSrc_out h5 fun ys n hn h7 => ⟨ns, h7, h6⟩⟩
    · exfalso; solve_by_elim
  · exact h



def forceL {α : Type _} : List α → (List α → Prop) → Prop
  | [], K => K []
  | a :: r, K => forceL r fun r' => K (a :: r')
theorem forceL_out {α : Type _} : ∀ {l : List α} {K : List α → Prop}, forceL l K → K l
  | [], _, h => h
  | a :: r, K, h => forceL_out (l := r) (K := fun r' => K (a :: r')) h

/-- how a fresh list is taken -/
inductive NewS (st : List AO) (e sz : Nat) (l : List (List D)) (K : KO) : Prop
  | list (k : K (.list sz l) st) : NewS st e sz l K
  | full (k : K (.d (.full sz l)) st) : NewS st e sz l K
  | own (k : K (.h st.length 0 0 l.length) (st ++ [.row 0 e sz l])) : NewS st e sz l K
  | ty {α : Type} (enc : α → List D) (z : α) (es : List α) (h : l = es.map enc) (k : K (.d (.tl α sz enc z es)) st) : NewS st e sz l K
  | ownt {α : Type} (enc : α → List D) (es : List α) (h : l = es.map enc) (k : K (.h st.length 0 0 es.length) (st ++ [.row 0 e sz (es.map enc)])) : NewS st e sz l K

def cBuild (t len : Nat) (parts : Array (Nat × Operand)) (E : Operand → AV) (st : List AO) (K : KO) : Prop :=
  match T.el t with
    | some (e, sz) => match T.zd e with
      | some zs => match fillD (fun i => some (i * sz, sz)) ((List.range (len * sz)).map fun i => zs.getD (i % sz) .nils) (parts.toList.map fun p => (p.1, E p.2)) with
        | some ds => gd (lenIs sz zs && Nat.ble 1 (len * sz) && Nat.ble (len * sz) 16777216 && lenIs (len * sz) ds && lenIs len (chunk sz ds len)) (forceL (chunk sz ds len) fun l => NewS st e sz l K)
        | none => False
      | none => False
    | none => False

theorem unty {P : Program} {op : Op} {E : Operand → AV} {st : List AO} {K : KO} {α : Type} {sz : Nat} {enc : α → List D} {z : α} {es : List α} (h : OpS P op E st (.list sz (es.map enc)) st) (k : K (.d (.tl α sz enc z es)) st) : ∃ v st', OpS P op E st v st' ∧ K v st' :=
  ⟨_, _, h.weaken (v' := .d (.tl α sz enc z es)) (fun σ gh u hu => Rep.tl hu) (fun hj => by cases hj), k⟩

theorem cBuild_sound (hT : TabOk P T) {t len parts} {E : Operand → AV} {st K} (h : cBuild T t len parts E st K) : ∃ v st', OpS P (.buildSlice t len parts) E st v st' ∧ K v st' := by
  unfold cBuild at h
  cases hl : T.el t with
  | none => simp only [hl] at h
  | some x =>
    obtain ⟨e, sz⟩ := x
    simp only [hl] at h
    cases hz : T.zd e with
    | none => simp only [hz] at h
    | some zs =>
      simp only [hz] at h
      split at h
      · rename_i ds hf
        obtain ⟨h1, h2⟩ := gd_out h
        simp only [Bool.and_eq_true] at h1
        have e1 := lenIs_eq h1.1.1.1.1
        have e2 := Nat.le_of_ble_eq_true h1.1.1.1.2
        have e3 := Nat.le_of_ble_eq_true h1.1.1.2
        have e4 := lenIs_eq h1.1.2
        have e5 := lenIs_eq h1.2
        have hop := op_buildSlice (E := E) (st := st) (P := P) t e sz len parts zs ds (hT.el _ _ hl) (hT.zd _ _ hz) e1 e2 e3 hf e4
        have hop2 := op_buildSliceH (E := E) (st := st) (P := P) t e sz len parts zs ds (hT.el _ _ hl) (hT.zd _ _ hz) e1 e2 e3 hf e4
        have h3 := forceL_out h2
        generalize hch : chunk sz ds len = l at *
        subst e5
        cases h3 with
        | list k => exact ⟨_, _, hop.weaken (v' := .list sz _) (fun σ gh u hu => full_list hu) (fun hj => by cases hj), k⟩
        | full k => exact ⟨_, _, hop, k⟩
        | own k => exact ⟨_, _, hop2, k⟩
        | ty enc z es he k =>
          subst he
          exact unty (hop.weaken (v' := .list sz _) (fun σ gh u hu => full_list hu) (fun hj => by cases hj)) k
        | ownt enc es he k =>
          subst he
          exact ⟨_, _, hop2, by rw [List.length_map]; exact k⟩
      · exact h.elim

def cOp (op : Op) (E : Operand → AV) (st : List AO) (K : KO) : Prop :=
  match op with
  | .pick c a b => match E c with
    | .v (.one (.sc (.bool b'))) => Br b' (force (E a) fun v => K v st) (force (E b) fun v => K v st)
    | _ => False
  | .binOp op t x y _ => cBin T op t (E x) (E y) st K
  | .convert s d x => cConv T s d (E x) st K
  | .buildSlice t 0 ⟨[]⟩ => vcOp P T (.buildSlice t 0 ⟨[]⟩) E st K
  | .buildSlice t len parts => cBuild T t len parts E st K
  | .load t a => cLoad T t (E a) st K
  | .store t a x => cStoreG T t (E a) (E x) st K
  | .fieldAddr s x f => match T.fo s f, E x with
    | some k, .ep i v j off => match st[i]? with
      | some (.row v' _ _ _) => Ob (v = v') (K (.ep i v j (off + k)) st)
      | _ => False
    | _, _ => vcOp P T (.fieldAddr s x f) E st K
  | .indexAddr t x i => cIndexAddr T t (E x) (E i) st K
  | .index t x i => match E x, E i with
    | .v (.one (.sc (.string s))), .v (.one (.sc (.int _ n))) => gd (isStr (T.kd t)) (Ob (0 ≤ n ∧ n < s.size) (K (.byte (byteAt s n.toNat)) st))
    | _, _ => False
  | .slice t x lo hi none => cSlice T t (E x) lo hi E st K
  | .call { callee := .value x, args := args, .. } => cCall P T (E x) (args.toList.map E) st K
  | .call { callee := .builtin .len, args := ⟨[x]⟩, argTypes := ⟨[t]⟩ } => cLen T t (E x) st K
  | .call { callee := .builtin .append, args := ⟨[x, y]⟩, argTypes := ⟨[t, t']⟩ } => match E y with
    | .v (.one (.sc (.string s))) => gd (isStr (T.kd t')) (cAppendS T t (E x) s st K)
    | y => gd (Nat.beq t' t) (cAppend T t (E x) y st K)
  | .nilCheck x => match E x with
    | .ep s v i off => match st[s]? with
      | some (.row v' _ _ _) => Ob (v = v') (K (.ep s v i off) st)
      | _ => False
    | _ => vcOp P T (.nilCheck x) E st K
  | .unOp .neg _ x => match E x with
    | .v (.one (.sc (.int k b))) => cArith k (0 - b) st K
    | _ => False
  | op => vcOp P T op E st K

theorem cOp_sound (hT : TabOk P T) {op : Op} {E : Operand → AV} {st : List AO} {K : KO} (h : cOp P T op E st K) : ∃ v st', OpS P op E st v st' ∧ K v st' := by
  unfold cOp at h
  split at h
  case h_5 => exact cBuild_sound P T hT h
  all_goals refine vcOp_sound hT ?_
  · unfold vcOp
    simp only
    split at h
    · rename_i hb
      rw [hb]
      exact ⟨h.1, h.2⟩
    · exact h.elim
  · exact cBin_out T h
  · exact cConv_out T h
  · exact h
  · exact cLoad_out T h
  · exact cStoreG_out T h
  · split at h
    · rename_i hf hx
      unfold vcOp
      simp only
      rw [hf, hx]
      simp only
      split at h
      · rename_i hst
        rw [hst]
        exact h.out
      · exact h.elim
    · exact h
  · exact cIndexAddr_out T h
  · unfold vcOp
    simp only
    split at h
    · rename_i hx hi
      rw [hx, hi]
      obtain ⟨h1, h2⟩ := gd_out h
      exact ⟨isStr_eq h1, h2.1.1, h2.1.2, h2.2⟩
    · exact h.elim
  · exact cSlice_out T h
  · exact cCall_out P T h
  · exact cLen_out T h
  · unfold vcOp
    simp only
    split at h
    · rename_i hy
      rw [hy]
      exact ⟨isStr_eq (gd_out h).1, cAppendS_out T (gd_out h).2⟩
    · rename_i hn
      obtain ⟨h1, h2⟩ := gd_out h
      split
      · rename_i hy; exact (hn _ hy).elim
      · exact ⟨beq_out h1, cAppend_out T h2⟩
  · split at h
    · rename_i hx
      unfold vcOp
      simp only
      rw [hx]
      simp only
      split at h
      · rename_i hst
        rw [hst]
        exact h.out
      · exact h.elim
    · exact h
  · unfold vcOp
    simp only
    split at h
    · rename_i hx; rw [hx]; exact cArith_out h
    · exact h.elim
  · exact h

def cOp2 (op : Op) (E : Operand → AV) (st : List AO) (K : KO) : Prop :=
  match op with
  | .binOp .eql t x (.const (.slice none 0 0)) ty => vcOp2 P T (.binOp .eql t x (.const (.slice none 0 0)) ty) E st K
  | op => cOp P T op E st K
theorem cOp2_sound (hT : TabOk P T) {op : Op} {env : Env} {st : List AO} {K : KO} (h : cOp2 P T op (evalE env) st K) : OpN P op (evalE env) st K := by
  unfold cOp2 at h
  split at h
  · exact vcOp2_sound hT h
  · obtain ⟨v, st', h1, h2⟩ := cOp_sound P T hT h
    exact h1.n h2

def gBr (want b : Bool) (K L : Prop) : Prop := match want with | true => Br b K L | false => Br b L K
theorem gBr_out {want b : Bool} {K L : Prop} (h : gBr want b K L) : (b = want → K) ∧ (b ≠ want → L) := by
  cases want with
  | true => exact ⟨h.1, fun e => h.2 (by cases b <;> simp_all)⟩
  | false => exact ⟨h.2, fun e => h.1 (by cases b <;> simp_all)⟩

def cL (ops : List Oper) : List Oper → Env → List AO → (Env → List AO → Prop) → Prop
  | [], env, st, K => K env st
  | o :: rest, env, st, K => match o.guard with
    | none => cOp2 P T o.op (evalE env) st fun v st' => cL ops rest (updO env o.dst v) st' K
    | some (j, want) => match ops[j]? with
      | some oj => match oj.dst with
        | some d => match env d with
          | .v (.one (.sc (.bool b))) => gd (Nat.blt d N.n) (gBr want b (cOp P T o.op (evalE (upd env d (.bool want))) st fun v st' => cL ops rest (updO (upd env d (.bool want)) o.dst v) st' K) (cL ops rest (updO (upd env d (.bool (!want))) o.dst (.tup [])) st K))
          | .tup [] => gd (Nat.blt d N.n) (cL ops rest (updO env o.dst (.tup [])) st K)
          | _ => False
        | none => False
      | none => False

theorem upd_eq {env : Env} {d : Nat} {v : AV} (h : env d = v) : upd env d v = env := by
  funext t
  unfold upd
  split
  · rename_i e; rw [e, h]
  · rfl
theorem vcOp_mono {op : Op} {E : Operand → AV} {st : List AO} {K K' : KO} (hT : TabOk P T) (h : vcOp P T op E st K) (hk : ∀ v s, K v s → K' v s) : ∃ v st', OpS P op E st v st' ∧ K' v st' := by
  obtain ⟨v, s, h1, h2⟩ := vcOp_sound hT h
  exact ⟨v, s, h1, hk _ _ h2⟩

theorem cL_sound (hT : TabOk P T) {ops : List Oper} : ∀ {l : List Oper} {env : Env} {st : List AO} {K : Env → List AO → Prop}, dstOk N l → cL P T N ops l env st K → WPL P N ops.toArray l env st K
  | [], env, st, K, _, h => WPL_nil h
  | o :: rest, env, st, K, hd, h => by
    have hd0 : ∀ d, o.dst = some d → d < N.n := hd o (by simp)
    have hdr : dstOk N rest := fun o' ho' => hd o' (by simp [ho'])
    obtain ⟨dst, op, ty, pos, after, guard⟩ := o
    unfold cL at h
    split at h
    · rename_i hg
      simp only at hg
      subst hg
      exact WPL_opN hd0 ((cOp2_sound P T hT h).mono fun v st' h2 => cL_sound hT hdr h2)
    · rename_i j want hg
      simp only at hg
      subst hg
      split at h
      · rename_i oj hj
        split at h
        · rename_i d hdj
          split at h
          · rename_i b hb
            obtain ⟨hdN, h12⟩ := gd_out h
            obtain ⟨h1, h2⟩ := gBr_out h12
            have hdN : d < N.n := Nat.le_of_ble_eq_true hdN
            refine WPL_guard (b := b) (by simpa using hj) hdj hdN hb (fun e => ?_) (fun e => ⟨hd0, ?_⟩)
            · have h1 := h1 e
              rw [upd_eq (show env d = .bool want by rw [hb, e])] at h1
              obtain ⟨v, st', h3, h4⟩ := cOp_sound P T hT h1
              exact ⟨v, st', h3, hd0, cL_sound hT hdr h4⟩
            · have h2 := h2 e
              rw [upd_eq (show env d = .bool (!want) by rw [hb]; cases b <;> cases want <;> simp_all)] at h2
              exact cL_sound hT hdr h2
          · rename_i hb
            obtain ⟨hdN, h2⟩ := gd_out h
            have hdN : d < N.n := Nat.le_of_ble_eq_true hdN
            exact WPL_guard0 (by simpa using hj) hdj hdN hb hd0 (cL_sound hT hdr h2)
          · exact h.elim
        · exact h.elim
      · exact h.elim

def cQ (ops : List Oper) (st : List AO) : List Oper → Env → (Env → Prop) → Prop
  | [], env, K => K env
  | o :: rest, env, K => match o.guard with
    | none => cOp P T o.op (evalE env) st fun v st' => Ob (st' = st) (cQ ops st rest (updO env o.dst v) K)
    | some (j, want) => match ops[j]? with
      | some oj => match oj.dst with
        | some d => match env d with
          | .v (.one (.sc (.bool b))) => gd (Nat.blt d N.n) (gBr want b (cOp P T o.op (evalE (upd env d (.bool want))) st fun v st' => Ob (st' = st) (cQ ops st rest (updO (upd env d (.bool want)) o.dst v) K)) (cQ ops st rest (updO (upd env d (.bool (!want))) o.dst (.tup [])) K))
          | .tup [] => gd (Nat.blt d N.n) (cQ ops st rest (updO env o.dst (.tup [])) K)
          | _ => False
        | none => False
      | none => False

theorem cQ_sound (hT : TabOk P T) {ops : List Oper} {st : List AO} : ∀ {l : List Oper} {env : Env} {K : Env → Prop}, dstOk N l → cQ P T N ops st l env K → WQ P N ops.toArray st K l env
  | [], env, K, _, h => WQ_nil h
  | o :: rest, env, K, hd, h => by
    have hd0 : ∀ d, o.dst = some d → d < N.n := hd o (by simp)
    have hdr : dstOk N rest := fun o' ho' => hd o' (by simp [ho'])
    obtain ⟨dst, op, ty, pos, after, guard⟩ := o
    unfold cQ at h
    split at h
    · rename_i hg
      simp only at hg
      subst hg
      obtain ⟨v, st', h1, h2, h3⟩ := cOp_sound P T hT h
      subst h2
      exact WQ_op h1 hd0 (cQ_sound hT hdr h3)
    · rename_i j want hg
      simp only at hg
      subst hg
      split at h
      · rename_i oj hj
        split at h
        · rename_i d hdj
          split at h
          · rename_i b hb
            obtain ⟨hdN, h12⟩ := gd_out h
            obtain ⟨h1, h2⟩ := gBr_out h12
            have hdN : d < N.n := Nat.le_of_ble_eq_true hdN
            refine WQ_guard (b := b) (by simpa using hj) hdj hdN hb hd0 (fun e => ?_) (fun e => ?_)
            · have h1 := h1 e
              rw [upd_eq (show env d = .bool want by rw [hb, e])] at h1
              obtain ⟨v, st', h3, h4, h5⟩ := cOp_sound P T hT h1
              subst h4
              exact ⟨v, h3, cQ_sound hT hdr h5⟩
            · have h2 := h2 e
              rw [upd_eq (show env d = .bool (!want) by rw [hb]; cases b <;> cases want <;> simp_all)] at h2
              exact cQ_sound hT hdr h2
          · rename_i hb
            obtain ⟨hdN, h2⟩ := gd_out h
            exact WQ_guard0 (by simpa using hj) hdj (Nat.le_of_ble_eq_true hdN) hb hd0 (cQ_sound hT hdr h2)
          · exact h.elim
        · exact h.elim
      · exact h.elim

def setB (env : Env) (c : Operand) (b : Bool) : Env := match c with | .tmp d => upd env d (.bool b) | _ => env
theorem setB_eq {env : Env} {c : Operand} {b : Bool} (h : evalE env c = .bool b) : setB env c b = env := by
  unfold setB
  split
  · exact upd_eq h
  · rfl

def vcc : Code → Env → List AO → Post → Prop
  | .skip, env, st, Q => Q .normal env st
  | .label _, env, st, Q => Q .normal env st
  | .exit l, env, st, Q => Q (.exit l) env st
  | .goto l, env, st, Q => Q (.goto l) env st
  | .ret, env, st, Q => Q .ret env st
  | .seq (.label l) y, env, st, Q => WP P N (.seq (.label l) y) env st Q
  | .seq x y, env, st, Q => vcc x env st (Then (fun env st => WP P N y env st Q) Q)
  | .cond c x y, env, st, Q => match evalE env c with
    | .v (.one (.sc (.bool b))) => Br b (WP P N x (setB env c true) st Q) (WP P N y (setB env c false) st Q)
    | _ => False
  | .block id c, env, st, Q => WP P N c env st (InBlock id Q)
  | .region _ ops false, env, st, Q => cL P T N ops.toList ops.toList env st (Q .normal)
  | .region id ops true, env, st, Q => match Region.lexB .any ops with
    | true => cQ P T N ops.toList st ops.toList env fun env => Q .normal env st
    | false => WP P N (.region id ops true) env st Q
  | c, env, st, Q => WP P N c env st Q

/-- every slot that is written is there -/
def slotsOk (N : Fm) : Code → Bool
  | .region _ ops _ => ops.toList.all (fun o => match o.dst with | some d => Nat.blt d N.n | none => true)
  | .seq (.label _) _ => false
  | .seq a _ => slotsOk N a
  | .block _ (.loop _) => false
  | .cond _ _ _ | .block _ _ | .skip | .label _ | .exit _ | .goto _ | .ret => true
  | _ => false

theorem vcc_sound (hT : TabOk P T) : ∀ {c : Code} {env : Env} {st : List AO} {Q : Post}, slotsOk N c = true → vcc P T N c env st Q → WP P N c env st Q := by
  intro c
  induction c with
  | skip => intro env st Q _ h; exact WP_skip h
  | label l => intro env st Q _ h; exact WP_label h
  | exit l => intro env st Q _ h; exact WP_exit h
  | goto l => intro env st Q _ h; exact WP_goto h
  | ret => intro env st Q _ h; exact WP_ret h
  | seq x y ihx ihy =>
    intro env st Q hok h
    cases x with
    | label l => exact h
    | _ => first | exact WP_seq (ihx hok h) | (simp only [slotsOk] at hok; exact WP_seq (ihx hok h))
  | cond c x y ihx ihy =>
    intro env st Q hok h
    unfold vcc at h
    split at h
    · rename_i b hb
      refine WP_cond hb (fun e => ?_) (fun e => ?_)
      · have h1 := h.1 e; rwa [setB_eq (by rw [hb, e])] at h1
      · have h1 := h.2 e; rwa [setB_eq (by rw [hb, e])] at h1
    · exact h.elim
  | block id c ih => intro env st Q hok h; exact WP_block h
  | region id ops draw =>
    intro env st Q hok h
    simp only [slotsOk, List.all_eq_true] at hok
    have hd : dstOk N ops.toList := fun o ho d hdo => by
      have := hok o ho
      rw [hdo] at this
      exact Nat.le_of_ble_eq_true this
    obtain ⟨l⟩ := ops
    cases draw with
    | false => exact WP_region (cL_sound P T N hT hd h)
    | true =>
      unfold vcc at h
      split at h
      · rename_i hl; exact WP_draw hT.mixed hl (cQ_sound P T N hT hd h)
      · exact h
  | _ => intro env st Q _ h; exact h

/-- what is handed back; rows of one's own are given out -/
def retC : List ResultVar → Env → List AO → (List DV → Prop) → Prop
  | [], env, st, K => K []
  | .tmp t :: r, env, st, K => match env t with
    | .v d => retC r env st fun ds => K (d :: ds)
    | .h s k lo n => match st[s]? with
      | some (.row k' e sz xs) => Ob (k = k' ∧ lo = 0 ∧ n = xs.length) (retC r (upd env t (.list sz xs)) (st.set s .gone) fun ds => K (.one (.list sz xs) :: ds))
      | _ => False
    | _ => False
  | .cell a t :: r, env, st, K => match env a, T.ld t with
    | .ptr s off, some (n, true) => match st[s]? with
      | some (.box bT cells) => match toDs ((cells.drop off).take n) with
        | some cs => gd (lenIs n cs) (retC r env st fun ds => K (.agg cs :: ds))
        | none => False
      | _ => False
    | .ptr s off, some (_, false) => match st[s]? with
      | some (.box bT cells) => match cells[off]? with
        | some (.v (.one d)) => retC r env st fun ds => K (.one d :: ds)
        | _ => False
      | _ => False
    | _, _ => False
theorem retC_out : ∀ {rs : List ResultVar} {env : Env} {st : List AO} {K : List DV → Prop}, retC T rs env st K → retK T rs env st K
  | [], env, st, K, h => h
  | .tmp t :: r, env, st, K, h => by
    unfold retC at h
    unfold retK
    split at h
    · rename_i he
      simp only [he]
      exact retC_out h
    · rename_i he
      simp only [he]
      split at h
      · rename_i hst
        simp only [hst]
        exact ⟨h.1, retC_out h.2⟩
      · exact h.elim
    · exact h.elim
  | .cell a t :: r, env, st, K, h => by
    unfold retC at h
    unfold retK
    split at h
    · rename_i s off n ha hl
      simp only [ha, hl]
      split at h
      · rename_i hst
        simp only [hst]
        split at h
        · rename_i hcs
          simp only [hcs]
          exact ⟨lenIs_eq (gd_out h).1, retC_out (gd_out h).2⟩
        · exact h.elim
      · exact h.elim
    · rename_i s off n ha hl
      simp only [ha, hl]
      split at h
      · rename_i hst
        simp only [hst]
        split at h
        · rename_i hcs
          simp only [hcs]
          exact retC_out h
        · exact h.elim
      · exact h.elim
    · exact h.elim

def RetC (rs : List ResultVar) (res : List DV) : Post
  | .normal, env, st => retC T rs env st fun ds => AsLe ds res
  | .ret, env, st => retC T rs env st fun ds => AsLe ds res
  | _, _, _ => False

theorem impl_wp {P : Program} {T : Tab} (hT : TabOk P T) {f : FuncId} {fn : Func} {n : Nat} {c : Code} {args res : List DV} (hf : P.funcs[f]? = some fn) (hN : fn.ntmps = n) (hb : fn.body = some c) (hn : Nat.ble args.length n = true)
    (h : WP P ⟨n, 0⟩ c (argsE (args.map AV.v)) [] (RetC T fn.results.toList res)) : Impl P f args res :=
  impl_vc hT hf hN hb (Nat.le_of_ble_eq_true hn) (WP_mono h fun e env st q => by
    cases e with
    | normal => exact retC_out T q
    | ret => exact retC_out T q
    | _ => exact q)

/-- a function that is one scope -/
theorem impl_ws {P : Program} {T : Tab} (hT : TabOk P T) {f : FuncId} {fn : Func} {n : Nat} {c : Code} {args res : List DV} (hf : P.funcs[f]? = some fn) (hN : fn.ntmps = n) (hb : fn.body = some (.scope c)) (hn : Nat.ble args.length n = true)
    (h : WP P ⟨n, 0⟩ (.scope c) (argsE (args.map AV.v)) [] (RetC T fn.results.toList res)) : Impl P f args res := impl_wp hT hf hN hb hn h

/-- a function without a loop -/
theorem impl_c {P : Program} {T : Tab} (hT : TabOk P T) {f : FuncId} {fn : Func} {n : Nat} {c : Code} {args res : List DV} (hf : P.funcs[f]? = some fn) (hN : fn.ntmps = n) (hb : fn.body = some c) (hn : Nat.ble args.length n = true) (hs : slotsOk ⟨n, 0⟩ c = true)
    (h : vcc P T ⟨n, 0⟩ c (argsE (args.map AV.v)) [] (RetC T fn.results.toList res)) : Impl P f args res :=
  impl_wp hT hf hN hb hn (vcc_sound P T _ hT hs h)

end
end Go.Proofs.Nw.K
end
section
/- V2: functions that may have no answer; cuts. -/
open Go Go.RowKit
set_option linter.unusedVariables false
set_option linter.unusedSimpArgs false
namespace Go.Proofs.Nw.K
universe u

/-- on, if that is so -/
def chk {α : Type u} (c : Prop) [Decidable c] (k : Option α) : Option α := if c then k else none
theorem chk_some {α : Type u} {c : Prop} [Decidable c] {k : Option α} {r : α} (h : chk c k = some r) : c ∧ k = some r := by
  unfold chk at h
  split at h
  · exact ⟨‹c›, h⟩
  · cases h
theorem chk_ok {α : Type u} {c : Prop} [Decidable c] {k : Option α} (h : c) : chk c k = k := if_pos h
theorem bind_some {α β : Type u} {x : Option α} {f : α → Option β} {r : β} (h : x.bind f = some r) : ∃ v, x = some v ∧ f v = some r := Option.bind_eq_some_iff.1 h
theorem bif_t {α : Type u} {b : Bool} {x y r : α} (hb : b = true) (h : (bif b then x else y) = r) : x = r := by subst hb; exact h
theorem bif_f {α : Type u} {b : Bool} {x y r : α} (hb : b = false) (h : (bif b then x else y) = r) : y = r := by subst hb; exact h
abbrev in64 (x : Int) : Prop := -9223372036854775808 ≤ x ∧ x ≤ 9223372036854775807
/-- room for a row -/
abbrev room (n sz : Nat) : Prop := n * sz ≤ 140737488355328
/-- a text that is not too long -/
abbrev textOk (n : Nat) : Prop := n ≤ 9223372036854775807
abbrev seqS (a b : ByteArray) : Bool := a.toList == b.toList

/-- before what comes behind -/
theorem WP_cutQ {P : Program} {N : Fm} {x : Code} {env : Env} {st : List AO} {Q : Post} {α : Type} (E : α → Env) (S : α → List AO) (h : WP P N x env st (Then (fun env st => ∃ a, Sub N env st (E a) (S a)) Q))
    (k : ∀ a env st, Sub N env st (E a) (S a) → Q .normal env st) : WP P N x env st Q :=
  WP_mono h fun e env st q => by
    cases e with
    | normal => obtain ⟨a, hs⟩ := q; exact k a env st hs
    | _ => exact q

theorem Sub.le {N : Fm} {env : Env} {st : List AO} (t : Nat) {d d' : DV} (h : env t = .v d) (hle : DLe d d') : Sub N env st (upd env t (.v d')) st :=
  Sub.slot t _ fun w0 σ0 σ gh w u hb hu => by
    rw [h] at hu
    exact ⟨σ, gh, .refl hb, hle σ u hu⟩
/-- a row of one's own is given out, as a list -/
theorem Sub.shutT {N : Fm} {env : Env} {st : List AO} (t : Nat) {s k n e sz : Nat} {α : Type} (enc : α → List D) (z : α) (xs : List α) (h : env t = .h s k 0 n) (hst : st[s]? = some (.row k e sz (xs.map enc))) (hn : n = xs.length) :
    Sub N env st (upd env t (.d (.tl α sz enc z xs))) (st.set s .gone) := by
  have h1 := Sub.shut (N := N) t s k n e sz (xs.map enc) h hst (by rw [hn, List.length_map])
  have h2 := Sub.le (N := N) (env := upd env t (.list sz (xs.map enc))) (st := st.set s .gone) t (d := .one (.list sz (xs.map enc))) (d' := .one (.tl α sz enc z xs)) (upd_same _ _ _) (DLe.tl z rfl)
  have h3 := h1.trans h2
  have : upd (upd env t (.list sz (xs.map enc))) t (.v (.one (.tl α sz enc z xs))) = upd env t (.d (.tl α sz enc z xs)) := by
    funext i
    unfold upd
    split <;> rfl
  rwa [this] at h3
end Go.Proofs.Nw.K
end
