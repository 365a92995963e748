/- K21: regions whose order is open and that end with operations that come after all others: these may turn own things. -/
import Derived.Test.YtjfpnnmagnljnaaNwK16
open Go Go.RowKit
set_option linter.unusedVariables false
set_option linter.unusedSimpArgs false
namespace Go.Proofs.Nw.K

/-- what stands, step by step, ahead of these -/
def downS (md : Region.Mode) (ops : List Oper) : Nat → List Nat → List Nat
  | 0, S => S
  | k + 1, S => downS md ops k (match S.contains k with
    | true => (match ops[k]? with
      | some o => ((o.after.toList.filter (Region.binds md)).map (·.on)) ++ S
      | none => S)
    | false => S)

/-- all earlier ones stand ahead of this one -/
def soloAt (md : Region.Mode) (ops : List Oper) (j : Nat) : Bool :=
  match ops[j]? with
  | some o => let S := downS md ops j ((o.after.toList.filter (Region.binds md)).map (·.on)); (List.range j).all S.contains
  | none => true

def backAt (md : Region.Mode) (ops : List Oper) (j : Nat) : Bool :=
  match ops[j]? with
  | some o => (o.after.toList.filter (Region.binds md)).all fun e => decide (e.on < j)
  | none => true

def splitB (N : Fm) (m : Nat) (ops : Array Oper) : Bool :=
  ops.all (fun o => match o.dst with | some d => decide (d < N.n) | none => true) && Region.lexB .any (ops.toList.take m).toArray &&
    decide (m ≤ ops.size) && (List.range ops.size).all (backAt .any ops.toList) && ((List.range ops.size).drop m).all (soloAt .any ops.toList)

section
variable {P : Program} {N : Fm} {md : Region.Mode}

def Closed (md : Region.Mode) (l : List Oper) (listed : Array Bool) : Prop :=
  ∀ (i : Nat) (o : Oper), l[i]? = some o → listed.getD i false = true → ∀ e ∈ o.after, Region.binds md e = true → listed.getD e.on false = true

theorem downS_sound {l : List Oper} {listed : Array Bool} (hc : Closed md l listed) : ∀ (k : Nat) (S : List Nat), (∀ x ∈ S, listed.getD x false = true) → ∀ x ∈ downS md l k S, listed.getD x false = true
  | 0, S, h, x, hx => h x hx
  | k + 1, S, h, x, hx => by
    refine downS_sound hc k _ ?_ x hx
    intro y hy
    split at hy
    · rename_i hk
      split at hy
      · rename_i o ho
        rcases List.mem_append.1 hy with h1 | h1
        · obtain ⟨e, he, rfl⟩ := List.mem_map.1 h1
          obtain ⟨he1, he2⟩ := List.mem_filter.1 he
          exact hc k o ho (h k (by simpa using hk)) e (by simpa using he1) he2
        · exact h y h1
      · exact h y hy
    · exact h y hy

theorem solo_all {l : List Oper} {listed : Array Bool} (hc : Closed md l listed) {j : Nat} {o : Oper} (ho : l[j]? = some o) (hs : soloAt md l j = true)
    (ha : ∀ e ∈ o.after, Region.binds md e = true → listed.getD e.on false = true) : ∀ i, i < j → listed.getD i false = true := by
  intro i hi
  unfold soloAt at hs
  simp only [ho] at hs
  have := List.all_eq_true.1 hs i (List.mem_range.2 hi)
  refine downS_sound hc j _ ?_ i (by simpa using this)
  intro x hx
  obtain ⟨e, he, rfl⟩ := List.mem_map.1 hx
  obtain ⟨he1, he2⟩ := List.mem_filter.1 he
  exact ha e (by simpa using he1) he2

theorem closed_set {l : List Oper} {listed : Array Bool} (hc : Closed md l listed) {i : Nat} (hi : i ∈ Region.ready md l.toArray listed) : Closed md l (listed.setIfInBounds i true) := by
  obtain ⟨h0, o, ho, hall⟩ := mem_ready.1 hi
  intro j oj hoj hj e he hb
  refine getD_set_true ?_
  by_cases hij : i = j
  · subst hij
    have : o = oj := by
      have h1 : l[i]? = some o := by simpa using ho
      rw [h1] at hoj; exact Option.some.inj hoj
    subst this
    exact hall e he hb
  · refine hc j oj hoj ?_ e he hb
    simpa [Array.getElem?_setIfInBounds_ne hij] using hj

theorem WQ_mono {ops : Array Oper} {st : List AO} {K K' : Env → Prop} (hk : ∀ e, K e → K' e) : ∀ {l : List Oper} {env : Env}, WQ P N ops st K l env → WQ P N ops st K' l env
  | [], _, h => hk _ h
  | _ :: _, _, ⟨v, hy, h⟩ => ⟨v, hy, WQ_mono hk h⟩

/-- operations one by one, the last ones -/
def GQ (P : Program) (N : Fm) (ops : Array Oper) : List Oper → Env → List AO → (Env → List AO → Prop) → Prop
  | [], env, st, K => K env st
  | o :: rest, env, st, K => (∀ d, o.dst = some d → d < N.n) ∧ ((guardE (N := N) ops o env true ∧ OpN P o.op (evalE env) st fun v st' => GQ P N ops rest (updO env o.dst v) st' K) ∨
      (guardE (N := N) ops o env false ∧ GQ P N ops rest (updO env o.dst .junk) st K))

theorem list_getD_unlisted {listed : Array Bool} {i : Nat} (h : listed.getD i true = false) : listed.getD i false = false := by
  simp only [Array.getD_eq_getD_getElem?] at *
  cases hx : listed[i]? with
  | none => rfl
  | some b => simpa [hx] using h

theorem runB {l : List Oper} {w0 : World} {σ0 : Sig} {I : Ini} {Q' : Exit → Act → World → Prop} {K : Env → List AO → Prop}
    (hQ : ∀ env st a w, Rel N w0 σ0 I env st a w → K env st → Q' .normal a w)
    (hback : ∀ j, j < l.length → backAt md l j = true) :
    ∀ (r : List Oper) (k f : Nat) (listed : Array Bool) (env : Env) (st : List AO) (a : Act) (w : World), (∀ j, r[j]? = l[k + j]?) → (∀ j, k ≤ j → j < l.length → soloAt md l j = true) → r.length ≤ f → listed.size = l.length → Closed md l listed →
      (∀ i, i < k → listed.getD i false = true) → (∀ i, k ≤ i → i < l.length → listed.getD i true = false) → k ≤ l.length →
      Rel N w0 σ0 I env st a w → GQ P N l.toArray r env st K → wpAny P md l.toArray Q' f listed a w
  | [], k, f, listed, env, st, a, w, hr, hs, hf, hsz, hc, hl, hu, hkl, hrel, h => by
    have hkn : l.length ≤ k := by
      have := (hr 0).symm
      simp only [List.getElem?_nil, Nat.add_zero, List.getElem?_eq_none_iff] at this
      exact this
    have h0 : Region.ready md l.toArray listed = [] := by
      refine List.eq_nil_iff_forall_not_mem.2 fun i hi => ?_
      obtain ⟨h1, o, ho, _⟩ := mem_ready.1 hi
      have hil : i < l.length := by
        have : l[i]? = some o := by simpa using ho
        exact (List.getElem?_eq_some_iff.1 this).1
      have := hl i (by omega)
      rw [list_getD_unlisted h1] at this
      cases this
    cases f with
    | zero => exact ⟨h0, hQ _ _ _ _ hrel h⟩
    | succ f => exact ⟨fun _ => hQ _ _ _ _ hrel h, fun i hi => by rw [h0] at hi; cases hi⟩
  | o :: r, k, f, listed, env, st, a, w, hr, hs, hf, hsz, hc, hl, hu, hkl, hrel, h => by
    have hok : l[k]? = some o := by simpa using (hr 0).symm
    have hklt : k < l.length := (List.getElem?_eq_some_iff.1 hok).1
    cases f with
    | zero => simp at hf
    | succ f =>
      have hkr : k ∈ Region.ready md l.toArray listed := mem_ready.2 ⟨hu k (Nat.le_refl _) hklt, o, by simpa using hok, fun e he hb => hl e.on (by
        have := hback k hklt
        unfold backAt at this
        simp only [hok, List.all_eq_true, List.mem_filter, decide_eq_true_eq] at this
        exact this e ⟨by simpa using he, hb⟩)⟩
      refine ⟨fun h0 => (by rw [h0] at hkr; cases hkr), fun i hi => ?_⟩
      obtain ⟨hi0, oi, hoi, hai⟩ := mem_ready.1 hi
      have hoi' : l[i]? = some oi := by simpa using hoi
      have hilt : i < l.length := (List.getElem?_eq_some_iff.1 hoi').1
      have hik : i = k := by
        by_cases hlt : i < k
        · have := hl i hlt
          rw [list_getD_unlisted hi0] at this
          cases this
        · by_cases hgt : k < i
          · have := solo_all hc hoi' (hs i (by omega) hilt) hai k hgt
            rw [list_getD_unlisted (hu k (Nat.le_refl _) hklt)] at this
            cases this
          · omega
      subst hik
      have next : ∀ (env' : Env) (st' : List AO) (a' : Act) (w' : World), Rel N w0 σ0 I env' st' a' w' → GQ P N l.toArray r env' st' K → wpAny P md l.toArray Q' f (listed.setIfInBounds i true) a' w' := fun env' st' a' w' hrel' h' => by
        refine runB hQ hback r (i + 1) f _ env' st' a' w' (fun j => by have := hr (j + 1); simpa [Nat.add_assoc, Nat.add_comm 1 j] using this) (fun j h1 h2 => hs j (by omega) h2) (by simp at hf; omega) (by simpa using hsz) (closed_set hc hi) ?_ ?_ hklt hrel' h'
        · intro j hj
          by_cases hji : i = j
          · subst hji
            have : i < listed.size := by omega
            simp [Array.getD_eq_getD_getElem?, this]
          · have := hl j (by omega)
            simpa [Array.getElem?_setIfInBounds_ne hji] using this
        · intro j h1 h2
          rw [getD_set_ne true (by omega)]
          exact hu j (by omega) h2
      obtain ⟨hd, hy⟩ := h
      unfold wpOp
      have hoa : l.toArray[i]? = some o := by simpa using hok
      simp only [hoa]
      rcases hy with ⟨hg, ho⟩ | ⟨hg, h'⟩
      · rw [guard_wanted hg hrel]
        simp only [if_true]
        exact .inl (op_wpN ho hd hrel fun v st' a' w' hV hrel' => next _ _ _ _ hrel' hV)
      · rw [guard_wanted hg hrel]
        simp only [Bool.false_eq_true, if_false]
        obtain ⟨g1, g2, hI, σ, gh, hbase, hk0, he⟩ := hrel
        exact next _ _ _ _ (rel_put g1 g2 hI hk0 hbase he o.dst hd (v := .junk) trivial) h'

theorem guardE_more {ops ops' : Array Oper} {o : Oper} {env : Env} {b : Bool} (hm : ∀ (j : Nat) (oj : Oper), ops[j]? = some oj → ops'[j]? = some oj) (h : guardE (N := N) ops o env b) : guardE (N := N) ops' o env b := by
  unfold guardE at *
  cases hg : o.guard with
  | none => simp only [hg] at h ⊢; exact h
  | some g =>
    obtain ⟨j, want⟩ := g
    simp only [hg] at h ⊢
    obtain ⟨oj, d, c, h1, h2⟩ := h
    exact ⟨oj, d, c, hm j oj h1, h2⟩

theorem eOp_more {ops ops' : Array Oper} {st : List AO} {i : Nat} {K : Env → Prop} {env : Env} (hm : ∀ (j : Nat) (oj : Oper), ops[j]? = some oj → ops'[j]? = some oj) (hi : ops[i]? ≠ none) (h : eOp P N ops st i K env) : eOp P N ops' st i K env := by
  unfold eOp at *
  cases ho : ops[i]? with
  | none => exact absurd ho hi
  | some o =>
    rw [hm i o ho]
    simp only [ho] at h
    obtain ⟨v, ⟨h1, h2⟩, h3⟩ := h
    refine ⟨v, ⟨h1, ?_⟩, h3⟩
    rcases h2 with ⟨g, h2⟩ | ⟨g, h2⟩
    · exact .inl ⟨guardE_more hm g, h2⟩
    · exact .inr ⟨guardE_more hm g, h2⟩

theorem exists_least {p : Nat → Prop} [DecidablePred p] : ∀ (m : Nat), (∃ i, i < m ∧ p i) → ∃ i, i < m ∧ p i ∧ ∀ j, j < i → ¬ p j
  | 0, ⟨i, h, _⟩ => absurd h (Nat.not_lt_zero _)
  | m + 1, ⟨i, h, hp⟩ => by
    by_cases he : ∃ i, i < m ∧ p i
    · obtain ⟨j, h1, h2⟩ := exists_least m he
      exact ⟨j, by omega, h2⟩
    · refine ⟨i, h, hp, fun j hj hpj => he ⟨j, by omega, hpj⟩⟩

theorem runA {l : List Oper} {m : Nat} {st : List AO} {w0 : World} {σ0 : Sig} {I : Ini} {Q' : Exit → Act → World → Prop} {K : Env → Prop} (hm : m ≤ l.length)
    (hB : ∀ (f : Nat) (listed : Array Bool) (env : Env) (a : Act) (w : World), l.length - m ≤ f → listed.size = l.length → Closed md l listed → (∀ i, i < m → listed.getD i false = true) → (∀ i, m ≤ i → i < l.length → listed.getD i true = false) →
      Rel N w0 σ0 I env st a w → K env → wpAny P md l.toArray Q' f listed a w)
    (hback : ∀ j, j < l.length → backAt md l j = true) (hs : ∀ j, m ≤ j → j < l.length → soloAt md l j = true) :
    ∀ (f : Nat) (listed lA : Array Bool) (env : Env) (a : Act) (w : World), listed.size = l.length → lA.size = m → (∀ i, i < m → listed[i]? = lA[i]?) → (∀ i, m ≤ i → i < l.length → listed.getD i true = false) → Closed md l listed →
      Rel N w0 σ0 I env st a w → wpAnyE P N md (l.take m).toArray st K f lA env → wpAny P md l.toArray Q' (f + (l.length - m)) listed a w := by
  intro f
  induction f with
  | zero =>
    intro listed lA env a w hsz hszA heq hu hc hrel h
    by_cases hall : ∃ i, i < m ∧ listed.getD i false = false
    · obtain ⟨i, h1, h2, h3⟩ := exists_least m hall
      exfalso
      have : i ∈ Region.ready md (l.take m).toArray lA := by
        refine mem_ready.2 ⟨?_, l[i]'(by omega), ?_, ?_⟩
        · have := heq i h1
          simp only [Array.getD_eq_getD_getElem?] at *
          rw [← this]
          have hi : i < listed.size := by omega
          simp only [Array.getElem?_eq_getElem hi, Option.getD_some] at *
          exact h2
        · have : (l.take m)[i]? = some (l[i]'(by omega)) := by rw [List.getElem?_take_of_lt h1]; exact List.getElem?_eq_getElem _
          simpa using this
        · intro e he hb
          have hlt : e.on < i := by
            have := hback i (by omega)
            unfold backAt at this
            simp only [List.getElem?_eq_getElem (show i < l.length by omega), List.all_eq_true, List.mem_filter, decide_eq_true_eq] at this
            exact this e ⟨by simpa using he, hb⟩
          have h4 := h3 e.on hlt
          simp only [Array.getD_eq_getD_getElem?] at *
          rw [← heq e.on (by omega)]
          simpa using h4
      rw [h.1] at this
      cases this
    · exact hB _ _ _ _ _ (by omega) hsz hc (fun i hi => by
        cases hx : listed.getD i false with
        | true => rfl
        | false => exact absurd ⟨i, hi, hx⟩ hall) hu hrel h.2
  | succ f ih =>
    intro listed lA env a w hsz hszA heq hu hc hrel h
    by_cases hall : ∃ i, i < m ∧ listed.getD i false = false
    · obtain ⟨i0, h1, h2, h3⟩ := exists_least m hall
      have hi0 : i0 ∈ Region.ready md l.toArray listed := by
        refine mem_ready.2 ⟨?_, l[i0]'(by omega), by simp, ?_⟩
        · have hi : i0 < listed.size := by omega
          simp only [Array.getD_eq_getD_getElem?, Array.getElem?_eq_getElem hi, Option.getD_some] at *
          exact h2
        · intro e he hb
          have hlt : e.on < i0 := by
            have := hback i0 (by omega)
            unfold backAt at this
            simp only [List.getElem?_eq_getElem (show i0 < l.length by omega), List.all_eq_true, List.mem_filter, decide_eq_true_eq] at this
            exact this e ⟨by simpa using he, hb⟩
          simpa using h3 e.on hlt
      rw [Nat.succ_add]
      refine ⟨fun h0 => (by rw [h0] at hi0; cases hi0), fun i hi => ?_⟩
      obtain ⟨hin, oi, hoi, hai⟩ := mem_ready.1 hi
      have hoi' : l[i]? = some oi := by simpa using hoi
      have hilt : i < l.length := (List.getElem?_eq_some_iff.1 hoi').1
      have him : i < m := by
        by_cases hge : m ≤ i
        · have := solo_all hc hoi' (hs i hge hilt) hai i0 (by omega)
          rw [h2] at this
          cases this
        · omega
      have htk : (l.take m)[i]? = some oi := by rw [List.getElem?_take_of_lt him]; exact hoi'
      have hiA : i ∈ Region.ready md (l.take m).toArray lA := by
        refine mem_ready.2 ⟨?_, oi, by simpa using htk, ?_⟩
        · simp only [Array.getD_eq_getD_getElem?] at *
          rw [← heq i him]; exact hin
        · intro e he hb
          have hlt : e.on < i := by
            have := hback i hilt
            unfold backAt at this
            simp only [hoi', List.all_eq_true, List.mem_filter, decide_eq_true_eq] at this
            exact this e ⟨by simpa using he, hb⟩
          have := hai e he hb
          simp only [Array.getD_eq_getD_getElem?] at *
          rw [← heq e.on (by omega)]; exact this
      have hE := eOp_more (ops' := l.toArray) (fun j oj hj => by
        have hj' : (l.take m)[j]? = some oj := by simpa using hj
        have hjm : j < (l.take m).length := (List.getElem?_eq_some_iff.1 hj').1
        rw [List.getElem?_take_of_lt (by rw [List.length_take] at hjm; omega)] at hj'
        simpa using hj') (by rw [List.getElem?_toArray, htk]; simp) (h.2 i hiA)
      refine wpOp_of_eOp hrel (fun env' a' w' hrel' hK' => ?_) hE
      refine ih (listed.setIfInBounds i true) (lA.setIfInBounds i true) env' a' w' (by simpa using hsz) (by simpa using hszA) ?_ ?_ (closed_set hc hi) hrel' hK'
      · intro j hj
        simp only [Array.getElem?_setIfInBounds, heq j hj, hsz, hszA]
        by_cases hij : i = j
        · subst hij; simp [hilt, him]
        · simp [hij]
      · intro j hj1 hj2
        rw [getD_set_ne true (by omega)]
        exact hu j hj1 hj2
    · have hrA : Region.ready md (l.take m).toArray lA = [] := by
        refine List.eq_nil_iff_forall_not_mem.2 fun i hi => ?_
        obtain ⟨hx, o, ho, _⟩ := mem_ready.1 hi
        have ho' : (l.take m)[i]? = some o := by simpa using ho
        have him : i < m := by have := (List.getElem?_eq_some_iff.1 ho').1; rw [List.length_take] at this; omega
        refine hall ⟨i, him, ?_⟩
        have := list_getD_unlisted hx
        simp only [Array.getD_eq_getD_getElem?] at *
        rw [heq i him]; exact this
      exact hB _ _ _ _ _ (by omega) hsz hc (fun i hi => by
        cases hx : listed.getD i false with
        | true => rfl
        | false => exact absurd ⟨i, hi, hx⟩ hall) hu hrel (h.1 hrA)

theorem WP_draw2 {env : Env} {st : List AO} {Q : Post} {id : Nat} {l : List Oper} (m : Nat) (hmx : P.follows .mixedOrders = true) (hB : splitB N m l.toArray = true)
    (h : WQ P N (l.take m).toArray st (fun env => GQ P N l.toArray (l.drop m) env st (Q .normal)) (l.take m) env) : WP P N (.region id l.toArray true) env st Q := by
  intro w0 σ0 I a w hr
  simp only [splitB, Bool.and_eq_true, decide_eq_true_eq, List.all_eq_true] at hB
  obtain ⟨⟨⟨⟨hdst, hlex⟩, hm⟩, hback⟩, hsolo⟩ := hB
  have hm' : m ≤ l.length := by simpa using hm
  have hbk : ∀ j, j < l.length → backAt .any l j = true := fun j hj => by simpa using hback j (by simpa using hj)
  have hsl : ∀ j, m ≤ j → j < l.length → soloAt .any l j = true := fun j h1 h2 => by
    refine hsolo j ?_
    rw [List.mem_drop_iff_getElem]
    refine ⟨j - m, by simp; omega, ?_⟩
    simp only [List.getElem_range]
    omega
  simp only [Region.lexB, Bool.and_eq_true] at hlex
  have hr' : Rel N w0 σ0 I env st a { w with drawn := w.drawn + 1 } := by
    obtain ⟨h1, h2, hI, σ, gh, hb, hk, he⟩ := hr
    exact ⟨h1, h2, hI, σ, gh, hb.grown ⟨rfl, rfl, rfl, Nat.le_refl _, fun _ _ _ => rfl⟩, hk, he⟩
  refine wp_region_any hmx ?_
  have hA := wpAnyE_lex (P := P) (N := N) (st := st) (K := fun env => GQ P N l.toArray (l.drop m) env st (Q .normal)) (md := .any) (ops := (l.take m).toArray) (l.take m) 0 (Array.replicate (l.take m).toArray.size false) env (by simp) (by simpa using hlex.2) h
  have hlt : (l.take m).length = m := by rw [List.length_take]; omega
  have hR := runA (P := P) (md := .any) (l := l) (m := m) (st := st) (w0 := w0) (σ0 := σ0) (I := I) (Q' := Lift N w0 σ0 I Q) (K := fun env => GQ P N l.toArray (l.drop m) env st (Q .normal)) hm'
    (fun f listed env a w hf hsz hc hl hu hrel hK => runB (Q' := Lift N w0 σ0 I Q) (K := Q .normal) (fun env st a w hrel hq => ⟨env, st, hrel, hq⟩) hbk (l.drop m) m f listed env st a w (fun j => by rw [List.getElem?_drop]) (fun j h1 h2 => hsl j h1 h2) (by simpa using hf) hsz hc hl hu hm' hrel hK)
    hbk hsl (l.take m).length (Array.replicate l.length false) (Array.replicate m false) env a _ (by simp) (by simp) (fun i hi => by
      rw [Array.getElem?_replicate, Array.getElem?_replicate, if_pos (by omega), if_pos hi]) (fun i h1 h2 => by simp [Array.getD_eq_getD_getElem?, Array.getElem?_replicate, h2]) (fun i o ho hi => by
      have hil : i < l.length := (List.getElem?_eq_some_iff.1 ho).1
      simp [Array.getD_eq_getD_getElem?, Array.getElem?_replicate, hil] at hi) hr' (by simpa [hlt] using hA)
  rw [hlt, Nat.add_sub_cancel' hm'] at hR
  exact hR

end

section
variable {P : Program} {T : Tab} {N : Fm} (hT : TabOk P T)
include hT

theorem vcG_sound {ops : List Oper} : ∀ {l : List Oper} {env : Env} {st : List AO} {K : Env → List AO → Prop}, dstOk N l → vcL P T N ops l env st K → GQ P N ops.toArray l env st K
  | [], env, st, K, _, h => h
  | o :: rest, env, st, K, hd, h => by
    have hd0 : ∀ d, o.dst = some d → d < N.n := hd o (by simp)
    have hdr : dstOk N rest := fun o' ho' => hd o' (by simp [ho'])
    obtain ⟨dst, op, ty, pos, after, guard⟩ := o
    refine ⟨hd0, ?_⟩
    unfold vcL at h
    split at h
    · rename_i hg
      simp only at hg
      subst hg
      exact .inl ⟨rfl, (vcOp2_sound hT h).mono fun v st' h2 => vcG_sound hdr h2⟩
    · rename_i j want hg
      simp only at hg
      subst hg
      split at h
      · rename_i oj hj
        split at h
        · rename_i d hdj
          split at h
          · rename_i b hb
            obtain ⟨hdN, h1, h2⟩ := h
            by_cases e : b = want
            · obtain ⟨v, st', h3, h4⟩ := vcOp_sound hT (h1 e)
              exact .inl ⟨⟨oj, d, b, by simpa using hj, hdj, hdN, hb, by simp [e]⟩, h3.n (vcG_sound hdr h4)⟩
            · exact .inr ⟨⟨oj, d, b, by simpa using hj, hdj, hdN, hb, by simp [e]⟩, vcG_sound hdr (h2 e)⟩
          · exact h.elim
        · exact h.elim
      · exact h.elim

/-- an open region: the first m operations turn nothing; the others come after all ahead of them -/
theorem vc_draw2 {env : Env} {st : List AO} {Q : Post} {id : Nat} {ops : Array Oper} (m : Nat) (hB : splitB N m ops = true)
    (h : vcQ P T N (ops.toList.take m) st (ops.toList.take m) env fun env => vcL P T N ops.toList (ops.toList.drop m) env st (Q .normal)) : WP P N (.region id ops true) env st Q := by
  obtain ⟨l⟩ := ops
  have hd : dstOk N l := fun o ho d hdo => by
    simp only [splitB, Bool.and_eq_true, Array.all_eq_true_iff_forall_mem] at hB
    have := hB.1.1.1.1 o (by simpa using ho)
    rw [hdo] at this
    simpa using this
  refine WP_draw2 m hT.mixed hB ?_
  have := vcQ_sound (N := N) hT (fun o ho => hd o (List.mem_of_mem_take ho)) h
  refine WQ_mono (fun env hk => ?_) this
  exact vcG_sound hT (fun o ho => hd o (List.mem_of_mem_drop ho)) hk
end
end Go.Proofs.Nw.K
