/- Bundle 7: NwK24, NwC13, NwC14, NwL8, NwC15, NwC16. -/
import Derived.Test.YtjfpnnmagnljnaaNwA6
import Derived.Shelf.SlSortCmp.NoneTotal
section
/- K24: regions whose order is open, and in which operations turn own things one behind the other: what turns nothing does the same at each stage. -/
open Go Go.RowKit
set_option linter.unusedVariables false
set_option linter.unusedSimpArgs false
namespace Go.Proofs.Nw.K

/-- the turning ones that are earlier stand ahead of this one -/
def turnAt (md : Region.Mode) (ops : List Oper) (tf : List Bool) (j : Nat) : Bool :=
  match tf.getD j false, ops[j]? with
  | true, some o => let S := downS md ops j ((o.after.toList.filter (Region.binds md)).map (·.on)); (List.range j).all fun i => !(tf.getD i false) || S.contains i
  | _, _ => true

section
variable {P : Program} {N : Fm} {ops : Array Oper} {md : Region.Mode} {tf : List Bool} {Ss : List (List AO)}

def Yt (P : Program) (N : Fm) (ops : Array Oper) (tf : List Bool) (Ss : List (List AO)) (i : Nat) (o : Oper) (v : AV) (env : Env) (j j' : Nat) : Prop :=
  match tf.getD i false with
  | true => j' = j + 1 ∧ ∃ s s', Ss[j]? = some s ∧ Ss[j + 1]? = some s' ∧ (∀ d, o.dst = some d → d < N.n) ∧ o.guard = none ∧ OpS P o.op (evalE env) s v s'
  | false => j' = j ∧ ∀ s ∈ Ss, EYields P N ops s o v env

def tOp (P : Program) (N : Fm) (ops : Array Oper) (tf : List Bool) (Ss : List (List AO)) (i : Nat) (K : Env → Nat → Prop) (env : Env) (j : Nat) : Prop :=
  match ops[i]? with
  | none => K env j
  | some o => ∃ v j', Yt P N ops tf Ss i o v env j j' ∧ K (updO env o.dst v) j'

def wpAnyT (P : Program) (N : Fm) (md : Region.Mode) (ops : Array Oper) (tf : List Bool) (Ss : List (List AO)) (K : Env → Nat → Prop) : Nat → Array Bool → Env → Nat → Prop
  | 0, listed, env, j => Region.ready md ops listed = [] ∧ K env j
  | fuel + 1, listed, env, j => (Region.ready md ops listed = [] → K env j) ∧ ∀ i ∈ Region.ready md ops listed, tOp P N ops tf Ss i (wpAnyT P N md ops tf Ss K fuel (listed.setIfInBounds i true)) env j

theorem evalE_other {env : Env} {o : Oper} {dst : Option Tmp} {u : AV} (h : ∀ d, dst = some d → d ∉ o.looksAt ops) : ∀ x ∈ o.op.operands, evalE (updO env dst u) x = evalE env x := fun x hx => by
  cases x with
  | tmp t =>
    refine updO_other fun d hd e => h d hd ?_
    subst e
    exact List.mem_append_left _ (List.mem_filterMap.2 ⟨.tmp d, by simpa using hx, rfl⟩)
  | _ => rfl

theorem Yt.keep {i : Nat} {o : Oper} {v : AV} {env : Env} {j j' : Nat} (hy : Yt P N ops tf Ss i o v env j j') {dst : Option Tmp} {u : AV} (h : ∀ d, dst = some d → d ∉ o.looksAt ops) : Yt P N ops tf Ss i o v (updO env dst u) j j' := by
  unfold Yt at *
  split at hy
  · obtain ⟨h1, s, s', h2, h3, h4, h5, h6⟩ := hy
    exact ⟨h1, s, s', h2, h3, h4, h5, h6.congr (evalE_other h)⟩
  · exact ⟨hy.1, fun s hs => (hy.2 s hs).keep h⟩
theorem Yt.drop {i : Nat} {o : Oper} {v : AV} {env : Env} {j j' : Nat} {dst : Option Tmp} {u : AV} (hy : Yt P N ops tf Ss i o v (updO env dst u) j j') (h : ∀ d, dst = some d → d ∉ o.looksAt ops) : Yt P N ops tf Ss i o v env j j' := by
  unfold Yt at *
  split at hy
  · obtain ⟨h1, s, s', h2, h3, h4, h5, h6⟩ := hy
    exact ⟨h1, s, s', h2, h3, h4, h5, h6.congr fun x hx => (evalE_other h x hx).symm⟩
  · exact ⟨hy.1, fun s hs => (hy.2 s hs).drop h⟩

theorem Yt.swap {i k : Nat} {oi ok : Oper} {v u : AV} {env : Env} {j0 j1 j2 : Nat} (hap : oi.apart ops ok = true) (hnt : ¬ (tf.getD i false = true ∧ tf.getD k false = true))
    (h0 : Yt P N ops tf Ss i oi v env j0 j1) (g0 : Yt P N ops tf Ss k ok u (updO env oi.dst v) j1 j2) : ∃ j1', Yt P N ops tf Ss k ok u env j0 j1' ∧ Yt P N ops tf Ss i oi v (updO env ok.dst u) j1' j2 := by
  obtain ⟨a1, a2, a3⟩ := Oper.apart_spec hap
  have g := g0.drop a1
  have h := h0.keep (u := u) a3
  clear g0 h0
  unfold Yt at *
  cases hi : tf.getD i false with
  | true =>
    cases hk : tf.getD k false with
    | true => exact absurd ⟨hi, hk⟩ hnt
    | false =>
      simp only [hi, hk] at *
      obtain ⟨rfl, s, s', h2⟩ := h
      obtain ⟨rfl, g⟩ := g
      exact ⟨j0, ⟨rfl, g⟩, rfl, s, s', h2⟩
  | false =>
    cases hk : tf.getD k false with
    | true =>
      simp only [hi, hk] at *
      obtain ⟨rfl, h⟩ := h
      obtain ⟨rfl, s, s', g2⟩ := g
      exact ⟨_, ⟨rfl, s, s', g2⟩, rfl, h⟩
    | false =>
      simp only [hi, hk] at *
      obtain ⟨rfl, h⟩ := h
      obtain ⟨rfl, g⟩ := g
      exact ⟨_, ⟨rfl, g⟩, rfl, h⟩

theorem not_both {l : List Oper} {listed : Array Bool} (hc : Closed md l listed) (ht : ∀ j, j < l.length → turnAt md l tf j = true) {i k : Nat} (hi : i ∈ Region.ready md l.toArray listed) (hk : k ∈ Region.ready md l.toArray listed) (hne : k ≠ i) :
    ¬ (tf.getD i false = true ∧ tf.getD k false = true) := by
  have key : ∀ a b, a ∈ Region.ready md l.toArray listed → b ∈ Region.ready md l.toArray listed → a < b → tf.getD a false = true → tf.getD b false = true → False := fun a b ha hb hab ta tb => by
    obtain ⟨h0, o, ho, hall⟩ := mem_ready.1 hb
    have ho' : l[b]? = some o := by simpa using ho
    have := ht b (List.getElem?_eq_some_iff.1 ho').1
    unfold turnAt at this
    simp only [tb, ho'] at this
    have := List.all_eq_true.1 this a (List.mem_range.2 hab)
    simp only [ta, Bool.not_true, Bool.false_or] at this
    have hm : listed.getD a false = true := by
      refine downS_sound hc b _ ?_ a (by simpa using this)
      intro x hx
      obtain ⟨e, he, rfl⟩ := List.mem_map.1 hx
      obtain ⟨he1, he2⟩ := List.mem_filter.1 he
      exact hall e (by simpa using he1) he2
    have := list_getD_unlisted (mem_ready.1 ha).1
    rw [this] at hm
    cases hm
  rintro ⟨ti, tk⟩
  rcases Nat.lt_or_gt_of_ne hne with h | h
  · exact key k i hk hi h tk ti
  · exact key i k hi hk h ti tk

theorem wpAnyT_first {l : List Oper} {K : Env → Nat → Prop} {i : Nat} {oi : Oper} (hi : l[i]? = some oi) (ht : ∀ j, j < l.length → turnAt md l tf j = true) :
    ∀ (fuel : Nat) (listed : Array Bool) (env : Env) (j : Nat), Closed md l listed →
      (∀ k ok, l.toArray[k]? = some ok → k ≠ i → listed.getD k true = false → (∀ e ∈ ok.after, Region.binds md e = true → e.on ≠ i) → oi.apart l.toArray ok = true) →
      i ∈ Region.ready md l.toArray listed → tOp P N l.toArray tf Ss i (wpAnyT P N md l.toArray tf Ss K fuel (listed.setIfInBounds i true)) env j → wpAnyT P N md l.toArray tf Ss K (fuel + 1) listed env j := by
  have hia : l.toArray[i]? = some oi := by simpa using hi
  intro fuel
  induction fuel with
  | zero =>
    intro listed env j _ _ hr H
    refine ⟨fun h => (by rw [h] at hr; cases hr), fun k hk => ?_⟩
    by_cases hki : k = i
    · subst hki; exact H
    · have := ready_mono hk hki
      unfold tOp at H
      simp only [hia] at H
      obtain ⟨v, j', _, H⟩ := H
      rw [H.1] at this
      cases this
  | succ fuel ih =>
    intro listed env j hc hfree hr H
    refine ⟨fun h => (by rw [h] at hr; cases hr), fun k hk => ?_⟩
    by_cases hki : k = i
    · subst hki; exact H
    · have hnb := not_both hc ht hr hk hki
      unfold tOp at H
      simp only [hia] at H
      obtain ⟨v, j1, hy, H2⟩ := H
      have h1 := H2.2 k (ready_mono hk hki)
      obtain ⟨hkun, ok, hok, hall⟩ := mem_ready.1 hk
      have hnot : ∀ e ∈ ok.after, Region.binds md e = true → e.on ≠ i := fun e he hb heq => by
        have h1 := hall e he hb
        have h0 := (mem_ready.1 hr).1
        rw [heq] at h1
        have := list_getD_unlisted h0
        rw [this] at h1
        cases h1
      have hap := hfree k ok hok hki hkun hnot
      unfold tOp at h1
      simp only [hok] at h1
      obtain ⟨u, j2, hyk, H3⟩ := h1
      obtain ⟨j1', hy1, hy2⟩ := Yt.swap hap hnb hy hyk
      have hfree' : ∀ k' ok', l.toArray[k']? = some ok' → k' ≠ i → (listed.setIfInBounds k true).getD k' true = false →
          (∀ e ∈ ok'.after, Region.binds md e = true → e.on ≠ i) → oi.apart l.toArray ok' = true := fun k' ok' hk' hki' hun hno => by
        refine hfree k' ok' hk' hki' ?_ hno
        by_cases hjk : k = k'
        · subst hjk; exact hkun
        · rw [getD_set_ne true hjk] at hun; exact hun
      unfold tOp
      simp only [hok]
      refine ⟨u, j1', hy1, ih (listed.setIfInBounds k true) _ _ (closed_set hc hk) hfree' (ready_mono hr (Ne.symm hki)) ?_⟩
      unfold tOp
      simp only [hia]
      refine ⟨v, j2, hy2, ?_⟩
      rw [← updO_comm env v u (Oper.apart_spec hap).2.1, Array.setIfInBounds_comm _ _ hki]
      exact H3

/-- the run in the order of the text -/
def WT (P : Program) (N : Fm) (ops : Array Oper) (tf : List Bool) (Ss : List (List AO)) (K : Env → Nat → Prop) : Nat → List Oper → Env → Nat → Prop
  | _, [], env, j => K env j
  | k, o :: rest, env, j => ∃ v j', Yt P N ops tf Ss k o v env j j' ∧ WT P N ops tf Ss K (k + 1) rest (updO env o.dst v) j'

theorem WT_mono {K K' : Env → Nat → Prop} (hk : ∀ e j, K e j → K' e j) : ∀ {l : List Oper} {k j : Nat} {env : Env}, WT P N ops tf Ss K k l env j → WT P N ops tf Ss K' k l env j
  | [], _, _, _, h => hk _ _ h
  | _ :: _, _, _, _, ⟨v, j', hy, h⟩ => ⟨v, j', hy, WT_mono hk h⟩

theorem wpAnyT_lex {l : List Oper} {K : Env → Nat → Prop} (ht : ∀ j, j < l.length → turnAt md l tf j = true) : ∀ (r : List Oper) (k : Nat) (listed : Array Bool) (env : Env) (j : Nat), (∀ j, r[j]? = l[k + j]?) → Closed md l listed →
    Region.lexFrom md l.toArray r.length k listed = true → WT P N l.toArray tf Ss K k r env j → wpAnyT P N md l.toArray tf Ss K r.length listed env j
  | [], _, _, _, _, _, _, hB, h => ⟨by simpa [Region.lexFrom] using hB, h⟩
  | o :: r, k, listed, env, j, hl, hc, hB, h => by
    have h0 : l[k]? = some o := by simpa using (hl 0).symm
    simp only [List.length_cons, Region.lexFrom, Bool.and_eq_true] at hB
    obtain ⟨⟨hr, hf⟩, hB'⟩ := hB
    obtain ⟨v, j', hy, hK⟩ := h
    have hr : k ∈ Region.ready md l.toArray listed := by simpa using hr
    refine wpAnyT_first h0 ht r.length listed env j hc (Region.free_spec (by simpa using h0) hf) hr ?_
    unfold tOp
    have : l.toArray[k]? = some o := by simpa using h0
    simp only [this]
    exact ⟨v, j', hy, wpAnyT_lex ht r (k + 1) _ _ _ (fun j => by have := hl (j + 1); simpa [Nat.add_assoc, Nat.add_comm 1 j] using this) (closed_set hc hr) hB' hK⟩

theorem wpOp_of_tOp {i : Nat} {K : Env → Nat → Prop} {K' : Act → World → Prop} {Q' : Exit → Act → World → Prop} {w0 : World} {σ0 : Sig} {I : Ini} {env : Env} {j : Nat} {s : List AO} {a : Act} {w : World} (hs : Ss[j]? = some s) (hr : Rel N w0 σ0 I env s a w)
    (h : ∀ env j s a w, Ss[j]? = some s → Rel N w0 σ0 I env s a w → K env j → K' a w) (hh : tOp P N ops tf Ss i K env j) : wpOp P ops Q' i K' a w := by
  unfold tOp at hh
  unfold wpOp
  split
  · rename_i h0; simp only [h0] at hh; exact h _ _ _ _ _ hs hr hh
  · rename_i o h0
    simp only [h0] at hh
    obtain ⟨v, j', hy, hK⟩ := hh
    unfold Yt at hy
    split at hy
    · obtain ⟨rfl, s1, s', h2, h3, h4, h5, h6⟩ := hy
      rw [hs] at h2
      cases h2
      have hw : Region.wanted o (yielded ops a.tmps) = true := by unfold Region.wanted; rw [h5]
      rw [hw]
      simp only [if_true]
      exact .inl (op_wp h6 h4 hr fun a w hr' => h _ _ _ _ _ h3 hr' hK)
    · obtain ⟨rfl, hy⟩ := hy
      obtain ⟨hd, hy⟩ := hy s (List.mem_of_getElem? hs)
      rcases hy with ⟨hg, ho⟩ | ⟨hg, rfl⟩
      · rw [guard_wanted hg hr]
        simp only [if_true]
        exact .inl (op_wp ho hd hr fun a w hr' => h _ _ _ _ _ hs hr' hK)
      · rw [guard_wanted hg hr]
        simp only [Bool.false_eq_true, if_false]
        obtain ⟨g1, g2, hI, σ, gh, hbase, hk0, he⟩ := hr
        exact h _ _ _ _ _ hs (rel_put g1 g2 hI hk0 hbase he o.dst hd (v := .junk) trivial) hK

theorem tOp_more {ops ops' : Array Oper} {i : Nat} {K : Env → Nat → Prop} {env : Env} {j : Nat} (hm : ∀ (j : Nat) (oj : Oper), ops[j]? = some oj → ops'[j]? = some oj) (hi : ops[i]? ≠ none) (h : tOp P N ops tf Ss i K env j) : tOp P N ops' tf Ss i K env j := by
  unfold tOp at *
  cases ho : ops[i]? with
  | none => exact absurd ho hi
  | some o =>
    rw [hm i o ho]
    simp only [ho] at h
    obtain ⟨v, j', h2, h3⟩ := h
    refine ⟨v, j', ?_, h3⟩
    unfold Yt at *
    split
    · rename_i ht; simp only [ht] at h2; exact h2
    · rename_i ht
      simp only [ht] at h2
      refine ⟨h2.1, fun s hs => ?_⟩
      obtain ⟨h1, h2⟩ := h2.2 s hs
      refine ⟨h1, ?_⟩
      rcases h2 with ⟨g, h2⟩ | ⟨g, h2⟩
      · exact .inl ⟨guardE_more hm g, h2⟩
      · exact .inr ⟨guardE_more hm g, h2⟩

theorem runT {l : List Oper} {m : Nat} {w0 : World} {σ0 : Sig} {I : Ini} {Q' : Exit → Act → World → Prop} {K : Env → Nat → Prop} (hm : m ≤ l.length)
    (hB : ∀ (f : Nat) (listed : Array Bool) (env : Env) (j : Nat) (s : List AO) (a : Act) (w : World), Ss[j]? = some s → l.length - m ≤ f → listed.size = l.length → Closed md l listed → (∀ i, i < m → listed.getD i false = true) → (∀ i, m ≤ i → i < l.length → listed.getD i true = false) →
      Rel N w0 σ0 I env s a w → K env j → wpAny P md l.toArray Q' f listed a w)
    (hback : ∀ j, j < l.length → backAt md l j = true) (hs : ∀ j, m ≤ j → j < l.length → soloAt md l j = true) :
    ∀ (f : Nat) (listed lA : Array Bool) (env : Env) (j : Nat) (s : List AO) (a : Act) (w : World), Ss[j]? = some s → listed.size = l.length → lA.size = m → (∀ i, i < m → listed[i]? = lA[i]?) → (∀ i, m ≤ i → i < l.length → listed.getD i true = false) → Closed md l listed →
      Rel N w0 σ0 I env s a w → wpAnyT P N md (l.take m).toArray tf Ss K f lA env j → wpAny P md l.toArray Q' (f + (l.length - m)) listed a w := by
  intro f
  induction f with
  | zero =>
    intro listed lA env j s a w hsj hsz hszA heq hu hc hrel h
    by_cases hall : ∃ i, i < m ∧ listed.getD i false = false
    · obtain ⟨i, h1, h2, h3⟩ := exists_least m hall
      exfalso
      have : i ∈ Region.ready md (l.take m).toArray lA := by
        refine mem_ready.2 ⟨?_, l[i]'(by omega), ?_, ?_⟩
        · have := heq i h1
          simp only [Array.getD_eq_getD_getElem?] at *
          rw [← this]
          have hi : i < listed.size := by omega
          simp only [Array.getElem?_eq_getElem hi, Option.getD_some] at *
          exact h2
        · have : (l.take m)[i]? = some (l[i]'(by omega)) := by rw [List.getElem?_take_of_lt h1]; exact List.getElem?_eq_getElem _
          simpa using this
        · intro e he hb
          have hlt : e.on < i := by
            have := hback i (by omega)
            unfold backAt at this
            simp only [List.getElem?_eq_getElem (show i < l.length by omega), List.all_eq_true, List.mem_filter, decide_eq_true_eq] at this
            exact this e ⟨by simpa using he, hb⟩
          have h4 := h3 e.on hlt
          simp only [Array.getD_eq_getD_getElem?] at *
          rw [← heq e.on (by omega)]
          simpa using h4
      rw [h.1] at this
      cases this
    · exact hB _ _ _ _ _ _ _ hsj (by omega) hsz hc (fun i hi => by
        cases hx : listed.getD i false with
        | true => rfl
        | false => exact absurd ⟨i, hi, hx⟩ hall) hu hrel h.2
  | succ f ih =>
    intro listed lA env j s a w hsj hsz hszA heq hu hc hrel h
    by_cases hall : ∃ i, i < m ∧ listed.getD i false = false
    · obtain ⟨i0, h1, h2, h3⟩ := exists_least m hall
      have hi0 : i0 ∈ Region.ready md l.toArray listed := by
        refine mem_ready.2 ⟨?_, l[i0]'(by omega), by simp, ?_⟩
        · have hi : i0 < listed.size := by omega
          simp only [Array.getD_eq_getD_getElem?, Array.getElem?_eq_getElem hi, Option.getD_some] at *
          exact h2
        · intro e he hb
          have hlt : e.on < i0 := by
            have := hback i0 (by omega)
            unfold backAt at this
            simp only [List.getElem?_eq_getElem (show i0 < l.length by omega), List.all_eq_true, List.mem_filter, decide_eq_true_eq] at this
            exact this e ⟨by simpa using he, hb⟩
          simpa using h3 e.on hlt
      rw [Nat.succ_add]
      refine ⟨fun h0 => (by rw [h0] at hi0; cases hi0), fun i hi => ?_⟩
      obtain ⟨hin, oi, hoi, hai⟩ := mem_ready.1 hi
      have hoi' : l[i]? = some oi := by simpa using hoi
      have hilt : i < l.length := (List.getElem?_eq_some_iff.1 hoi').1
      have him : i < m := by
        by_cases hge : m ≤ i
        · have := solo_all hc hoi' (hs i hge hilt) hai i0 (by omega)
          rw [h2] at this
          cases this
        · omega
      have htk : (l.take m)[i]? = some oi := by rw [List.getElem?_take_of_lt him]; exact hoi'
      have hiA : i ∈ Region.ready md (l.take m).toArray lA := by
        refine mem_ready.2 ⟨?_, oi, by simpa using htk, ?_⟩
        · simp only [Array.getD_eq_getD_getElem?] at *
          rw [← heq i him]; exact hin
        · intro e he hb
          have hlt : e.on < i := by
            have := hback i hilt
            unfold backAt at this
            simp only [hoi', List.all_eq_true, List.mem_filter, decide_eq_true_eq] at this
            exact this e ⟨by simpa using he, hb⟩
          have := hai e he hb
          simp only [Array.getD_eq_getD_getElem?] at *
          rw [← heq e.on (by omega)]; exact this
      have hE := tOp_more (ops' := l.toArray) (fun j oj hj => by
        have hj' : (l.take m)[j]? = some oj := by simpa using hj
        have hjm : j < (l.take m).length := (List.getElem?_eq_some_iff.1 hj').1
        rw [List.getElem?_take_of_lt (by rw [List.length_take] at hjm; omega)] at hj'
        simpa using hj') (by rw [List.getElem?_toArray, htk]; simp) (h.2 i hiA)
      refine wpOp_of_tOp hsj hrel (fun env' j' s' a' w' hsj' hrel' hK' => ?_) hE
      refine ih (listed.setIfInBounds i true) (lA.setIfInBounds i true) env' j' s' a' w' hsj' (by simpa using hsz) (by simpa using hszA) ?_ ?_ (closed_set hc hi) hrel' hK'
      · intro j hj
        simp only [Array.getElem?_setIfInBounds, heq j hj, hsz, hszA]
        by_cases hij : i = j
        · subst hij; simp [hilt, him]
        · simp [hij]
      · intro j hj1 hj2
        rw [getD_set_ne true (by omega)]
        exact hu j hj1 hj2
    · have hrA : Region.ready md (l.take m).toArray lA = [] := by
        refine List.eq_nil_iff_forall_not_mem.2 fun i hi => ?_
        obtain ⟨hx, o, ho, _⟩ := mem_ready.1 hi
        have ho' : (l.take m)[i]? = some o := by simpa using ho
        have him : i < m := by have := (List.getElem?_eq_some_iff.1 ho').1; rw [List.length_take] at this; omega
        refine hall ⟨i, him, ?_⟩
        have := list_getD_unlisted hx
        simp only [Array.getD_eq_getD_getElem?] at *
        rw [heq i him]; exact this
      exact hB _ _ _ _ _ _ _ hsj (by omega) hsz hc (fun i hi => by
        cases hx : listed.getD i false with
        | true => rfl
        | false => exact absurd ⟨i, hi, hx⟩ hall) hu hrel (h.1 hrA)

def stageB (N : Fm) (m : Nat) (tf : List Bool) (ops : Array Oper) : Bool :=
  splitB N m ops && (List.range m).all (turnAt .any (ops.toList.take m) tf)

theorem WP_draw3 {env : Env} {st : List AO} {Q : Post} {id : Nat} {l : List Oper} (m : Nat) (tf : List Bool) (Ss : List (List AO)) (hmx : P.follows .mixedOrders = true) (hB : stageB N m tf l.toArray = true) (h0 : Ss[0]? = some st)
    (h : WT P N (l.take m).toArray tf Ss (fun env j => ∀ s, Ss[j]? = some s → GQ P N l.toArray (l.drop m) env s (Q .normal)) 0 (l.take m) env 0) : WP P N (.region id l.toArray true) env st Q := by
  intro w0 σ0 I a w hr
  simp only [stageB, splitB, Bool.and_eq_true, decide_eq_true_eq, List.all_eq_true] at hB
  obtain ⟨⟨⟨⟨⟨hdst, hlex⟩, hm⟩, hback⟩, hsolo⟩, hturn⟩ := hB
  have hm' : m ≤ l.length := by simpa using hm
  have hlt : (l.take m).length = m := by rw [List.length_take]; omega
  have hbk : ∀ j, j < l.length → backAt .any l j = true := fun j hj => by simpa using hback j (by simpa using hj)
  have htn : ∀ j, j < (l.take m).length → turnAt .any (l.take m) tf j = true := fun j hj => by simpa using hturn j (by rw [hlt] at hj; simpa using hj)
  have hsl : ∀ j, m ≤ j → j < l.length → soloAt .any l j = true := fun j h1 h2 => by
    refine hsolo j ?_
    rw [List.mem_drop_iff_getElem]
    refine ⟨j - m, by simp; omega, ?_⟩
    simp only [List.getElem_range]
    omega
  simp only [Region.lexB, Bool.and_eq_true] at hlex
  have hr' : Rel N w0 σ0 I env st a { w with drawn := w.drawn + 1 } := by
    obtain ⟨h1, h2, hI, σ, gh, hb, hk, he⟩ := hr
    exact ⟨h1, h2, hI, σ, gh, hb.grown ⟨rfl, rfl, rfl, Nat.le_refl _, fun _ _ _ => rfl⟩, hk, he⟩
  refine wp_region_any hmx ?_
  have hcl : ∀ (l' : List Oper) (n : Nat), Closed .any l' (Array.replicate n false) := fun l' n i o ho hi => by
    simp only [Array.getD_eq_getD_getElem?, Array.getElem?_replicate] at hi
    split at hi <;> simp at hi
  have hA := wpAnyT_lex (P := P) (N := N) (Ss := Ss) (tf := tf) (K := fun env j => ∀ s, Ss[j]? = some s → GQ P N l.toArray (l.drop m) env s (Q .normal)) (md := .any) (l := l.take m) htn (l.take m) 0 (Array.replicate (l.take m).toArray.size false) env 0 (by simp) (hcl _ _) (by simpa using hlex.2) h
  have hR := runT (P := P) (md := .any) (l := l) (m := m) (Ss := Ss) (tf := tf) (w0 := w0) (σ0 := σ0) (I := I) (Q' := Lift N w0 σ0 I Q) (K := fun env j => ∀ s, Ss[j]? = some s → GQ P N l.toArray (l.drop m) env s (Q .normal)) hm'
    (fun f listed env j s a w hsj hf hsz hc hl hu hrel hK => runB (Q' := Lift N w0 σ0 I Q) (K := Q .normal) (fun env st a w hrel hq => ⟨env, st, hrel, hq⟩) hbk (l.drop m) m f listed env s a w (fun j => by rw [List.getElem?_drop]) (fun j h1 h2 => hsl j h1 h2) (by simpa using hf) hsz hc hl hu hm' hrel (hK s hsj))
    hbk hsl (l.take m).length (Array.replicate l.length false) (Array.replicate m false) env 0 st a _ h0 (by simp) (by simp) (fun i hi => by
      rw [Array.getElem?_replicate, Array.getElem?_replicate, if_pos (by omega), if_pos hi]) (fun i h1 h2 => by simp [Array.getD_eq_getD_getElem?, Array.getElem?_replicate, h2]) (hcl _ _) hr' (by simpa [hlt] using hA)
  rw [hlt, Nat.add_sub_cancel' hm'] at hR
  exact hR
end

section
variable (P : Program) (T : Tab) (N : Fm)
def alsoT (op : Op) (E : Operand → AV) (v : AV) : List (List AO) → Prop
  | [] => True
  | s :: r => (vcOp P T op E s fun v' s' => s' = s ∧ v' = v) ∧ alsoT op E v r

/-- operations in an open order; those with the mark turn own things, from stage to stage -/
def vcT (ops : List Oper) (Ss : List (List AO)) : List Bool → List Oper → Env → List (List AO) → (Env → List AO → Prop) → Prop
  | _, [], env, st :: _, K => K env st
  | true :: tf, o :: rest, env, st :: st2 :: r, K => match o.guard with
    | none => vcOp P T o.op (evalE env) st fun v st' => st' = st2 ∧ vcT ops Ss tf rest (updO env o.dst v) (st2 :: r) K
    | some _ => False
  | false :: tf, o :: rest, env, st :: r, K => match o.guard with
    | none => vcOp P T o.op (evalE env) st fun v st' => st' = st ∧ alsoT P T o.op (evalE env) v Ss ∧ vcT ops Ss tf rest (updO env o.dst v) (st :: r) K
    | some (j, want) => match ops[j]? with
      | some oj => match oj.dst with
        | some d => match env d with
          | .v (.one (.sc (.bool b))) => d < N.n ∧ (b = want → vcOp P T o.op (evalE env) st fun v st' => st' = st ∧ alsoT P T o.op (evalE env) v Ss ∧ vcT ops Ss tf rest (updO env o.dst v) (st :: r) K) ∧
            (b ≠ want → vcT ops Ss tf rest (updO env o.dst .junk) (st :: r) K)
          | _ => False
        | none => False
      | none => False
  | _, _, _, _, _ => False
end

section
variable {P : Program} {T : Tab} {N : Fm} (hT : TabOk P T)
include hT

theorem alsoT_sound {op : Op} {E : Operand → AV} {v : AV} : ∀ {Ss : List (List AO)}, alsoT P T op E v Ss → ∀ s ∈ Ss, OpS P op E s v s
  | [], _, s, hs => by cases hs
  | s0 :: r, h, s, hs => by
    rcases List.mem_cons.1 hs with rfl | hs
    · obtain ⟨v', st', h1, rfl, rfl⟩ := vcOp_sound hT h.1
      exact h1
    · exact alsoT_sound h.2 s hs

theorem vcT_sound {ops : List Oper} {Ss : List (List AO)} {tf0 : List Bool} {K : Env → List AO → Prop} : ∀ {l : List Oper} {tf : List Bool} {k j : Nat} {env : Env} {r : List (List AO)}, dstOk N l → tf = tf0.drop k → r = Ss.drop j → vcT P T N ops Ss tf l env r K →
    WT P N ops.toArray tf0 Ss (fun env j => ∀ s, Ss[j]? = some s → K env s) k l env j
  | [], tf, k, j, env, r, _, htf, hr, h => by
    show ∀ s, Ss[j]? = some s → K env s
    intro s hs
    have h2 : r = s :: Ss.drop (j + 1) := by rw [hr]; exact (List.getElem?_eq_some_iff.1 hs).2 ▸ List.drop_eq_getElem_cons (List.getElem?_eq_some_iff.1 hs).1
    subst h2
    unfold vcT at h
    exact h
  | o :: rest, tf, k, j, env, r, hd, htf, hr, h => by
    have hd0 : ∀ d, o.dst = some d → d < N.n := hd o (by simp)
    have hdr : dstOk N rest := fun o' ho' => hd o' (by simp [ho'])
    cases tf with
    | nil => cases r <;> (unfold vcT at h; exact h.elim)
    | cons b tf =>
      have hb : tf0.getD k false = b := by
        have : tf0[k]? = some b := by
          have := congrArg (fun l => l[0]?) htf
          simpa using this.symm
        simp [List.getD, this]
      have htf' : tf = tf0.drop (k + 1) := by
        have := congrArg List.tail htf
        simpa [List.tail_drop] using this
      cases r with
      | nil => cases b <;> (unfold vcT at h; exact h.elim)
      | cons st r =>
        have hst : Ss[j]? = some st := by
          have := congrArg (fun l => l[0]?) hr
          simpa using this.symm
        have hr' : r = Ss.drop (j + 1) := by
          have := congrArg List.tail hr
          simpa [List.tail_drop] using this
        obtain ⟨dst, op, ty, pos, after, guard⟩ := o
        cases b with
        | true =>
          cases r with
          | nil => unfold vcT at h; exact h.elim
          | cons st2 r =>
            have hst2 : Ss[j + 1]? = some st2 := by
              have := congrArg (fun l => l[0]?) hr'
              simpa using this.symm
            unfold vcT at h
            split at h
            · rename_i hg
              simp only at hg
              subst hg
              obtain ⟨v, st', h1, rfl, h3⟩ := vcOp_sound hT h
              refine ⟨v, j + 1, ?_, vcT_sound hdr htf' hr' h3⟩
              unfold Yt
              rw [hb]
              exact ⟨rfl, _, _, hst, hst2, hd0, rfl, h1⟩
            · exact h.elim
        | false =>
          unfold vcT at h
          split at h
          · rename_i hg
            simp only at hg
            subst hg
            obtain ⟨v, st', h1, rfl, h2, h3⟩ := vcOp_sound hT h
            refine ⟨v, j, ?_, vcT_sound hdr htf' hr h3⟩
            unfold Yt
            rw [hb]
            exact ⟨rfl, fun s hs => ⟨hd0, .inl ⟨rfl, alsoT_sound hT h2 s hs⟩⟩⟩
          · rename_i jj want hg
            simp only at hg
            subst hg
            split at h
            · rename_i oj hj
              split at h
              · rename_i d hdj
                split at h
                · rename_i b hbb
                  obtain ⟨hdN, h1, h2⟩ := h
                  by_cases e : b = want
                  · obtain ⟨v, st', h3, rfl, h5, h6⟩ := vcOp_sound hT (h1 e)
                    refine ⟨v, j, ?_, vcT_sound hdr htf' hr h6⟩
                    unfold Yt
                    rw [hb]
                    exact ⟨rfl, fun s hs => ⟨hd0, .inl ⟨⟨oj, d, b, by simpa using hj, hdj, hdN, hbb, by simp [e]⟩, alsoT_sound hT h5 s hs⟩⟩⟩
                  · refine ⟨.junk, j, ?_, vcT_sound hdr htf' hr (h2 e)⟩
                    unfold Yt
                    rw [hb]
                    exact ⟨rfl, fun s hs => ⟨hd0, .inr ⟨⟨oj, d, b, by simpa using hj, hdj, hdN, hbb, by simp [e]⟩, rfl⟩⟩⟩
                · exact h.elim
              · exact h.elim
            · exact h.elim

/-- an open region: of the first m operations the marked ones turn own things, from stage to stage; the others come after all ahead of them -/
theorem vc_draw3 {env : Env} {st : List AO} {Q : Post} {id : Nat} {ops : Array Oper} (m : Nat) (tf : List Bool) (Ss : List (List AO)) (hB : stageB N m tf ops = true)
    (h : vcT P T N (ops.toList.take m) (st :: Ss) tf (ops.toList.take m) env (st :: Ss) fun env st => vcL P T N ops.toList (ops.toList.drop m) env st (Q .normal)) : WP P N (.region id ops true) env st Q := by
  obtain ⟨l⟩ := ops
  have hd : dstOk N l := fun o ho d hdo => by
    simp only [stageB, splitB, Bool.and_eq_true, Array.all_eq_true_iff_forall_mem] at hB
    have := hB.1.1.1.1.1 o (by simpa using ho)
    rw [hdo] at this
    simpa using this
  refine WP_draw3 m tf (st :: Ss) hT.mixed hB rfl ?_
  have := vcT_sound (N := N) hT (tf0 := tf) (k := 0) (j := 0) (Ss := st :: Ss) (fun o ho => hd o (List.mem_of_mem_take ho)) rfl rfl h
  refine WT_mono (fun env j hk s hs => ?_) this
  exact vcG_sound hT (fun o ho => hd o (List.mem_of_mem_drop ho)) (hk s hs)
end
end Go.Proofs.Nw.K
end
section
open Go Go.RowKit Go.Proofs
set_option linter.unusedVariables false
set_option linter.unusedSimpArgs false
namespace Go.Proofs.Nw.K

theorem props_impl (l : List Pair) (hl : l.length ≤ 4194304) : Impl Try.prog 49 [.one (dPairs l)] [.one (dPairs (propsOf l))] :=
  props_impl0 l hl fun p cap fv w => AnyF.slices_SortFunc_none Try.sortProp p cap fv w

def packOf (p : Pom) : Str := orOf [p.packaging, jar]
def nameTo (l : List Pom) (i : Nat) : Str := match l.take i with | [] => emp | x :: _ => x.name
def packTo (l : List Pom) (i : Nat) : Str := match l.take i with | [] => jar | x :: _ => packOf x
def propsIn (l : List Pom) : List Pair := l.flatMap Pom.props
def managedIn (l : List Pom) : List Dep := l.flatMap Pom.managed
def depsIn (l : List Pom) : List Dep := l.flatMap Pom.deps

def merged (c : Coord) (l : List Pom) : Pom := ⟨zCoord, c.group, nameTo l l.length, c.version, packTo l l.length, propsOf (propsIn l), firstOf (managedIn l), firstOf (depsIn l)⟩
def mergeBig (p : Pom) : Bool := decide ((p.props.length : Int) > 100) || decide ((p.managed.length : Int) > 200) || decide ((p.deps.length : Int) > 200)
def mergeOf (c : Coord) (l : List Pom) : Pom := if mergeBig (merged c l) then zPom else merged c l
def mergeErr (c : Coord) (l : List Pom) : Int := if mergeBig (merged c l) then 3 else 0

theorem flat_succ {α : Type} (f : Pom → List α) (l : List Pom) (i : Nat) (h : i < l.length) : (l.take (i + 1)).flatMap f = (l.take i).flatMap f ++ f l[i] := by
  rw [List.take_succ_eq_append_getElem h, List.flatMap_append]; simp only [List.flatMap_cons, List.flatMap_nil, List.append_nil]
theorem flat_take {α : Type} (f : Pom → List α) (l : List Pom) (i : Nat) : ((l.take i).flatMap f).length ≤ (l.flatMap f).length := by
  have : l.flatMap f = (l.take i).flatMap f ++ (l.drop i).flatMap f := by rw [← List.flatMap_append, List.take_append_drop]
  rw [this]; simp

def mBox (c : Coord) (l : List Pom) (j i : Nat) : AO := .box 55 [.d (dstr emp), .d (dstr emp), .d (dstr emp), .d (dstr c.group), .d (dstr (nameTo l j)), .d (dstr c.version), .d (dstr (packTo l j)), .h 3 i 0 (propsIn (l.take i)).length, .h 4 i 0 (managedIn (l.take i)).length, .h 5 i 0 (depsIn (l.take i)).length]
def mObs (c : Coord) (l : List Pom) (j i : Nat) : List AO := [.box 23 ((encCoord c).map AV.d), .box 55 [.d (dstr emp), .d (dstr emp), .d (dstr emp), .d (dstr emp), .d (dstr emp), .d (dstr emp), .d (dstr emp), .nils, .nils, .nils], mBox c l j i,
  .row i 66 2 ((propsIn (l.take i)).map encPair), .row i 35 8 ((managedIn (l.take i)).map encDep), .row i 35 8 ((depsIn (l.take i)).map encDep)]

theorem nameTo_one (l : List Pom) (h : 0 < l.length) : nameTo l 1 = l[0].name ∧ packTo l 1 = packOf l[0] := by
  cases l with
  | nil => simp at h
  | cons x r => exact ⟨rfl, rfl⟩
theorem nameTo_more (l : List Pom) (i : Nat) (h : i < l.length) (h0 : i ≠ 0) : nameTo l (i + 1) = nameTo l i ∧ packTo l (i + 1) = packTo l i := by
  cases l with
  | nil => simp at h
  | cons x r =>
    cases i with
    | zero => exact absurd rfl h0
    | succ i => exact ⟨rfl, rfl⟩

theorem Merge_impl (c : Coord) (l : List Pom) (hl : l.length ≤ 4194304) (hP : (propsIn l).length ≤ 4194304) (hM : (managedIn l).length ≤ 4194304) (hMw : ∀ d ∈ managedIn l, d.wt ≤ 4194304) (hD : (depsIn l).length ≤ 4194304) (hDw : ∀ d ∈ depsIn l, d.wt ≤ 4194304) :
    Impl Try.prog 26 [.agg (encCoord c), .one (dPoms l)] [.agg (encPom (mergeOf c l)), .one (dint (mergeErr c l))] := by
  refine impl_vc tabOk Try.func26 rfl rfl (by exact Nat.le_of_ble_eq_true rfl) ?_
  refine WP_seq (vc_sound tabOk (by kernel_rfl) ?_)
  refine WP_seq (vc_sound tabOk (by kernel_rfl) ?_)
  refine And.intro rfl (And.intro (Nat.le_of_ble_eq_true rfl) ?_)
  refine WP_seq_cut (α := Unit) (fun _ => ofL [(4, .ptr 1 0), (5, .int 0), (6, .ptr 2 0)]) (fun _ => mObs c l l.length l.length) (WP_seq (vc_sound tabOk (by kernel_rfl) ?_)) (fun _ => ?_)
  · refine WP_block (WP_loop (α := {i : Nat // i ≤ l.length}) (fun i => ofL [(4, .ptr 1 0), (5, .int 0), (6, .ptr 2 0), (14, .d (dPoms l)), (15, .int (l.length : Int)), (16, .int (i.1 : Int))]) (fun i => mObs c l i.1 i.1) (fun i => l.length - i.1) ⟨0, Nat.zero_le _⟩ ?_ ?_)
    · exact (Sub.nilsCell (s := 2) (i := 7) 66 2 rfl rfl).trans ((Sub.nilsCell (s := 2) (i := 8) 35 8 rfl rfl).trans ((Sub.nilsCell (s := 2) (i := 9) 35 8 rfl rfl).trans
        (Sub.ofL _ _ (Nat.zero_le _) ⟨rfl, rfl, rfl, rfl, rfl, rfl, rfl, rfl, rfl, rfl, rfl, rfl, trivial⟩ rfl rfl)))
    rintro ⟨i, hi⟩
    have hp1 := flat_take Pom.props l i
    refine WP_seq (vc_sound tabOk (by kernel_rfl) ?_)
    refine And.intro rfl ?_
    refine WP_seq (WP_cond rfl (fun h => WP_skip ?_) (fun h => WP_exit ?_))
    rotate_left
    · have h : decide ((i : Int) < (l.length : Int)) = false := h
      obtain rfl : i = l.length := by have := of_decide_eq_false h; omega
      exact ⟨(), Sub.ofL _ _ (Nat.zero_le _) ⟨rfl, rfl, rfl, rfl, rfl, rfl, trivial⟩ rfl rfl⟩
    have h : decide ((i : Int) < (l.length : Int)) = true := h
    have hlt : i < l.length := by have := of_decide_eq_true h; omega
    have hg : l.getD ((i : Int)).toNat zPom = l[i] := by simp [List.getD, hlt]
    have eP := flat_succ Pom.props l i hlt
    have eM := flat_succ Pom.managed l i hlt
    have eD := flat_succ Pom.deps l i hlt
    have bP := flat_take Pom.props l (i + 1)
    have bM := flat_take Pom.managed l (i + 1)
    have bD := flat_take Pom.deps l (i + 1)
    rw [eP, List.length_append] at bP
    rw [eM, List.length_append] at bM
    rw [eD, List.length_append] at bD
    refine WP_seq (WP_block (WP_seq (vc_sound tabOk (by kernel_rfl) ?_)))
    refine And.intro rfl (And.intro (Int.natCast_nonneg _) (And.intro (by show (i : Int) < (l.length : Int); omega) ?_))
    refine And.intro (Nat.le_of_ble_eq_true rfl) ?_
    refine And.intro rfl (And.intro (Nat.le_of_ble_eq_true rfl) ?_)
    generalize hx : l.getD ((i : Int)).toNat zPom = x at *
    subst hg
    refine WP_sub (Sub.ofL [(4, .ptr 1 0), (5, .int 0), (6, .ptr 2 0), (7, .int (i : Int)), (8, .ptr 6 0), (14, .d (dPoms l)), (15, .int (l.length : Int)), (16, .int (i : Int))] (mObs c l i i ++ [AO.box 55 ((encPom l[i]).map AV.d)]) (Nat.zero_le _) ⟨rfl, rfl, rfl, rfl, rfl, rfl, rfl, rfl, rfl, rfl, rfl, rfl, rfl, rfl, rfl, rfl, trivial⟩ ?_ rfl) ?_
    · rfl
    refine WP_seq_cut (α := Unit) (fun _ => ofL [(4, .ptr 1 0), (5, .int 0), (6, .ptr 2 0), (8, .ptr 6 0), (14, .d (dPoms l)), (15, .int (l.length : Int)), (16, .int (i : Int))]) (fun _ => mObs c l (i + 1) i ++ [AO.box 55 ((encPom l[i]).map AV.d)]) (WP_seq (vc_sound tabOk (by kernel_rfl) ?_)) (fun _ => ?_)
    · refine And.intro rfl ?_
      refine WP_cond rfl (fun h0 => ?_) (fun h0 => vc_sound tabOk (by kernel_rfl) ?_)
      · have h0 : ((i : Int) == 0) = true := h0
        obtain rfl : i = 0 := by simpa using h0
        obtain ⟨n1, n2⟩ := nameTo_one l hlt
        refine vc_draw2 tabOk 7 (by kernel_rfl) ?_
        refine And.intro rfl (And.intro rfl (And.intro rfl (And.intro rfl ?_)))
        refine And.intro rfl (And.intro (by decide) (And.intro (by decide) (And.intro rfl (Or.inl (And.intro rfl ?_)))))
        refine And.intro rfl (Exists.intro _ (Exists.intro _ (And.intro (Or_impl [l[0].packaging, jar] (Nat.le_of_ble_eq_true rfl)) (And.intro (And.intro (DLe.tl emp rfl) trivial) (And.intro rfl ?_)))))
        refine And.intro rfl ?_
        refine And.intro rfl (And.intro (Nat.le_of_ble_eq_true rfl) ?_)
        refine And.intro rfl (And.intro (Nat.le_of_ble_eq_true rfl) ?_)
        refine ⟨(), Sub.ofL _ _ (Nat.zero_le _) ⟨rfl, rfl, rfl, rfl, rfl, rfl, rfl, rfl, rfl, rfl, rfl, rfl, rfl, rfl, trivial⟩ ?_ rfl⟩
        simp only [mObs, mBox, n1, n2, Nat.zero_add]; rfl
      · have h0 : ((i : Int) == 0) = false := h0
        obtain ⟨n1, n2⟩ := nameTo_more l i hlt (fun e => by subst e; simp at h0)
        refine ⟨(), Sub.ofL _ _ (Nat.zero_le _) ⟨rfl, rfl, rfl, rfl, rfl, rfl, rfl, rfl, rfl, rfl, rfl, rfl, rfl, rfl, trivial⟩ ?_ rfl⟩
        simp only [mObs, mBox, n1, n2]; rfl
    refine vc_draw3 tabOk 16 [false, false, false, false, true, false, false, false, false, true, false, false, false, false, true, false]
      [(mObs c l (i + 1) i ++ [AO.box 55 ((encPom l[i]).map AV.d)]).set 3 (.row (i + 1) 66 2 (((propsIn (l.take i)).map encPair).take (propsIn (l.take i)).length ++ l[i].props.map encPair)),
       ((mObs c l (i + 1) i ++ [AO.box 55 ((encPom l[i]).map AV.d)]).set 3 (.row (i + 1) 66 2 (((propsIn (l.take i)).map encPair).take (propsIn (l.take i)).length ++ l[i].props.map encPair))).set 4 (.row (i + 1) 35 8 (((managedIn (l.take i)).map encDep).take (managedIn (l.take i)).length ++ l[i].managed.map encDep)),
       (((mObs c l (i + 1) i ++ [AO.box 55 ((encPom l[i]).map AV.d)]).set 3 (.row (i + 1) 66 2 (((propsIn (l.take i)).map encPair).take (propsIn (l.take i)).length ++ l[i].props.map encPair))).set 4 (.row (i + 1) 35 8 (((managedIn (l.take i)).map encDep).take (managedIn (l.take i)).length ++ l[i].managed.map encDep))).set 5 (.row (i + 1) 35 8 (((depsIn (l.take i)).map encDep).take (depsIn (l.take i)).length ++ l[i].deps.map encDep))] (by kernel_rfl) ?_
    refine And.intro rfl (And.intro (And.intro (And.intro rfl rfl) (And.intro (And.intro rfl rfl) (And.intro (And.intro rfl rfl) (And.intro (And.intro rfl rfl) trivial)))) ?_)
    refine And.intro rfl (And.intro (And.intro (And.intro rfl rfl) (And.intro (And.intro rfl rfl) (And.intro (And.intro rfl rfl) (And.intro (And.intro rfl rfl) trivial)))) ?_)
    refine And.intro rfl (And.intro (And.intro (And.intro rfl rfl) (And.intro (And.intro rfl rfl) (And.intro (And.intro rfl rfl) (And.intro (And.intro rfl rfl) trivial)))) ?_)
    refine And.intro rfl (And.intro (And.intro (And.intro rfl rfl) (And.intro (And.intro rfl rfl) (And.intro (And.intro rfl rfl) (And.intro (And.intro rfl rfl) trivial)))) ?_)
    refine And.intro rfl (And.intro ⟨rfl, rfl, rfl, rfl⟩ (And.intro rfl (And.intro ?_ (And.intro ?_ (And.intro rfl ?_)))))
    · simp only [List.length_map]; simp only [propsIn] at *; omega
    · simp only [List.length_map, maxLen]; simp only [propsIn] at *; omega
    refine And.intro rfl (And.intro (And.intro (And.intro rfl rfl) (And.intro (And.intro rfl rfl) (And.intro (And.intro rfl rfl) (And.intro (And.intro rfl rfl) trivial)))) ?_)
    refine And.intro rfl (And.intro (And.intro (And.intro rfl rfl) (And.intro (And.intro rfl rfl) (And.intro (And.intro rfl rfl) (And.intro (And.intro rfl rfl) trivial)))) ?_)
    refine And.intro rfl (And.intro (And.intro (And.intro rfl rfl) (And.intro (And.intro rfl rfl) (And.intro (And.intro rfl rfl) (And.intro (And.intro rfl rfl) trivial)))) ?_)
    refine And.intro rfl (And.intro (And.intro (And.intro rfl rfl) (And.intro (And.intro rfl rfl) (And.intro (And.intro rfl rfl) (And.intro (And.intro rfl rfl) trivial)))) ?_)
    refine And.intro rfl (And.intro ⟨rfl, rfl, rfl, rfl⟩ (And.intro rfl (And.intro ?_ (And.intro ?_ (And.intro rfl ?_)))))
    · simp only [List.length_map]; simp only [managedIn] at *; omega
    · simp only [List.length_map, maxLen]; simp only [managedIn] at *; omega
    refine And.intro rfl (And.intro (And.intro (And.intro rfl rfl) (And.intro (And.intro rfl rfl) (And.intro (And.intro rfl rfl) (And.intro (And.intro rfl rfl) trivial)))) ?_)
    refine And.intro rfl (And.intro (And.intro (And.intro rfl rfl) (And.intro (And.intro rfl rfl) (And.intro (And.intro rfl rfl) (And.intro (And.intro rfl rfl) trivial)))) ?_)
    refine And.intro rfl (And.intro (And.intro (And.intro rfl rfl) (And.intro (And.intro rfl rfl) (And.intro (And.intro rfl rfl) (And.intro (And.intro rfl rfl) trivial)))) ?_)
    refine And.intro rfl (And.intro (And.intro (And.intro rfl rfl) (And.intro (And.intro rfl rfl) (And.intro (And.intro rfl rfl) (And.intro (And.intro rfl rfl) trivial)))) ?_)
    refine And.intro rfl (And.intro ⟨rfl, rfl, rfl, rfl⟩ (And.intro rfl (And.intro ?_ (And.intro ?_ (And.intro rfl ?_)))))
    · simp only [List.length_map]; simp only [depsIn] at *; omega
    · simp only [List.length_map, maxLen]; simp only [depsIn] at *; omega
    refine And.intro rfl (And.intro (And.intro (And.intro rfl rfl) (And.intro (And.intro rfl rfl) (And.intro (And.intro rfl rfl) (And.intro (And.intro rfl rfl) trivial)))) ?_)
    refine Or.inl ?_
    refine And.intro ⟨_, _, _, rfl⟩ (And.intro (Nat.le_of_ble_eq_true rfl) ?_)
    refine Or.inl ?_
    refine And.intro ⟨_, _, _, rfl⟩ (And.intro (Nat.le_of_ble_eq_true rfl) ?_)
    refine Or.inl ?_
    refine And.intro ⟨_, _, _, rfl⟩ (And.intro (Nat.le_of_ble_eq_true rfl) ?_)
    refine vc_sound tabOk (by kernel_rfl) ?_
    refine And.intro rfl (And.intro ⟨by omega, by show (i : Int) + 1 ≤ _; omega⟩ ?_)
    refine ⟨⟨i + 1, hlt⟩, by show l.length - (i + 1) < l.length - i; omega, Sub.ofL _ _ (Nat.zero_le _) ⟨rfl, rfl, rfl, rfl, rfl, rfl, rfl, rfl, rfl, rfl, rfl, rfl, trivial⟩ ?_ rfl⟩
    have t1 : ((propsIn (l.take i)).map encPair).take (propsIn (l.take i)).length = (propsIn (l.take i)).map encPair := List.take_of_length_le (by rw [List.length_map]; exact Nat.le_refl _)
    have t2 : ((managedIn (l.take i)).map encDep).take (managedIn (l.take i)).length = (managedIn (l.take i)).map encDep := List.take_of_length_le (by rw [List.length_map]; exact Nat.le_refl _)
    have t3 : ((depsIn (l.take i)).map encDep).take (depsIn (l.take i)).length = (depsIn (l.take i)).map encDep := List.take_of_length_le (by rw [List.length_map]; exact Nat.le_refl _)
    have q1 : propsIn (l.take (i + 1)) = propsIn (l.take i) ++ l[i].props := eP
    have q2 : managedIn (l.take (i + 1)) = managedIn (l.take i) ++ l[i].managed := eM
    have q3 : depsIn (l.take (i + 1)) = depsIn (l.take i) ++ l[i].deps := eD
    simp only [mObs, mBox, q1, q2, q3, List.map_append, List.length_append]
    simp only [t1, t2, t3, List.length_map]
    rfl
  · have tl : l.take l.length = l := List.take_length
    have k1 := propsOf_length (propsIn l)
    have k2 := firstOf_length (managedIn l)
    have k3 := firstOf_length (depsIn l)
    have S0 : mObs c l l.length l.length = [.box 23 ((encCoord c).map AV.d), .box 55 [.d (dstr emp), .d (dstr emp), .d (dstr emp), .d (dstr emp), .d (dstr emp), .d (dstr emp), .d (dstr emp), .nils, .nils, .nils],
      .box 55 [.d (dstr emp), .d (dstr emp), .d (dstr emp), .d (dstr c.group), .d (dstr (nameTo l l.length)), .d (dstr c.version), .d (dstr (packTo l l.length)), .h 3 l.length 0 (propsIn l).length, .h 4 l.length 0 (managedIn l).length, .h 5 l.length 0 (depsIn l).length],
      .row l.length 66 2 ((propsIn l).map encPair), .row l.length 35 8 ((managedIn l).map encDep), .row l.length 35 8 ((depsIn l).map encDep)] := by
      simp only [mObs, mBox, tl]
    have hm : (⟨zCoord, c.group, nameTo l l.length, c.version, packTo l l.length, propsOf (propsIn l), firstOf (managedIn l), firstOf (depsIn l)⟩ : Pom) = merged c l := rfl
    rw [S0]
    generalize nameTo l l.length = nm, packTo l l.length = pk at *
    refine WP_seq (vc_draw3 tabOk 10 [false, false, true, false, false, true, false, false, true, false]
      [[.box 23 ((encCoord c).map AV.d), .box 55 [.d (dstr emp), .d (dstr emp), .d (dstr emp), .d (dstr emp), .d (dstr emp), .d (dstr emp), .d (dstr emp), .nils, .nils, .nils], .box 55 [.d (dstr emp), .d (dstr emp), .d (dstr emp), .d (dstr c.group), .d (dstr nm), .d (dstr c.version), .d (dstr pk), .h 3 l.length 0 (propsIn l).length, .h 4 l.length 0 (managedIn l).length, .h 5 l.length 0 (depsIn l).length], .gone, .row l.length 35 8 ((managedIn l).map encDep), .row l.length 35 8 ((depsIn l).map encDep)],
       [.box 23 ((encCoord c).map AV.d), .box 55 [.d (dstr emp), .d (dstr emp), .d (dstr emp), .d (dstr emp), .d (dstr emp), .d (dstr emp), .d (dstr emp), .nils, .nils, .nils], .box 55 [.d (dstr emp), .d (dstr emp), .d (dstr emp), .d (dstr c.group), .d (dstr nm), .d (dstr c.version), .d (dstr pk), .h 3 l.length 0 (propsIn l).length, .h 4 l.length 0 (managedIn l).length, .h 5 l.length 0 (depsIn l).length], .gone, .gone, .row l.length 35 8 ((depsIn l).map encDep)],
       [.box 23 ((encCoord c).map AV.d), .box 55 [.d (dstr emp), .d (dstr emp), .d (dstr emp), .d (dstr emp), .d (dstr emp), .d (dstr emp), .d (dstr emp), .nils, .nils, .nils], .box 55 [.d (dstr emp), .d (dstr emp), .d (dstr emp), .d (dstr c.group), .d (dstr nm), .d (dstr c.version), .d (dstr pk), .h 3 l.length 0 (propsIn l).length, .h 4 l.length 0 (managedIn l).length, .h 5 l.length 0 (depsIn l).length], .gone, .gone, .gone]] (by kernel_rfl) ?_)
    refine And.intro rfl (And.intro (And.intro (And.intro rfl rfl) (And.intro (And.intro rfl rfl) (And.intro (And.intro rfl rfl) (And.intro (And.intro rfl rfl) trivial)))) ?_)
    refine And.intro rfl (And.intro (And.intro (And.intro rfl rfl) (And.intro (And.intro rfl rfl) (And.intro (And.intro rfl rfl) (And.intro (And.intro rfl rfl) trivial)))) ?_)
    refine And.intro rfl (Or.inr (Or.inl (And.intro ⟨rfl, rfl, (List.length_map _).symm⟩ (Exists.intro _ (Exists.intro _ (And.intro (props_impl (propsIn l) hP) (And.intro (And.intro (DLe.tl zPair rfl) trivial) (And.intro rfl ?_))))))))
    refine And.intro rfl (And.intro (And.intro (And.intro rfl rfl) (And.intro (And.intro rfl rfl) (And.intro (And.intro rfl rfl) (And.intro (And.intro rfl rfl) trivial)))) ?_)
    refine And.intro rfl (And.intro (And.intro (And.intro rfl rfl) (And.intro (And.intro rfl rfl) (And.intro (And.intro rfl rfl) (And.intro (And.intro rfl rfl) trivial)))) ?_)
    refine And.intro rfl (Or.inr (Or.inl (And.intro ⟨rfl, rfl, (List.length_map _).symm⟩ (Exists.intro _ (Exists.intro _ (And.intro (First_impl (managedIn l) hM hMw) (And.intro (And.intro (DLe.tl zDep rfl) trivial) (And.intro rfl ?_))))))))
    refine And.intro rfl (And.intro (And.intro (And.intro rfl rfl) (And.intro (And.intro rfl rfl) (And.intro (And.intro rfl rfl) (And.intro (And.intro rfl rfl) trivial)))) ?_)
    refine And.intro rfl (And.intro (And.intro (And.intro rfl rfl) (And.intro (And.intro rfl rfl) (And.intro (And.intro rfl rfl) (And.intro (And.intro rfl rfl) trivial)))) ?_)
    refine And.intro rfl (Or.inr (Or.inl (And.intro ⟨rfl, rfl, (List.length_map _).symm⟩ (Exists.intro _ (Exists.intro _ (And.intro (First_impl (depsIn l) hD hDw) (And.intro (And.intro (DLe.tl zDep rfl) trivial) (And.intro rfl ?_))))))))
    refine And.intro rfl (And.intro (And.intro (And.intro rfl rfl) (And.intro (And.intro rfl rfl) (And.intro (And.intro rfl rfl) (And.intro (And.intro rfl rfl) trivial)))) ?_)
    refine And.intro rfl (And.intro (Nat.le_of_ble_eq_true rfl) ?_)
    refine And.intro rfl (And.intro (Nat.le_of_ble_eq_true rfl) ?_)
    refine And.intro rfl (And.intro (Nat.le_of_ble_eq_true rfl) ?_)
    refine WP_sub (Sub.ofL [(4, .ptr 1 0), (5, .int 0), (6, .ptr 2 0)] [.box 23 ((encCoord c).map AV.d), .box 55 [.d (dstr emp), .d (dstr emp), .d (dstr emp), .d (dstr emp), .d (dstr emp), .d (dstr emp), .d (dstr emp), .nils, .nils, .nils], .box 55 ((encPom (⟨zCoord, c.group, nm, c.version, pk, propsOf (propsIn l), firstOf (managedIn l), firstOf (depsIn l)⟩ : Pom)).map AV.d)] (Nat.zero_le _) ⟨rfl, rfl, rfl, rfl, rfl, rfl, trivial⟩ rfl rfl) ?_
    refine vc_sound tabOk (by kernel_rfl) ?_
    refine And.intro rfl ?_
    have hbg : mergeBig (merged c l) = (decide (((propsOf (propsIn l)).length : Int) > 100) || decide (((firstOf (managedIn l)).length : Int) > 200) || decide (((firstOf (depsIn l)).length : Int) > 200)) := rfl
    cases g1 : decide (((propsOf (propsIn l)).length : Int) > 100) with
    | true =>
      have hbig : mergeBig (merged c l) = true := by rw [hbg, g1]; rfl
      apply And.intro
      · exact ltb rfl
      refine And.intro (fun h => by cases h) (fun _ => ?_)
      apply And.intro
      · exact ltb rfl
      refine And.intro (fun h => by cases h) (fun _ => ?_)
      apply And.intro
      · exact ltb rfl
      refine And.intro (fun h => by cases h) (fun _ => ?_)
      apply And.intro
      · exact ltb rfl
      refine And.intro (fun h => by cases h) (fun _ => ?_)
      refine And.intro (fun _ => ?_) (fun h => by cases h)
      apply And.intro
      · exact ltb rfl
      refine And.intro (fun h => by cases h) (fun _ => ?_)
      apply And.intro
      · exact ltb rfl
      refine And.intro (fun h => by cases h) (fun _ => ?_)
      apply And.intro
      · exact ltb rfl
      refine And.intro (fun h => by cases h) (fun _ => ?_)
      apply And.intro
      · exact ltb rfl
      refine And.intro (fun h => by cases h) (fun _ => ?_)
      refine And.intro (fun _ => ?_) (fun h => by cases h)
      refine And.intro (fun _ => ?_) (fun h => by cases h)
      refine And.intro rfl (And.intro (Nat.le_of_ble_eq_true rfl) ?_)
      refine And.intro rfl (And.intro (DLe.agg ?_) (And.intro (DLe.of_eq ?_) trivial))
      · rw [mergeOf, if_pos hbig]
        exact ⟨DLe.refl _, DLe.refl _, DLe.refl _, DLe.refl _, DLe.refl _, DLe.refl _, DLe.refl _, DLe.nils _, DLe.nils _, DLe.nils _, trivial⟩
      · rw [mergeErr, if_pos hbig]
    | false =>
      apply And.intro
      · exact ltb rfl
      refine And.intro (fun _ => ?_) (fun h => absurd rfl h)
      apply And.intro
      · exact ltb rfl
      refine And.intro (fun _ => ?_) (fun h => absurd rfl h)
      apply And.intro
      · exact ltb rfl
      refine And.intro (fun _ => ?_) (fun h => absurd rfl h)
      apply And.intro
      · exact ltb rfl
      refine And.intro (fun _ => And.intro rfl ?_) (fun h => absurd rfl h)
      refine And.intro (fun h => by cases h) (fun _ => ?_)
      cases g2 : decide (((firstOf (managedIn l)).length : Int) > 200) with
      | true =>
        have hbig : mergeBig (merged c l) = true := by rw [hbg, g1, g2]; rfl
        apply And.intro
        · exact ltb rfl
        refine And.intro (fun h => by cases h) (fun _ => ?_)
        apply And.intro
        · exact ltb rfl
        refine And.intro (fun h => by cases h) (fun _ => ?_)
        apply And.intro
        · exact ltb rfl
        refine And.intro (fun h => by cases h) (fun _ => ?_)
        apply And.intro
        · exact ltb rfl
        refine And.intro (fun h => by cases h) (fun _ => ?_)
        refine And.intro (fun _ => ?_) (fun h => by cases h)
        refine And.intro (fun _ => ?_) (fun h => by cases h)
        refine And.intro rfl (And.intro (Nat.le_of_ble_eq_true rfl) ?_)
        refine And.intro rfl (And.intro (DLe.agg ?_) (And.intro (DLe.of_eq ?_) trivial))
        · rw [mergeOf, if_pos hbig]
          exact ⟨DLe.refl _, DLe.refl _, DLe.refl _, DLe.refl _, DLe.refl _, DLe.refl _, DLe.refl _, DLe.nils _, DLe.nils _, DLe.nils _, trivial⟩
        · rw [mergeErr, if_pos hbig]
      | false =>
        apply And.intro
        · exact ltb rfl
        refine And.intro (fun _ => ?_) (fun h => absurd rfl h)
        apply And.intro
        · exact ltb rfl
        refine And.intro (fun _ => ?_) (fun h => absurd rfl h)
        apply And.intro
        · exact ltb rfl
        refine And.intro (fun _ => ?_) (fun h => absurd rfl h)
        apply And.intro
        · exact ltb rfl
        refine And.intro (fun _ => And.intro rfl ?_) (fun h => absurd rfl h)
        refine And.intro (fun h => by cases h) (fun _ => ?_)
        cases g3 : decide (((firstOf (depsIn l)).length : Int) > 200) with
        | true =>
          have hbig : mergeBig (merged c l) = true := by rw [hbg, g1, g2, g3]; rfl
          refine And.intro (fun _ => ?_) (fun h => by cases h)
          refine And.intro rfl (And.intro (Nat.le_of_ble_eq_true rfl) ?_)
          refine And.intro rfl (And.intro (DLe.agg ?_) (And.intro (DLe.of_eq ?_) trivial))
          · rw [mergeOf, if_pos hbig]
            exact ⟨DLe.refl _, DLe.refl _, DLe.refl _, DLe.refl _, DLe.refl _, DLe.refl _, DLe.refl _, DLe.nils _, DLe.nils _, DLe.nils _, trivial⟩
          · rw [mergeErr, if_pos hbig]
        | false =>
          have hbig : ¬ mergeBig (merged c l) = true := by rw [hbg, g1, g2, g3]; decide
          refine And.intro (fun h => by cases h) (fun _ => ?_)
          refine And.intro rfl (And.intro rfl (And.intro (Nat.le_of_ble_eq_true rfl) ?_))
          refine And.intro rfl (And.intro (DLe.of_eq ?_) (And.intro (DLe.of_eq ?_) trivial))
          · rw [mergeOf, if_neg hbig, ← hm]; rfl
          · rw [mergeErr, if_neg hbig]
end Go.Proofs.Nw.K
end
section
open Go Go.RowKit Go.Proofs
set_option linter.unusedVariables false
set_option linter.unusedSimpArgs false
namespace Go.Proofs.Nw.K

def awC : Coord := ⟨⟨#[103]⟩, emp, ⟨#[49]⟩⟩
def awD : Dep := ⟨emp, ⟨#[98]⟩, emp, emp, emp, emp, false, []⟩
def awP : Pom := ⟨zCoord, emp, ⟨#[97]⟩, emp, emp, [], [], [awD]⟩
def awK : Dep := ⟨emp, emp, emp, emp, emp, sImport, false, []⟩
theorem awMerged : merged awC [awP] = ⟨zCoord, ⟨#[103]⟩, ⟨#[97]⟩, ⟨#[49]⟩, jar, [], [], [awD]⟩ := by
  have h1 : propsOf (propsIn [awP]) = [] := sortP_nil
  have h2 : packTo [awP] 1 = jar := by kernel_rfl
  have h3 : firstOf (depsIn [awP]) = [awD] := by kernel_rfl
  unfold merged
  rw [h1, show ([awP] : List Pom).length = 1 from rfl, h2, h3]
  rfl
theorem awMerge : mergeOf awC [awP] = ⟨zCoord, ⟨#[103]⟩, ⟨#[97]⟩, ⟨#[49]⟩, jar, [], [], [awD]⟩ ∧ mergeErr awC [awP] = 0 := by
  have hb : ¬ mergeBig (merged awC [awP]) = true := by rw [awMerged]; decide
  rw [mergeOf, mergeErr, if_neg hb, if_neg hb]
  exact ⟨awMerged, rfl⟩
theorem awKey : (ikeyOf awK).toList = (⟨#[58, 58, 106, 97, 114, 58, 58, 105, 109, 112, 111, 114, 116]⟩ : Str).toList := by decide +kernel

theorem awake25_impl : Impl Try.prog 25 [] [.one (dbool true)] := by
  have hM := Merge_impl awC [awP] (by decide) (by decide) (by decide) (by simp [managedIn, awP]) (by decide) (by intro d hd; simp [depsIn, awP] at hd; subst hd; decide)
  rw [awMerge.1, awMerge.2] at hM
  refine impl_vc tabOk Try.func25 rfl rfl (by exact Nat.le_of_ble_eq_true rfl) ?_
  refine WP_seq (vc_sound tabOk (by kernel_rfl) ?_)
  refine WP_seq (vc_sound tabOk (by kernel_rfl) ?_)
  refine And.intro rfl (And.intro (by decide) (And.intro (by decide) (And.intro rfl (Or.inl ?_))))
  refine And.intro rfl (And.intro (by decide) (And.intro (by decide) (And.intro rfl (Or.inl ?_))))
  refine And.intro rfl (Exists.intro _ (Exists.intro _ (And.intro hM (And.intro ?_ ?_))))
  · refine And.intro (DLe.refl _) (And.intro (DLe.tlr _ ?_) trivial)
    refine And.intro ?_ trivial
    refine ⟨DLe.refl _, DLe.refl _, DLe.refl _, DLe.refl _, DLe.refl _, DLe.refl _, DLe.refl _, DLe.nils _, DLe.nils _, DLe.tlr _ ?_, trivial⟩
    refine And.intro ?_ trivial
    exact ⟨DLe.refl _, DLe.refl _, DLe.refl _, DLe.refl _, DLe.refl _, DLe.refl _, DLe.refl _, DLe.nils _, trivial⟩
  refine And.intro rfl (And.intro (Nat.le_of_ble_eq_true rfl) ?_)
  refine vc_sound tabOk (by kernel_rfl) ?_
  refine And.intro rfl ?_
  have run3 : True := trivial
  apply And.intro
  · exact ltb rfl
  refine And.intro (fun _ => ?_) (fun h => absurd rfl h)
  apply And.intro
  · exact ltb rfl
  refine And.intro (fun _ => ?_) (fun h => absurd rfl h)
  apply And.intro
  · exact ltb rfl
  refine And.intro (fun _ => ?_) (fun h => absurd rfl h)
  refine And.intro (fun _ => ?_) (fun h => by cases h)
  have q1 : ((⟨#[97]⟩ : Str).toList == (⟨#[97]⟩ : Str).toList) = true := self_str _
  apply And.intro
  · exact ltb rfl
  refine And.intro (fun _ => ?_) (fun h => absurd q1 h)
  apply And.intro
  · exact ltb rfl
  refine And.intro (fun _ => ?_) (fun h => absurd q1 h)
  apply And.intro
  · exact ltb rfl
  refine And.intro (fun _ => ?_) (fun h => absurd q1 h)
  refine And.intro (fun _ => ?_) (fun h => absurd (q1.symm.trans h) (by decide))
  have q2 : (jar.toList == jar.toList) = true := self_str _
  apply And.intro
  · exact ltb rfl
  refine And.intro (fun _ => ?_) (fun h => absurd q2 h)
  apply And.intro
  · exact ltb rfl
  refine And.intro (fun _ => ?_) (fun h => absurd q2 h)
  apply And.intro
  · exact ltb rfl
  refine And.intro (fun _ => ?_) (fun h => absurd q2 h)
  apply And.intro
  · exact ltb rfl
  refine And.intro (fun _ => And.intro rfl ?_) (fun h => absurd q2 h)
  refine And.intro (fun _ => ?_) (fun h => absurd (q2.symm.trans h) (by decide))
  apply And.intro
  · exact ltb rfl
  refine And.intro (fun _ => ?_) (fun h => absurd rfl h)
  apply And.intro
  · exact ltb rfl
  refine And.intro (fun _ => ?_) (fun h => absurd rfl h)
  refine And.intro rfl (Exists.intro _ (Exists.intro _ (And.intro (Key_impl awK (by decide)) (And.intro ?_ ?_))))
  · refine And.intro (DLe.agg ?_) trivial
    exact ⟨DLe.refl _, DLe.refl _, DLe.refl _, DLe.refl _, DLe.refl _, DLe.refl _, DLe.refl _, DLe.nils _, trivial⟩
  apply And.intro
  · exact ltb rfl
  refine And.intro (fun _ => ?_) (fun h => absurd rfl h)
  refine And.intro (fun _ => ?_) (fun h => by cases h)
  refine And.intro (DLe.of_eq ?_) trivial
  show DV.one (.sc (.bool ((ikeyOf awK).toList == _))) = _
  rw [awKey]
  simp
end Go.Proofs.Nw.K
end
section
/- L8: the law InheritFirst. -/
open Go Go.RowKit Go.Proofs
set_option linter.unusedVariables false
set_option linter.unusedSimpArgs false
namespace Go.Proofs.Nw.K

theorem hasKey_app (k : Str) (a b : List Dep) : hasKey k (a ++ b) = (hasKey k a || hasKey k b) := by simp [hasKey]
theorem hasKey_first (k : Str) (l : List Dep) : ∀ out : List Dep, hasKey k (l.foldl stepF out) = (hasKey k out || hasKey k l) := by
  induction l with
  | nil => intro out; simp [hasKey]
  | cons d r ih =>
    intro out
    rw [List.foldl_cons, ih]
    have hd : hasKey k (d :: r) = (decide (k = ikeyOf d) || hasKey k r) := by simp [hasKey]
    rw [hd]
    unfold stepF
    by_cases hin : hasKey (ikeyOf d) out = true
    · rw [if_pos hin]
      by_cases hk : k = ikeyOf d
      · subst hk; simp [hin]
      · simp [hk]
    · rw [if_neg hin, hasKey_app]
      simp [hasKey, Bool.or_assoc]
theorem hasKey_firstOf (k : Str) (l : List Dep) : hasKey k (firstOf l) = hasKey k l := by
  unfold firstOf; rw [hasKey_first]; simp [hasKey]
theorem foldF_prefix (l : List Dep) : ∀ out : List Dep, out <+: l.foldl stepF out := by
  induction l with
  | nil => intro out; exact List.prefix_refl _
  | cons d r ih =>
    intro out
    refine List.IsPrefix.trans ?_ (ih _)
    unfold stepF
    split
    · exact List.prefix_refl _
    · exact List.prefix_append _ _
theorem firstOf_prefix (l : List Dep) (i : Nat) : firstOf (l.take i) <+: firstOf l := by
  have : firstOf l = (l.drop i).foldl stepF (firstOf (l.take i)) := by
    unfold firstOf
    rw [← List.foldl_append, List.take_append_drop]
  rw [this]; exact foldF_prefix _ _
theorem foldF_id (l : List Dep) : ∀ out : List Dep, (∀ d ∈ l, ¬ hasKey (ikeyOf d) out = true) → l.Pairwise (fun a b => ikeyOf b ≠ ikeyOf a) → l.foldl stepF out = out ++ l := by
  induction l with
  | nil => intro out _ _; simp
  | cons d r ih =>
    intro out h hp
    obtain ⟨hp1, hp2⟩ := List.pairwise_cons.1 hp
    rw [List.foldl_cons, stepF, if_neg (h d (by simp)), ih _ ?_ hp2]
    · simp
    · intro x hx
      rw [hasKey_app]
      have h1 := h x (by simp [hx])
      have h2 := hp1 x hx
      simp [hasKey, h2] at h1 ⊢
      exact h1
theorem foldF_pair (l : List Dep) : ∀ out : List Dep, out.Pairwise (fun a b => ikeyOf b ≠ ikeyOf a) → (l.foldl stepF out).Pairwise (fun a b => ikeyOf b ≠ ikeyOf a) := by
  induction l with
  | nil => intro out h; exact h
  | cons d r ih =>
    intro out h
    refine ih _ ?_
    unfold stepF
    split
    · exact h
    · rename_i hin
      refine List.pairwise_append.2 ⟨h, by simp, fun a ha b hb => ?_⟩
      have hb : b = d := by simpa using hb
      subst hb
      exact fun e => hin (hasKey_iff.2 ⟨a, ha, e⟩)
theorem firstOf_pair (l : List Dep) : (firstOf l).Pairwise (fun a b => ikeyOf b ≠ ikeyOf a) := foldF_pair l [] List.Pairwise.nil
theorem firstOf_idem (l : List Dep) : firstOf (firstOf l) = firstOf l := by
  have := foldF_id (firstOf l) [] (by intro d _; simp [hasKey]) (firstOf_pair l)
  simpa [firstOf] using this
theorem firstOf_mem {l : List Dep} {d : Dep} (h : d ∈ firstOf l) : d ∈ l := by
  have key : ∀ (l out : List Dep), d ∈ l.foldl stepF out → d ∈ out ∨ d ∈ l := by
    intro l
    induction l with
    | nil => intro out h; exact .inl h
    | cons x r ih =>
      intro out h
      rcases ih _ h with h | h
      · unfold stepF at h
        split at h
        · exact .inl h
        · rcases List.mem_append.1 h with h | h
          · exact .inl h
          · have : d = x := by simpa using h
            subst this; exact .inr (by simp)
      · exact .inr (by simp [h])
  rcases key l [] h with h | h
  · simp at h
  · exact h
theorem str_neq (a b : Str) : (!(a.toList == b.toList)) = !decide (a = b) := by rw [str_beq]

theorem InheritFirst_impl (l : List Dep) (_ : l.length ≤ maxLen ∧ ∀ s ∈ l, True) (h : (l.map Dep.wt).sum + 1 ≤ 1048576) :
    Impl Try.prog 8 [.one (dDeps l)] [.one (.sc (.bool true))] := by
  have hl := len_le_sum Dep.wt (fun a => by unfold Dep.wt; omega) l
  have hw : ∀ d ∈ l, d.wt ≤ 4194304 := fun d hd => by
    have := le_sum_of_mem (l := l.map Dep.wt) (a := d.wt) (List.mem_map_of_mem hd)
    omega
  have hfl := firstOf_length l
  have hfw : ∀ d ∈ firstOf l, d.wt ≤ 4194304 := fun d hd => hw d (firstOf_mem hd)
  refine impl_vc tabOk Try.func8 rfl rfl (by exact Nat.le_of_ble_eq_true rfl) ?_
  refine WP_seq (vc_sound tabOk (by kernel_rfl) ?_)
  refine WP_seq (vc_sound tabOk (by kernel_rfl) ?_)
  refine And.intro rfl ?_
  refine And.intro (fun h60 => ?_) (fun h60 => ?_)
  · refine And.intro rfl (Exists.intro _ (Exists.intro _ (And.intro awake25_impl (And.intro (AsLe.refl _) ?_))))
    exact And.intro (DLe.refl _) trivial
  have hl60 : l.length ≤ 60 := by
    have h60 : decide ((l.length : Int) > 60) = false := h60
    have := of_decide_eq_false h60; omega
  refine WP_seq (vc_sound tabOk (by kernel_rfl) ?_)
  refine And.intro rfl (Exists.intro _ (Exists.intro _ (And.intro (First_impl l (by omega) hw) (And.intro (AsLe.refl _) ?_))))
  refine WP_seq (vc_sound tabOk (by kernel_rfl) ?_)
  refine WP_seq_cut (α := Unit) (fun _ => ofL [(0, .d (dDeps l)), (3, .d (dDeps (firstOf l))), (4, .int ((firstOf l).length : Int))]) (fun _ => []) (WP_seq (vc_sound tabOk (by kernel_rfl) ?_)) (fun _ => ?_)
  · refine WP_block (WP_loop (α := {i : Nat // i ≤ l.length}) (fun i => ofL [(0, .d (dDeps l)), (3, .d (dDeps (firstOf l))), (4, .int ((firstOf (l.take i.1)).length : Int)), (5, .int (i.1 : Int))]) (fun i => []) (fun i => l.length - i.1) ⟨0, Nat.zero_le _⟩ ?_ ?_)
    · exact Sub.ofL _ _ (Nat.zero_le _) ⟨rfl, rfl, rfl, rfl, rfl, rfl, rfl, rfl, trivial⟩ rfl rfl
    rintro ⟨i, hi⟩
    refine WP_seq (vc_sound tabOk (by kernel_rfl) ?_)
    refine And.intro rfl (And.intro (fun h => ?_) (fun h => ?_))
    rotate_left
    · have h : decide ((i : Int) < (l.length : Int)) = false := h
      obtain rfl : i = l.length := by have := of_decide_eq_false h; omega
      refine ⟨(), Sub.ofL _ _ (Nat.zero_le _) ⟨rfl, rfl, rfl, rfl, ?_, rfl, trivial⟩ rfl rfl⟩
      show AV.int ((firstOf (l.take l.length)).length : Int) = _
      rw [List.take_length]
    have h : decide ((i : Int) < (l.length : Int)) = true := h
    have hlt : i < l.length := by have := of_decide_eq_true h; omega
    have hgi : l.getD ((i : Int)).toNat zDep = l[i] := by simp [List.getD, hlt]
    have hwi : (l.getD ((i : Int)).toNat zDep).wt ≤ 4194304 := by rw [hgi]; exact hw _ (List.getElem_mem hlt)
    have htk : l.take (i + 1) = l.take i ++ [l[i]] := List.take_succ_eq_append_getElem hlt
    have hpl := firstOf_length (l.take i)
    have hpt : (l.take i).length ≤ l.length := by rw [List.length_take]; omega
    refine WP_seq_cut (α := Unit) (fun _ => ofL [(0, .d (dDeps l)), (3, .d (dDeps (firstOf l))), (4, .int ((firstOf (l.take (i + 1))).length : Int)), (5, .int (i : Int))]) (fun _ => []) (WP_block (WP_seq (vc_sound tabOk (by kernel_rfl) ?_))) (fun _ => ?_)
    rotate_left
    · refine vc_sound tabOk (by kernel_rfl) ?_
      refine And.intro rfl (And.intro ⟨by omega, by show (i : Int) + 1 ≤ _; omega⟩ ?_)
      exact ⟨⟨i + 1, hlt⟩, by show l.length - (i + 1) < l.length - i; omega, Sub.ofL _ _ (Nat.zero_le _) ⟨rfl, rfl, rfl, rfl, rfl, rfl, rfl, rfl, trivial⟩ rfl rfl⟩
    have hcut : True := trivial
    refine WP_seq_cut (α := Unit) (fun _ => ofL [(0, .d (dDeps l)), (3, .d (dDeps (firstOf l))), (4, .int ((firstOf (l.take i)).length : Int)), (5, .int (i : Int)), (6, .bool (!hasKey (ikeyOf l[i]) (l.take i)))]) (fun _ => []) (WP_seq (vc_sound tabOk (by kernel_rfl) ?_)) (fun _ => ?_)
    · refine WP_block (WP_loop (α := {k : Nat // k ≤ i}) (fun k => ofL [(0, .d (dDeps l)), (3, .d (dDeps (firstOf l))), (4, .int ((firstOf (l.take i)).length : Int)), (5, .int (i : Int)), (6, .bool (!hasKey (ikeyOf l[i]) (l.take k.1))), (7, .int (k.1 : Int))]) (fun k => []) (fun k => i - k.1) ⟨0, Nat.zero_le _⟩ ?_ ?_)
      · exact Sub.ofL _ _ (Nat.zero_le _) ⟨rfl, rfl, rfl, rfl, rfl, rfl, rfl, rfl, rfl, rfl, rfl, rfl, trivial⟩ rfl rfl
      rintro ⟨k, hk⟩
      refine WP_seq (vc_sound tabOk (by kernel_rfl) ?_)
      refine And.intro rfl (And.intro (fun h => ?_) (fun h => ?_))
      rotate_left
      · have h : decide ((k : Int) < (i : Int)) = false := h
        obtain rfl : k = i := by have := of_decide_eq_false h; omega
        exact ⟨(), Sub.ofL _ _ (Nat.zero_le _) ⟨rfl, rfl, rfl, rfl, rfl, rfl, rfl, rfl, rfl, rfl, trivial⟩ rfl rfl⟩
      have h : decide ((k : Int) < (i : Int)) = true := h
      have hki : k < i := by have := of_decide_eq_true h; omega
      have hkl : k < l.length := by omega
      have hgk : l.getD ((k : Int)).toNat zDep = l[k] := by simp [List.getD, hkl]
      have hwk : (l.getD ((k : Int)).toNat zDep).wt ≤ 4194304 := by rw [hgk]; exact hw _ (List.getElem_mem hkl)
      have stp : hasKey (ikeyOf l[i]) (l.take (k + 1)) = (hasKey (ikeyOf l[i]) (l.take k) || decide (ikeyOf l[i] = ikeyOf l[k])) := by
        rw [List.take_succ_eq_append_getElem hkl, hasKey_app]; simp [hasKey]
      refine WP_seq (WP_block (vc_sound tabOk (by kernel_rfl) ?_))
      refine And.intro rfl (And.intro rfl ?_)
      cases hb : (!hasKey (ikeyOf l[i]) (l.take k)) with
      | false =>
        apply And.intro
        · exact ltb rfl
        refine And.intro (fun h => by cases h) (fun _ => ?_)
        apply And.intro
        · exact ltb rfl
        refine And.intro (fun h => by cases h) (fun _ => ?_)
        apply And.intro
        · exact ltb rfl
        refine And.intro (fun h => by cases h) (fun _ => ?_)
        apply And.intro
        · exact ltb rfl
        refine And.intro (fun h => by cases h) (fun _ => ?_)
        apply And.intro
        · exact ltb rfl
        refine And.intro (fun h => by cases h) (fun _ => ?_)
        apply And.intro
        · exact ltb rfl
        refine And.intro (fun h => by cases h) (fun _ => ?_)
        apply And.intro
        · exact ltb rfl
        refine And.intro (fun h => by cases h) (fun _ => ?_)
        apply And.intro
        · exact ltb rfl
        refine And.intro (fun h => by cases h) (fun _ => ?_)
        apply And.intro
        · exact ltb rfl
        refine And.intro (fun h => by cases h) (fun _ => ?_)
        apply And.intro
        · exact ltb rfl
        refine And.intro (fun h => by cases h) (fun _ => ?_)
        apply And.intro
        · exact ltb rfl
        refine And.intro (fun h => by cases h) (fun _ => ?_)
        refine And.intro (fun h => by cases h) (fun _ => And.intro rfl ?_)
        refine And.intro rfl ?_
        refine vc_sound tabOk (by kernel_rfl) ?_
        refine And.intro rfl (And.intro ⟨by omega, by show (k : Int) + 1 ≤ _; omega⟩ ?_)
        refine ⟨⟨k + 1, hki⟩, by show i - (k + 1) < i - k; omega, Sub.ofL _ _ (Nat.zero_le _) ⟨rfl, rfl, rfl, rfl, rfl, rfl, rfl, rfl, ?_, rfl, rfl, rfl, trivial⟩ rfl rfl⟩
        show AV.bool false = AV.bool (!hasKey (ikeyOf l[i]) (l.take (k + 1)))
        rw [stp, show hasKey (ikeyOf l[i]) (l.take k) = true by simpa using hb]; rfl
      | true =>
        apply And.intro
        · exact ltb rfl
        refine And.intro (fun _ => And.intro rfl ?_) (fun h => absurd rfl h)
        apply And.intro
        · exact ltb rfl
        refine And.intro (fun _ => And.intro rfl ?_) (fun h => absurd rfl h)
        apply And.intro
        · exact ltb rfl
        refine And.intro (fun _ => And.intro rfl (And.intro (Int.natCast_nonneg _) (And.intro (by show (k : Int) < (l.length : Int); omega) (And.intro rfl ?_)))) (fun h => absurd rfl h)
        apply And.intro
        · exact ltb rfl
        refine And.intro (fun _ => And.intro (Nat.le_of_ble_eq_true rfl) (And.intro rfl ?_)) (fun h => absurd rfl h)
        apply And.intro
        · exact ltb rfl
        refine And.intro (fun _ => And.intro rfl (Exists.intro _ (Exists.intro _ (And.intro (refKey_impl (l.getD ((k : Int)).toNat zDep) hwk) (And.intro (AsLe.refl _) (And.intro rfl ?_)))))) (fun h => absurd rfl h)
        apply And.intro
        · exact ltb rfl
        refine And.intro (fun _ => And.intro rfl ?_) (fun h => absurd rfl h)
        apply And.intro
        · exact ltb rfl
        refine And.intro (fun _ => And.intro rfl ?_) (fun h => absurd rfl h)
        apply And.intro
        · exact ltb rfl
        refine And.intro (fun _ => And.intro rfl (And.intro (Int.natCast_nonneg _) (And.intro (by show (i : Int) < (l.length : Int); omega) (And.intro rfl ?_)))) (fun h => absurd rfl h)
        apply And.intro
        · exact ltb rfl
        refine And.intro (fun _ => And.intro (Nat.le_of_ble_eq_true rfl) (And.intro rfl ?_)) (fun h => absurd rfl h)
        apply And.intro
        · exact ltb rfl
        refine And.intro (fun _ => And.intro rfl (Exists.intro _ (Exists.intro _ (And.intro (refKey_impl (l.getD ((i : Int)).toNat zDep) hwi) (And.intro (AsLe.refl _) (And.intro rfl ?_)))))) (fun h => absurd rfl h)
        apply And.intro
        · exact ltb rfl
        refine And.intro (fun _ => And.intro rfl ?_) (fun h => absurd rfl h)
        refine And.intro (fun _ => And.intro rfl ?_) (fun h => by cases h)
        refine And.intro rfl ?_
        refine vc_sound tabOk (by kernel_rfl) ?_
        refine And.intro rfl (And.intro ⟨by omega, by show (k : Int) + 1 ≤ _; omega⟩ ?_)
        refine ⟨⟨k + 1, hki⟩, by show i - (k + 1) < i - k; omega, Sub.ofL _ _ (Nat.zero_le _) ⟨rfl, rfl, rfl, rfl, rfl, rfl, rfl, rfl, ?_, rfl, rfl, rfl, trivial⟩ rfl rfl⟩
        show AV.bool (!((ikeyOf (l.getD ((k : Int)).toNat zDep)).toList == (ikeyOf (l.getD ((i : Int)).toNat zDep)).toList)) = AV.bool (!hasKey (ikeyOf l[i]) (l.take (k + 1)))
        rw [stp, show hasKey (ikeyOf l[i]) (l.take k) = false by simpa using hb, hgk, hgi, str_neq, Bool.false_or]
        congr 2
        exact decide_eq_decide.2 eq_comm
    have hkk : hasKey (ikeyOf l[i]) (firstOf (l.take i)) = hasKey (ikeyOf l[i]) (l.take i) := hasKey_firstOf _ _
    refine WP_seq (vc_sound tabOk (by kernel_rfl) ?_)
    refine And.intro (fun hnot => ?_) (fun hnot => ?_)
    · have hin : hasKey (ikeyOf l[i]) (l.take i) = true := by
        have hnot : (!(!hasKey (ikeyOf l[i]) (l.take i))) = true := hnot
        simpa using hnot
      have st1 : firstOf (l.take (i + 1)) = firstOf (l.take i) := by rw [htk, firstOf_snoc, stepF, if_pos (by rw [hkk]; exact hin)]
      refine ⟨(), Sub.ofL _ _ (Nat.zero_le _) ⟨rfl, rfl, rfl, rfl, ?_, rfl, rfl, rfl, trivial⟩ rfl rfl⟩
      rw [st1]; rfl
    have hin : ¬ hasKey (ikeyOf l[i]) (firstOf (l.take i)) = true := by
      have hnot : (!(!hasKey (ikeyOf l[i]) (l.take i))) = false := hnot
      rw [hkk]; simpa using hnot
    have st1 : firstOf (l.take (i + 1)) = firstOf (l.take i) ++ [l[i]] := by rw [htk, firstOf_snoc, stepF, if_neg hin]
    have hpre := firstOf_prefix l (i + 1)
    rw [st1] at hpre
    obtain ⟨tl, htl⟩ := hpre
    have hn : (firstOf (l.take i)).length < (firstOf l).length := by rw [← htl]; simp
    have hgn : (firstOf l).getD (((firstOf (l.take i)).length : Int)).toNat zDep = l[i] := by
      rw [← htl]; simp [List.getD]
    have hge : decide (((firstOf (l.take i)).length : Int) ≥ ((firstOf l).length : Int)) = false := decide_eq_false (by omega)
    refine vc_sound tabOk (by kernel_rfl) ?_
    refine And.intro rfl (And.intro rfl (And.intro rfl (And.intro rfl (And.intro rfl (And.intro rfl ?_)))))
    apply And.intro
    · exact ltb rfl
    refine And.intro (fun _ => And.intro rfl ?_) (fun h => absurd hge h)
    apply And.intro
    · exact ltb rfl
    refine And.intro (fun _ => And.intro rfl ?_) (fun h => absurd hge h)
    apply And.intro
    · exact ltb rfl
    refine And.intro (fun _ => And.intro rfl (And.intro (Int.natCast_nonneg _) (And.intro (by show ((firstOf (l.take i)).length : Int) < ((firstOf l).length : Int); omega) (And.intro rfl ?_)))) (fun h => absurd hge h)
    apply And.intro
    · exact ltb rfl
    refine And.intro (fun _ => And.intro (Nat.le_of_ble_eq_true rfl) (And.intro rfl ?_)) (fun h => absurd hge h)
    apply And.intro
    · exact ltb rfl
    refine And.intro (fun _ => And.intro rfl ?_) (fun h => absurd hge h)
    apply And.intro
    · exact ltb rfl
    refine And.intro (fun _ => And.intro rfl ?_) (fun h => absurd hge h)
    apply And.intro
    · exact ltb rfl
    refine And.intro (fun _ => And.intro rfl (And.intro (Int.natCast_nonneg _) (And.intro (by show (i : Int) < (l.length : Int); omega) (And.intro rfl ?_)))) (fun h => absurd hge h)
    apply And.intro
    · exact ltb rfl
    refine And.intro (fun _ => And.intro (Nat.le_of_ble_eq_true rfl) (And.intro rfl ?_)) (fun h => absurd hge h)
    apply And.intro
    · exact ltb rfl
    refine And.intro (fun _ => And.intro rfl (Exists.intro _ (Exists.intro _ (And.intro (Dep_self l[i] (ex_len (hw _ (List.getElem_mem hlt)))) (And.intro (And.intro (DLe.of_eq (congrArg (fun d => DV.agg (encDep d)) hgn)) (And.intro (DLe.of_eq (congrArg (fun d => DV.agg (encDep d)) hgi)) trivial)) (And.intro rfl ?_)))))) (fun h => absurd hge h)
    apply And.intro
    · exact ltb rfl
    refine And.intro (fun _ => And.intro rfl ?_) (fun h => absurd hge h)
    refine And.intro (fun h => absurd (hge.symm.trans h) (by decide)) (fun _ => And.intro rfl ?_)
    refine And.intro (fun h => by cases h) (fun _ => ?_)
    refine And.intro rfl (And.intro ⟨by omega, by show ((firstOf (l.take i)).length : Int) + 1 ≤ _; omega⟩ ?_)
    refine ⟨(), Sub.ofL _ _ (Nat.zero_le _) ⟨rfl, rfl, rfl, rfl, ?_, rfl, rfl, rfl, trivial⟩ rfl rfl⟩
    show AV.int (((firstOf (l.take i)).length : Int) + 1) = _
    rw [st1]; simp
  · refine vc_sound tabOk (by kernel_rfl) ?_
    have hq : (((firstOf l).length : Int) == ((firstOf l).length : Int)) = true := by simp
    refine And.intro rfl (Exists.intro _ (Exists.intro _ (And.intro awake25_impl (And.intro (AsLe.refl _) ?_))))
    apply And.intro
    · exact ltb rfl
    refine And.intro (fun _ => ?_) (fun h => absurd rfl h)
    apply And.intro
    · exact ltb rfl
    refine And.intro (fun _ => ?_) (fun h => absurd rfl h)
    apply And.intro
    · exact ltb rfl
    refine And.intro (fun _ => ?_) (fun h => absurd rfl h)
    apply And.intro
    · exact ltb rfl
    refine And.intro (fun _ => And.intro rfl ?_) (fun h => absurd rfl h)
    refine And.intro (fun _ => ?_) (fun h => by cases h)
    apply And.intro
    · exact ltb rfl
    refine And.intro (fun _ => ?_) (fun h => absurd hq h)
    apply And.intro
    · exact ltb rfl
    refine And.intro (fun _ => And.intro rfl (Exists.intro _ (Exists.intro _ (And.intro (First_impl (firstOf l) (by omega) hfw) (And.intro (AsLe.refl _) ?_))))) (fun h => absurd hq h)
    apply And.intro
    · exact ltb rfl
    refine And.intro (fun _ => ?_) (fun h => absurd hq h)
    apply And.intro
    · exact ltb rfl
    refine And.intro (fun _ => And.intro rfl (Exists.intro _ (Exists.intro _ (And.intro (SameDep_self (firstOf l) (by omega) (fun d hd => ex_len (hfw d hd))) (And.intro (And.intro (DLe.of_eq (congrArg (fun x => DV.one (dDeps x)) (firstOf_idem l))) (And.intro (DLe.refl _) (And.intro (DLe.refl _) trivial))) ?_))))) (fun h => absurd hq h)
    refine And.intro (fun _ => ?_) (fun h => absurd (hq.symm.trans h) (by decide))
    exact And.intro (DLe.refl _) trivial
end Go.Proofs.Nw.K
end
section
open Go Go.RowKit Go.Proofs
set_option linter.unusedVariables false
set_option linter.unusedSimpArgs false
namespace Go.Proofs.Nw.K

theorem Sub.le {N : Fm} {env : Env} {st : List AO} (t : Nat) {d d' : D} (h : env t = .d d) (hd : DLe (.one d) (.one d')) : Sub N env st (upd env t (.d d')) st :=
  Sub.slot t _ fun w0 σ0 σ gh w u hb hu => by
    rw [h] at hu
    exact ⟨σ, gh, .refl hb, hd σ u hu⟩

/-! ### newelplay.Few -/
def fewOne (p : Pom) : Nat := 1 + p.props.length + p.managed.length + p.deps.length
def fewN (l : List Pom) : Nat := (l.map fewOne).sum
def fewOf (l : List Pom) : Bool := decide ((l.length : Int) ≤ 30) && decide ((fewN l : Int) ≤ 300)
theorem fewN_succ (l : List Pom) (i : Nat) (h : i < l.length) : fewN (l.take (i + 1)) = fewN (l.take i) + fewOne l[i] := by
  rw [List.take_succ_eq_append_getElem h, fewN, List.map_append, List.sum_append]; simp [fewN]
theorem fewN_take (l : List Pom) (i : Nat) : fewN (l.take i) ≤ fewN l := sum_take fewOne l i

theorem Few_impl (l : List Pom) (hb : fewN l ≤ 4194304) : Impl Try.prog 24 [.one (dPoms l)] [.one (dbool (fewOf l))] := by
  have hlen : l.length ≤ fewN l := len_le_sum fewOne (fun p => by unfold fewOne; omega) l
  refine impl_vc tabOk Try.func24 rfl rfl (by exact Nat.le_of_ble_eq_true rfl) ?_
  refine WP_seq (vc_sound tabOk (by kernel_rfl) ?_)
  refine WP_seq (vc_sound tabOk (by kernel_rfl) ?_)
  refine WP_seq_cut (α := Unit) (fun _ => ofL [(0, .d (dPoms l)), (3, .int (fewN l : Int))]) (fun _ => []) (WP_seq (vc_sound tabOk (by kernel_rfl) ?_)) (fun _ => ?_)
  · refine WP_block (WP_loop (α := {i : Nat // i ≤ l.length}) (fun i => ofL [(0, .d (dPoms l)), (3, .int (fewN (l.take i.1) : Int)), (4, .int (i.1 : Int))]) (fun i => []) (fun i => l.length - i.1) ⟨0, Nat.zero_le _⟩ ?_ ?_)
    · exact Sub.ofL _ _ (Nat.zero_le _) ⟨rfl, rfl, rfl, rfl, rfl, rfl, trivial⟩ rfl rfl
    rintro ⟨i, hi⟩
    refine vc_sound tabOk (by kernel_rfl) ?_
    refine And.intro rfl (And.intro (fun h => ?_) (fun h => ?_))
    rotate_left
    · have h : decide ((i : Int) < (l.length : Int)) = false := h
      obtain rfl : i = l.length := by have := of_decide_eq_false h; omega
      refine ⟨(), Sub.ofL _ _ (Nat.zero_le _) ⟨rfl, rfl, ?_, rfl, trivial⟩ rfl rfl⟩
      show AV.int (fewN (l.take l.length) : Int) = _
      rw [List.take_length]
    have h : decide ((i : Int) < (l.length : Int)) = true := h
    have hlt : i < l.length := by have := of_decide_eq_true h; omega
    have hg : l.getD ((i : Int)).toNat zPom = l[i] := by simp [List.getD, hlt]
    have hs := fewN_succ l i hlt
    have ht := fewN_take l (i + 1)
    have hone : fewOne l[i] = 1 + l[i].props.length + l[i].managed.length + l[i].deps.length := rfl
    rw [← hg] at hone
    rw [← hg] at hs
    generalize hx : l.getD ((i : Int)).toNat zPom = x at *
    refine And.intro rfl ?_
    refine And.intro rfl (And.intro (by show _ ≤ (fewN (l.take i) : Int) + 1 ∧ (fewN (l.take i) : Int) + 1 ≤ _; omega) (And.intro rfl ?_))
    refine And.intro rfl ?_
    refine And.intro rfl ?_
    refine And.intro rfl (And.intro (Int.natCast_nonneg _) (And.intro (by show (i : Int) < (l.length : Int); omega) (And.intro rfl ?_)))
    refine And.intro rfl ?_
    refine And.intro rfl ?_
    refine And.intro rfl ?_
    refine And.intro rfl (And.intro (by show _ ≤ (fewN (l.take i) : Int) + 1 + ((l.getD ((i : Int)).toNat zPom).props.length : Int) ∧ (fewN (l.take i) : Int) + 1 + ((l.getD ((i : Int)).toNat zPom).props.length : Int) ≤ _; rw [hx]; omega) (And.intro rfl ?_))
    refine And.intro rfl ?_
    refine And.intro rfl ?_
    refine And.intro rfl (And.intro (Int.natCast_nonneg _) (And.intro (by show (i : Int) < (l.length : Int); omega) (And.intro rfl ?_)))
    refine And.intro rfl ?_
    refine And.intro rfl ?_
    refine And.intro rfl ?_
    refine And.intro rfl (And.intro (by show _ ≤ (fewN (l.take i) : Int) + 1 + ((l.getD ((i : Int)).toNat zPom).props.length : Int) + ((l.getD ((i : Int)).toNat zPom).managed.length : Int) ∧ (fewN (l.take i) : Int) + 1 + ((l.getD ((i : Int)).toNat zPom).props.length : Int) + ((l.getD ((i : Int)).toNat zPom).managed.length : Int) ≤ _; rw [hx]; omega) (And.intro rfl ?_))
    refine And.intro rfl ?_
    refine And.intro rfl ?_
    refine And.intro rfl (And.intro (Int.natCast_nonneg _) (And.intro (by show (i : Int) < (l.length : Int); omega) (And.intro rfl ?_)))
    refine And.intro rfl ?_
    refine And.intro rfl ?_
    refine And.intro rfl ?_
    refine And.intro rfl (And.intro (by show _ ≤ (fewN (l.take i) : Int) + 1 + ((l.getD ((i : Int)).toNat zPom).props.length : Int) + ((l.getD ((i : Int)).toNat zPom).managed.length : Int) + ((l.getD ((i : Int)).toNat zPom).deps.length : Int) ∧ (fewN (l.take i) : Int) + 1 + ((l.getD ((i : Int)).toNat zPom).props.length : Int) + ((l.getD ((i : Int)).toNat zPom).managed.length : Int) + ((l.getD ((i : Int)).toNat zPom).deps.length : Int) ≤ _; rw [hx]; omega) (And.intro rfl ?_))
    refine And.intro rfl ?_
    refine And.intro rfl (And.intro ⟨by omega, by show (i : Int) + 1 ≤ _; omega⟩ ?_)
    refine ⟨⟨i + 1, hlt⟩, by show l.length - (i + 1) < l.length - i; omega, Sub.ofL _ _ (Nat.zero_le _) ⟨rfl, rfl, ?_, rfl, rfl, rfl, trivial⟩ rfl rfl⟩
    show AV.int ((fewN (l.take i) : Int) + 1 + ((l.getD ((i : Int)).toNat zPom).props.length : Int) + ((l.getD ((i : Int)).toNat zPom).managed.length : Int) + ((l.getD ((i : Int)).toNat zPom).deps.length : Int)) = AV.int (fewN (l.take (i + 1)) : Int)
    rw [hx, hs, hone]
    congr 1
    omega
  · refine vc_sound tabOk (by kernel_rfl) ?_
    refine And.intro rfl ?_
    have hq : fewOf l = (decide ((l.length : Int) ≤ 30) && decide ((fewN l : Int) ≤ 300)) := rfl
    cases hc : decide ((l.length : Int) ≤ 30) with
    | true =>
      apply And.intro
      · exact ltb rfl
      refine And.intro (fun _ => ?_) (fun h => absurd rfl h)
      apply And.intro
      · exact ltb rfl
      refine And.intro (fun _ => And.intro rfl ?_) (fun h => absurd rfl h)
      refine And.intro (fun _ => ?_) (fun h => by cases h)
      refine And.intro (DLe.of_eq ?_) trivial
      rw [hq, hc, Bool.true_and]
    | false =>
      apply And.intro
      · exact ltb rfl
      refine And.intro (fun h => by cases h) (fun _ => ?_)
      apply And.intro
      · exact ltb rfl
      refine And.intro (fun h => by cases h) (fun _ => ?_)
      refine And.intro (fun h => by cases h) (fun _ => ?_)
      refine And.intro (DLe.of_eq ?_) trivial
      rw [hq, hc, Bool.false_and]

/-! ### newelhelp.In at strings; newelref13.or -/
def inStr (l : List Str) (x : Str) : Bool := l.any fun a => a.toList == x.toList
theorem In54_impl (l : List Str) (x : Str) (hl : l.length ≤ 4194304) : Impl Try.prog 54 [.one (dStrs l), .one (dstr x)] [.one (dbool (inStr l x))] := by
  refine impl_vc tabOk Try.func54 rfl rfl (by exact Nat.le_of_ble_eq_true rfl) ?_
  refine WP_seq (vc_sound tabOk (by kernel_rfl) ?_)
  refine WP_seq (WP_seq (vc_sound tabOk (by kernel_rfl) ?_))
  refine WP_block (WP_loop (α := {i : Nat // i ≤ l.length ∧ inStr (l.take i) x = false}) (fun i => ofL [(0, .d (dStrs l)), (1, .str x), (5, .int (i.1 : Int))]) (fun _ => []) (fun i => l.length - i.1) ⟨0, Nat.zero_le _, rfl⟩ ?_ ?_)
  · exact Sub.ofL _ _ (Nat.zero_le _) ⟨rfl, rfl, rfl, rfl, rfl, rfl, trivial⟩ rfl rfl
  rintro ⟨i, hi, hno⟩
  refine vc_sound tabOk (by kernel_rfl) ?_
  refine And.intro rfl (And.intro (fun h => ?_) (fun h => ?_))
  · have h : decide ((i : Int) < (l.length : Int)) = true := h
    have hlt : i < l.length := by have := of_decide_eq_true h; omega
    have hg : l.getD ((i : Int)).toNat emp = l[i] := by simp [List.getD, hlt]
    have stp : inStr (l.take (i + 1)) x = (inStr (l.take i) x || (l[i].toList == x.toList)) := by
      rw [List.take_succ_eq_append_getElem hlt, inStr, List.any_append]; simp [inStr]
    refine And.intro rfl (And.intro (Int.natCast_nonneg _) (And.intro (by show (i : Int) < (l.length : Int); omega) ?_))
    refine And.intro (fun he => ?_) (fun he => ?_)
    · have he : ((l.getD ((i : Int)).toNat emp).toList == x.toList) = true := he
      rw [hg] at he
      refine And.intro (DLe.of_eq ?_) trivial
      have : inStr l x = true := by
        unfold inStr; rw [List.any_eq_true]; exact ⟨l[i], List.getElem_mem hlt, he⟩
      rw [this]
    · have he : ((l.getD ((i : Int)).toNat emp).toList == x.toList) = false := he
      rw [hg] at he
      refine And.intro rfl (And.intro ⟨by omega, by show (i : Int) + 1 ≤ _; omega⟩ ?_)
      exact ⟨⟨i + 1, hlt, by rw [stp, hno, he]; rfl⟩, by show l.length - (i + 1) < l.length - i; omega, Sub.ofL _ _ (Nat.zero_le _) ⟨rfl, rfl, rfl, rfl, rfl, rfl, trivial⟩ rfl rfl⟩
  · have h : decide ((i : Int) < (l.length : Int)) = false := h
    have h0 : l.take i = l := List.take_of_length_le (by have := of_decide_eq_false h; omega)
    refine vc_sound tabOk (by kernel_rfl) ?_
    refine And.intro (DLe.of_eq ?_) trivial
    rw [← h0, hno]

theorem or51_impl (a b : Str) : Impl Try.prog 51 [.one (dstr a), .one (dstr b)] [.one (dstr (if a.toList == emp.toList then b else a))] := by
  refine impl_vc tabOk Try.func51 rfl rfl (by exact Nat.le_of_ble_eq_true rfl) (vc_sound tabOk (by kernel_rfl) ?_)
  refine And.intro (fun h => ?_) (fun h => ?_)
  · have h : (a.toList == emp.toList) = false := not_true_eq h
    refine And.intro (DLe.of_eq ?_) trivial
    rw [if_neg (by rw [h]; decide)]
  · have h : (a.toList == emp.toList) = true := not_false_eq h
    refine And.intro (DLe.of_eq ?_) trivial
    rw [if_pos h]

/-! ### newelref13.First -/
theorem inStr_keys (out : List Dep) (k : Str) : inStr (out.map ikeyOf) k = hasKey k out := by
  induction out with
  | nil => rfl
  | cons d r ih =>
    have h1 : inStr ((d :: r).map ikeyOf) k = (((ikeyOf d).toList == k.toList) || inStr (r.map ikeyOf) k) := rfl
    have h2 : hasKey k (d :: r) = (decide (k = ikeyOf d) || hasKey k r) := by simp [hasKey]
    rw [h1, h2, ih, str_beq]
    congr 1
    exact decide_eq_decide.2 eq_comm

theorem refFirst_impl (l : List Dep) (hl : l.length ≤ 4194304) (hw : ∀ d ∈ l, d.wt ≤ 4194304) : Impl Try.prog 32 [.one (dDeps l)] [.one (dDeps (firstOf l))] := by
  refine impl_vc tabOk Try.func32 rfl rfl (by exact Nat.le_of_ble_eq_true rfl) ?_
  refine WP_seq (vc_sound tabOk (by kernel_rfl) ?_)
  refine WP_seq (vc_sound tabOk (by kernel_rfl) ?_)
  refine WP_seq (vc_sound tabOk (by kernel_rfl) ?_)
  refine WP_seq_cut (α := Unit) (fun _ => ofL [(3, .h 0 (firstOf l).length 0 (firstOf l).length)]) (fun _ => [.row (firstOf l).length 35 8 ((firstOf l).map encDep)]) (WP_seq (vc_sound tabOk (by kernel_rfl) ?_)) (fun _ => ?_)
  · refine WP_block (WP_loop (α := {i : Nat // i ≤ l.length}) (fun i => ofL [(0, .d (dDeps l)), (3, .h 0 (firstOf (l.take i.1)).length 0 (firstOf (l.take i.1)).length), (4, .h 1 (firstOf (l.take i.1)).length 0 (firstOf (l.take i.1)).length), (5, .int (i.1 : Int))])
      (fun i => [.row (firstOf (l.take i.1)).length 35 8 ((firstOf (l.take i.1)).map encDep), .row (firstOf (l.take i.1)).length 9 1 (((firstOf (l.take i.1)).map ikeyOf).map encStr)]) (fun i => l.length - i.1) ⟨0, Nat.zero_le _⟩ ?_ ?_)
    · exact (Sub.nilsRow 3 35 8 rfl).trans ((Sub.nilsRow 4 9 1 rfl).trans (Sub.ofL _ _ (Nat.zero_le _) ⟨rfl, rfl, rfl, rfl, rfl, rfl, rfl, rfl, trivial⟩ rfl rfl))
    rintro ⟨i, hi⟩
    refine vc_sound tabOk (by kernel_rfl) ?_
    refine And.intro rfl (And.intro (fun h => ?_) (fun h => ?_))
    rotate_left
    · have h : decide ((i : Int) < (l.length : Int)) = false := h
      have h0 : l.take i = l := List.take_of_length_le (by have := of_decide_eq_false h; omega)
      refine ⟨(), Sub.ofL _ _ (Nat.zero_le _) ⟨?_, rfl, trivial⟩ ?_ rfl⟩
      · show AV.h 0 (firstOf (l.take i)).length 0 (firstOf (l.take i)).length = _
        rw [h0]
      · show [AO.row (firstOf (l.take i)).length 35 8 ((firstOf (l.take i)).map encDep)] = _
        rw [h0]
    have h : decide ((i : Int) < (l.length : Int)) = true := h
    have hlt : i < l.length := by have := of_decide_eq_true h; omega
    have hg : l.getD ((i : Int)).toNat zDep = l[i] := by simp [List.getD, hlt]
    have htk : l.take (i + 1) = l.take i ++ [l[i]] := List.take_succ_eq_append_getElem hlt
    have hwd : (l.getD ((i : Int)).toNat zDep).wt ≤ 4194304 := by rw [hg]; exact hw _ (List.getElem_mem hlt)
    have hel := ex_len hwd
    have hol := firstOf_length (l.take i)
    have htl : (l.take i).length ≤ l.length := by rw [List.length_take]; omega
    have hlz : (i : Int) < (l.length : Int) := by omega
    refine And.intro rfl (And.intro (Int.natCast_nonneg _) (And.intro hlz ?_))
    refine And.intro (Nat.le_of_ble_eq_true rfl) ?_
    refine And.intro rfl (Exists.intro _ (Exists.intro _ (And.intro (refKey_impl (l.getD ((i : Int)).toNat zDep) hwd) (And.intro (AsLe.refl _) ?_))))
    refine And.intro rfl (Or.inr (Or.inr (And.intro ⟨rfl, rfl, by simp⟩ (Exists.intro _ (Exists.intro _ (And.intro (In54_impl ((firstOf (l.take i)).map ikeyOf) (ikeyOf (l.getD ((i : Int)).toNat zDep)) (by rw [List.length_map]; omega)) (And.intro (And.intro (DLe.tl emp rfl) (And.intro (DLe.refl _) trivial)) (And.intro rfl ?_))))))))
    rw [inStr_keys, hg]
    cases hin : hasKey (ikeyOf l[i]) (firstOf (l.take i)) with
    | true =>
      have st1 : firstOf (l.take (i + 1)) = firstOf (l.take i) := by rw [htk, firstOf_snoc, stepF, if_pos hin]
      refine And.intro (fun h => by cases h) (fun _ => ?_)
      refine And.intro rfl (And.intro ⟨by omega, by show (i : Int) + 1 ≤ _; omega⟩ ?_)
      refine ⟨⟨i + 1, hlt⟩, by show l.length - (i + 1) < l.length - i; omega, Sub.ofL _ _ (Nat.zero_le _) ⟨rfl, rfl, ?_, rfl, ?_, rfl, rfl, rfl, trivial⟩ ?_ rfl⟩
      · rw [st1]; rfl
      · rw [st1]; rfl
      · rw [st1]; rfl
    | false =>
      have st1 : firstOf (l.take (i + 1)) = firstOf (l.take i) ++ [l[i]] := by rw [htk, firstOf_snoc, stepF, if_neg (by rw [hin]; decide)]
      have e1 : (firstOf (l.take (i + 1))).length = (firstOf (l.take i)).length + 1 := by rw [st1]; simp
      refine And.intro (fun _ => ?_) (fun h => by cases h)
      refine And.intro rfl (And.intro (by decide) (And.intro (by decide) (And.intro rfl (Or.inl ?_))))
      refine And.intro rfl (And.intro ⟨rfl, rfl, rfl, rfl⟩ (And.intro rfl (And.intro ?_ (And.intro ?_ ?_))))
      · show ((firstOf (l.take i)).length + 1) * 16 ≤ _; omega
      · show (firstOf (l.take i)).length + 1 ≤ _; simp only [maxLen]; omega
      refine And.intro rfl (And.intro (Int.natCast_nonneg _) (And.intro hlz ?_))
      refine And.intro (Nat.le_of_ble_eq_true rfl) ?_
      refine And.intro rfl (And.intro (Nat.le_of_ble_eq_true rfl) ?_)
      refine And.intro rfl (And.intro rfl (And.intro ?_ (And.intro ?_ ?_)))
      · simp only [List.length_map]; omega
      · simp only [List.length_map, maxLen]; omega
      refine Or.inr (And.intro ⟨rfl, rfl, rfl⟩ (And.intro rfl (And.intro (Nat.le_of_ble_eq_true rfl) ?_)))
      refine And.intro rfl ?_
      refine And.intro rfl (And.intro (by decide) (And.intro (by decide) (And.intro rfl (Or.inl ?_))))
      refine And.intro rfl (And.intro ⟨rfl, rfl, rfl, rfl⟩ (And.intro rfl (And.intro ?_ (And.intro ?_ ?_))))
      · show ((firstOf (l.take i)).length + 1) * 128 ≤ _; omega
      · show (firstOf (l.take i)).length + 1 ≤ _; simp only [maxLen]; omega
      refine And.intro rfl (And.intro ⟨by omega, by show (i : Int) + 1 ≤ _; omega⟩ ?_)
      have e2 : ((firstOf (l.take i)).map encDep).take (firstOf (l.take i)).length = (firstOf (l.take i)).map encDep := List.take_of_length_le (by rw [List.length_map]; exact Nat.le_refl _)
      have e3 : (((firstOf (l.take i)).map ikeyOf).map encStr).take (firstOf (l.take i)).length = ((firstOf (l.take i)).map ikeyOf).map encStr := List.take_of_length_le (by rw [List.length_map, List.length_map]; exact Nat.le_refl _)
      refine ⟨⟨i + 1, hlt⟩, by show l.length - (i + 1) < l.length - i; omega, (Sub.ofL [(0, .d (dDeps l)), (3, .h 0 (firstOf (l.take (i + 1))).length 0 (firstOf (l.take (i + 1))).length), (4, .h 1 (firstOf (l.take (i + 1))).length 0 (firstOf (l.take (i + 1))).length), (5, .int ((i + 1 : Nat) : Int))]
          [.row (firstOf (l.take (i + 1))).length 35 8 ((firstOf (l.take i)).map encDep ++ [[dstr l[i].group, dstr l[i].name, dstr l[i].version, dstr l[i].type, dstr l[i].classifier, dstr l[i].scope, dbool l[i].optional, .list 2 (l[i].excluded.map encExcluded)]]), .row (firstOf (l.take (i + 1))).length 9 1 (((firstOf (l.take (i + 1))).map ikeyOf).map encStr)]
          (Nat.zero_le _) ⟨rfl, rfl, ?_, rfl, ?_, rfl, rfl, rfl, trivial⟩ ?_ rfl).trans ((Sub.row (s := 0) (ys := (firstOf (l.take (i + 1))).map encDep) rfl ?_).trans (Sub.ofL _ _ (Nat.zero_le _) ⟨rfl, rfl, rfl, rfl, rfl, rfl, rfl, rfl, trivial⟩ rfl rfl))⟩
      · show AV.h 0 ((firstOf (l.take i)).length + 1) 0 ((firstOf (l.take i)).length + 1) = _
        rw [← e1]
      · show AV.h 1 ((firstOf (l.take i)).length + 1) 0 ((firstOf (l.take i)).length + 1) = _
        rw [← e1]
      · rw [e1, ← hg]
        show [AO.row ((firstOf (l.take i)).length + 1) 35 8 (((firstOf (l.take i)).map encDep).take (firstOf (l.take i)).length ++ _), AO.row ((firstOf (l.take i)).length + 1) 9 1 ((((firstOf (l.take i)).map ikeyOf).map encStr).take (firstOf (l.take i)).length ++ _)] = _
        rw [e2, e3, st1]; simp only [List.map_append]; rw [hg]; rfl
      · rw [st1, List.map_append]
        refine LsLe.app (LsLe.refl _) (And.intro ?_ trivial)
        exact ⟨DLe.refl _, DLe.refl _, DLe.refl _, DLe.refl _, DLe.refl _, DLe.refl _, DLe.refl _, DLe.tl _ rfl, trivial⟩
  · refine vc_sound tabOk (by kernel_rfl) ?_
    exact And.intro ⟨rfl, rfl, (List.length_map _).symm⟩ (And.intro (DLe.tl _ rfl) trivial)
end Go.Proofs.Nw.K
end
section
open Go Go.RowKit Go.Proofs
set_option linter.unusedVariables false
set_option linter.unusedSimpArgs false
namespace Go.Proofs.Nw.K

theorem PlainFnP_self (x : Pair) : Impl Try.prog 77 [.agg (encPair x), .agg (encPair x)] [.one (dbool true)] := by
  refine impl_vc tabOk Try.func77 rfl rfl (by exact Nat.le_of_ble_eq_true rfl) (vc_sound tabOk (by kernel_rfl) ?_)
  refine And.intro rfl (And.intro rfl ?_)
  refine And.intro rfl (And.intro rfl ?_)
  refine And.intro (DLe.of_eq ?_) trivial
  show DV.one (.sc (.bool (eqStrs [x.name, x.value] [x.name, x.value]))) = _
  rw [eqStrs_self]

theorem SameP_self (l : List Pair) (h : l.length ≤ 4194304) : Impl Try.prog 76 [.one (dPairs l), .one (dPairs l), .one (.sc (.func (.func 77) #[] #[]))] [.one (dbool true)] := by
  refine impl_vc tabOk Try.func76 rfl rfl (by exact Nat.le_of_ble_eq_true rfl) ?_
  refine WP_seq (vc_sound tabOk (by kernel_rfl) ?_)
  refine WP_seq (vc_sound tabOk (by kernel_rfl) ?_)
  refine And.intro rfl (And.intro (fun h => absurd h (by simp)) (fun _ => ?_))
  refine WP_seq (WP_seq (vc_sound tabOk (by kernel_rfl) ?_))
  refine WP_block (WP_loop (α := {i : Nat // i ≤ l.length}) (fun i => ofL [(0, .d (dPairs l)), (1, .d (dPairs l)), (2, .sc (.func (.func 77) #[] #[])), (7, .int (i.1 : Int))]) (fun _ => []) (fun i => l.length - i.1) ⟨0, by simp⟩ ?_ ?_)
  · exact Sub.ofL _ _ (Nat.le_refl _) ⟨rfl, rfl, rfl, rfl, rfl, rfl, rfl, rfl, trivial⟩ rfl rfl
  rintro ⟨i, hi⟩
  refine vc_sound tabOk (by kernel_rfl) ?_
  refine And.intro rfl (And.intro (fun h => ?_) (fun h => ?_))
  · have hlt : i < l.length := by simpa using h
    have hix : ((i : Int) : Int).toNat < l.length := by simpa using hlt
    repeat refine And.intro rfl ?_
    refine And.intro (Int.natCast_nonneg _) (And.intro (by show (i : Int) < (l.length : Int); omega) (And.intro rfl ?_))
    refine And.intro (Nat.le_of_ble_eq_true rfl) ?_
    repeat refine And.intro rfl ?_
    refine And.intro (Int.natCast_nonneg _) (And.intro (by show (i : Int) < (l.length : Int); omega) (And.intro rfl ?_))
    refine And.intro (Nat.le_of_ble_eq_true rfl) ?_
    repeat refine And.intro rfl ?_
    refine Exists.intro _ (Exists.intro _ (And.intro (PlainFnP_self (l.getD ((i : Int)).toNat zPair)) (And.intro (AsLe.refl _) (And.intro rfl ?_))))
    refine And.intro rfl ?_
    refine And.intro (fun h => by cases h) (fun _ => ?_)
    refine And.intro rfl (And.intro ⟨by omega, by show (i : Int) + 1 ≤ _; omega⟩ ?_)
    exact ⟨⟨i + 1, hlt⟩, by simp; omega, Sub.ofL _ _ (Nat.zero_le _) ⟨rfl, rfl, rfl, rfl, rfl, rfl, rfl, rfl, trivial⟩ rfl rfl⟩
  · refine vc_sound tabOk (by kernel_rfl) ?_
    exact And.intro (DLe.refl _) trivial

theorem PlainP_self (l : List Pair) (h : l.length ≤ 4194304) : Impl Try.prog 53 [.one (dPairs l), .one (dPairs l)] [.one (dbool true)] := by
  refine impl_vc tabOk Try.func53 rfl rfl (by exact Nat.le_of_ble_eq_true rfl) (vc_sound tabOk (by kernel_rfl) ?_)
  refine And.intro rfl (Exists.intro _ (Exists.intro _ (And.intro (SameP_self l h) (And.intro (AsLe.refl _) ?_))))
  exact And.intro (DLe.refl _) trivial


theorem Pom_self (p : Pom) (hP : p.props.length ≤ 4194304) (hM : p.managed.length ≤ 4194304) (hMe : ∀ d ∈ p.managed, d.excluded.length ≤ 4194304) (hD : p.deps.length ≤ 4194304) (hDe : ∀ d ∈ p.deps, d.excluded.length ≤ 4194304) :
    Impl Try.prog 30 [.agg (encPom p), .agg (encPom p)] [.one (dbool true)] := by
  refine impl_vc tabOk Try.func30 rfl rfl (by exact Nat.le_of_ble_eq_true rfl) ?_
  refine WP_seq (vc_sound tabOk (by kernel_rfl) ?_)
  refine WP_sub (Sub.ofL [(2, .ptr 0 0), (3, .ptr 1 0)] [.box 55 ((encPom p).map AV.d), .box 55 ((encPom p).map AV.d)] (Nat.zero_le _) ⟨rfl, rfl, rfl, rfl, trivial⟩ rfl rfl) ?_
  refine WP_seq (vc_sound tabOk (by kernel_rfl) ?_)
  refine And.intro rfl (And.intro rfl ?_)
  refine And.intro rfl (And.intro rfl ?_)
  have q0 : eqStrs [p.parent.group, p.parent.name, p.parent.version] [p.parent.group, p.parent.name, p.parent.version] = true := eqStrs_self _
  apply And.intro
  · exact ltb rfl
  refine And.intro (fun _ => ?_) (fun h => absurd q0 h)
  apply And.intro
  · exact ltb rfl
  refine And.intro (fun _ => ?_) (fun h => absurd q0 h)
  apply And.intro
  · exact ltb rfl
  refine And.intro (fun _ => ?_) (fun h => absurd q0 h)
  apply And.intro
  · exact ltb rfl
  refine And.intro (fun _ => ?_) (fun h => absurd q0 h)
  apply And.intro
  · exact ltb rfl
  refine And.intro (fun _ => ?_) (fun h => absurd q0 h)
  refine And.intro (fun _ => ?_) (fun h => absurd (q0.symm.trans h) (by decide))
  have q_group : (p.group.toList == p.group.toList) = true := self_str _
  apply And.intro
  · exact ltb rfl
  refine And.intro (fun _ => ?_) (fun h => absurd q_group h)
  apply And.intro
  · exact ltb rfl
  refine And.intro (fun _ => ?_) (fun h => absurd q_group h)
  apply And.intro
  · exact ltb rfl
  refine And.intro (fun _ => ?_) (fun h => absurd q_group h)
  apply And.intro
  · exact ltb rfl
  refine And.intro (fun _ => ?_) (fun h => absurd q_group h)
  apply And.intro
  · exact ltb rfl
  refine And.intro (fun _ => ?_) (fun h => absurd q_group h)
  refine And.intro (fun _ => ?_) (fun h => absurd (q_group.symm.trans h) (by decide))
  have q_name : (p.name.toList == p.name.toList) = true := self_str _
  apply And.intro
  · exact ltb rfl
  refine And.intro (fun _ => ?_) (fun h => absurd q_name h)
  apply And.intro
  · exact ltb rfl
  refine And.intro (fun _ => ?_) (fun h => absurd q_name h)
  apply And.intro
  · exact ltb rfl
  refine And.intro (fun _ => ?_) (fun h => absurd q_name h)
  apply And.intro
  · exact ltb rfl
  refine And.intro (fun _ => ?_) (fun h => absurd q_name h)
  apply And.intro
  · exact ltb rfl
  refine And.intro (fun _ => ?_) (fun h => absurd q_name h)
  refine And.intro (fun _ => ?_) (fun h => absurd (q_name.symm.trans h) (by decide))
  have q_version : (p.version.toList == p.version.toList) = true := self_str _
  apply And.intro
  · exact ltb rfl
  refine And.intro (fun _ => ?_) (fun h => absurd q_version h)
  apply And.intro
  · exact ltb rfl
  refine And.intro (fun _ => ?_) (fun h => absurd q_version h)
  apply And.intro
  · exact ltb rfl
  refine And.intro (fun _ => ?_) (fun h => absurd q_version h)
  apply And.intro
  · exact ltb rfl
  refine And.intro (fun _ => ?_) (fun h => absurd q_version h)
  apply And.intro
  · exact ltb rfl
  refine And.intro (fun _ => ?_) (fun h => absurd q_version h)
  refine And.intro (fun _ => ?_) (fun h => absurd (q_version.symm.trans h) (by decide))
  have q_packaging : (p.packaging.toList == p.packaging.toList) = true := self_str _
  apply And.intro
  · exact ltb rfl
  refine And.intro (fun _ => ?_) (fun h => absurd q_packaging h)
  apply And.intro
  · exact ltb rfl
  refine And.intro (fun _ => ?_) (fun h => absurd q_packaging h)
  apply And.intro
  · exact ltb rfl
  refine And.intro (fun _ => ?_) (fun h => absurd q_packaging h)
  apply And.intro
  · exact ltb rfl
  refine And.intro (fun _ => ?_) (fun h => absurd q_packaging h)
  apply And.intro
  · exact ltb rfl
  refine And.intro (fun _ => And.intro rfl (Exists.intro _ (Exists.intro _ (And.intro (PlainP_self p.props hP) (And.intro (AsLe.refl _) ?_))))) (fun h => absurd q_packaging h)
  refine And.intro (fun _ => ?_) (fun h => absurd (q_packaging.symm.trans h) (by decide))
  apply And.intro
  · exact ltb rfl
  refine And.intro (fun _ => ?_) (fun h => absurd rfl h)
  apply And.intro
  · exact ltb rfl
  refine And.intro (fun _ => ?_) (fun h => absurd rfl h)
  apply And.intro
  · exact ltb rfl
  refine And.intro (fun _ => ?_) (fun h => absurd rfl h)
  apply And.intro
  · exact ltb rfl
  refine And.intro (fun _ => ?_) (fun h => absurd rfl h)
  apply And.intro
  · exact ltb rfl
  refine And.intro (fun _ => And.intro rfl (Exists.intro _ (Exists.intro _ (And.intro (SameDep_self p.managed hM hMe) (And.intro (AsLe.refl _) ?_))))) (fun h => absurd rfl h)
  refine And.intro (fun _ => ?_) (fun h => by cases h)
  apply And.intro
  · exact ltb rfl
  refine And.intro (fun _ => ?_) (fun h => absurd rfl h)
  apply And.intro
  · exact ltb rfl
  refine And.intro (fun _ => ?_) (fun h => absurd rfl h)
  apply And.intro
  · exact ltb rfl
  refine And.intro (fun _ => ?_) (fun h => absurd rfl h)
  apply And.intro
  · exact ltb rfl
  refine And.intro (fun _ => ?_) (fun h => absurd rfl h)
  apply And.intro
  · exact ltb rfl
  refine And.intro (fun _ => And.intro rfl (Exists.intro _ (Exists.intro _ (And.intro (SameDep_self p.deps hD hDe) (And.intro (AsLe.refl _) ?_))))) (fun h => absurd rfl h)
  refine And.intro (fun _ => ?_) (fun h => by cases h)
  refine WP_ret ?_
  exact And.intro (DLe.refl _) trivial
end Go.Proofs.Nw.K
end
