/- K13: regions whose order is open: one run in the order of the text serves every order, where no operation turns an own thing. -/
import Derived.Test.YtjfpnnmagnljnaaNwK12
import Derived.Still
open Go Go.RowKit
set_option linter.unusedVariables false
set_option linter.unusedSimpArgs false
namespace Go.Proofs.Nw.K

theorem OpS.congr {P : Program} {op : Op} {E E' : Operand → AV} {st v st'} (h : OpS P op E st v st') (he : ∀ x ∈ op.operands, E' x = E x) : OpS P op E' st v st' :=
  fun o ho w0 σ0 σ gh ρ w hb hr => h o ho w0 σ0 σ gh ρ w hb fun x hx => by rw [← he x hx]; exact hr x hx

section
variable {P : Program} {N : Fm} {ops : Array Oper} {st : List AO} {md : Region.Mode}

/-- is the guard met, as the slots say? -/
def guardE (ops : Array Oper) (o : Oper) (env : Env) (b : Bool) : Prop :=
  match o.guard with
  | none => b = true
  | some (j, want) => ∃ (oj : Oper) (d : Nat) (c : Bool), ops[j]? = some oj ∧ oj.dst = some d ∧ d < N.n ∧ env d = .bool c ∧ b = decide (c = want)

def EYields (P : Program) (N : Fm) (ops : Array Oper) (st : List AO) (o : Oper) (v : AV) (env : Env) : Prop :=
  (∀ d, o.dst = some d → d < N.n) ∧ ((guardE (N := N) ops o env true ∧ OpS P o.op (evalE env) st v st) ∨ (guardE (N := N) ops o env false ∧ v = .junk))

def eOp (P : Program) (N : Fm) (ops : Array Oper) (st : List AO) (i : Nat) (K : Env → Prop) (env : Env) : Prop :=
  match ops[i]? with
  | none => K env
  | some o => ∃ v, EYields P N ops st o v env ∧ K (updO env o.dst v)

theorem eOp_mono {i : Nat} {env : Env} {K K' : Env → Prop} (h : ∀ e, K e → K' e) (hh : eOp P N ops st i K env) : eOp P N ops st i K' env := by
  unfold eOp at *
  split
  · rename_i h0; simp only [h0] at hh; exact h _ hh
  · rename_i o h0; simp only [h0] at hh; obtain ⟨v, h1, h2⟩ := hh; exact ⟨v, h1, h _ h2⟩

def wpAnyE (P : Program) (N : Fm) (md : Region.Mode) (ops : Array Oper) (st : List AO) (K : Env → Prop) : Nat → Array Bool → Env → Prop
  | 0, listed, env => Region.ready md ops listed = [] ∧ K env
  | fuel + 1, listed, env => (Region.ready md ops listed = [] → K env) ∧ ∀ i ∈ Region.ready md ops listed, eOp P N ops st i (wpAnyE P N md ops st K fuel (listed.setIfInBounds i true)) env

theorem guard_wanted {o : Oper} {env : Env} {b : Bool} (h : guardE (N := N) ops o env b) {w0 : World} {σ0 : Sig} {I : Ini} {a : Act} {w : World} (hr : Rel N w0 σ0 I env st a w) : Region.wanted o (yielded ops a.tmps) = b := by
  unfold guardE at h
  unfold Region.wanted
  cases hg : o.guard with
  | none => simp only [hg] at h; simp [h]
  | some g =>
    obtain ⟨j, want⟩ := g
    simp only [hg] at h
    obtain ⟨oj, d, c, h1, h2, h3, h4, h5⟩ := h
    have hy := yielded_of hr h1 h2 h3 h4
    simp only [hy]
    subst h5
    by_cases e : c = want <;> simp [e]

theorem wpOp_of_eOp {i : Nat} {K : Env → Prop} {K' : Act → World → Prop} {Q' : Exit → Act → World → Prop} {w0 : World} {σ0 : Sig} {I : Ini} {env : Env} {a : Act} {w : World} (hr : Rel N w0 σ0 I env st a w)
    (h : ∀ env a w, Rel N w0 σ0 I env st a w → K env → K' a w) (hh : eOp P N ops st i K env) : wpOp P ops Q' i K' a w := by
  unfold eOp at hh
  unfold wpOp
  split
  · rename_i h0; simp only [h0] at hh; exact h _ _ _ hr hh
  · rename_i o h0
    simp only [h0] at hh
    obtain ⟨v, ⟨hd, hy⟩, hK⟩ := hh
    rcases hy with ⟨hg, ho⟩ | ⟨hg, rfl⟩
    · rw [guard_wanted hg hr]
      simp only [if_true]
      exact .inl (op_wp ho hd hr fun a w hr' => h _ _ _ hr' hK)
    · rw [guard_wanted hg hr]
      simp only [Bool.false_eq_true, if_false]
      obtain ⟨g1, g2, hI, σ, gh, hbase, hk0, he⟩ := hr
      exact h _ _ _ (rel_put g1 g2 hI hk0 hbase he o.dst hd (v := .junk) trivial) hK

theorem wpAny_of_E {K : Env → Prop} {Q' : Exit → Act → World → Prop} {w0 : World} {σ0 : Sig} {I : Ini} (hQ : ∀ env a w, Rel N w0 σ0 I env st a w → K env → Q' .normal a w) : ∀ (fuel : Nat) (listed : Array Bool) (env : Env) (a : Act) (w : World),
    Rel N w0 σ0 I env st a w → wpAnyE P N md ops st K fuel listed env → wpAny P md ops Q' fuel listed a w
  | 0, _, _, _, _, hr, h => ⟨h.1, hQ _ _ _ hr h.2⟩
  | fuel + 1, _, _, _, _, hr, h => ⟨fun h0 => hQ _ _ _ hr (h.1 h0), fun i hi => wpOp_of_eOp hr (fun env a w hr' => wpAny_of_E hQ fuel _ env a w hr') (h.2 i hi)⟩

theorem updO_other {env : Env} {dst : Option Tmp} {v : AV} {t : Nat} (h : ∀ d, dst = some d → d ≠ t) : updO env dst v t = env t := by
  cases dst with
  | none => rfl
  | some d => exact upd_other _ _ (fun e => h d rfl e.symm)

theorem updO_comm (env : Env) {x y : Option Tmp} (v u : AV) (h : ∀ d, x = some d → y ≠ some d) : updO (updO env x v) y u = updO (updO env y u) x v := by
  cases x with
  | none => rfl
  | some d =>
    cases y with
    | none => rfl
    | some e =>
      have hne : d ≠ e := fun he => h d rfl (he ▸ rfl)
      funext t
      simp only [updO, upd]
      by_cases h1 : t = e
      · subst h1
        have h2 : ¬ t = d := fun e' => hne e'.symm
        simp [h2]
      · simp [h1]

theorem EYields.keep {o : Oper} {v : AV} {env : Env} (hy : EYields P N ops st o v env) {dst : Option Tmp} {u : AV} (h : ∀ d, dst = some d → d ∉ o.looksAt ops) : EYields P N ops st o v (updO env dst u) := by
  have hE : ∀ x ∈ o.op.operands, evalE (updO env dst u) x = evalE env x := fun x hx => by
    cases x with
    | tmp t =>
      refine updO_other fun d hd e => h d hd ?_
      subst e
      exact List.mem_append_left _ (List.mem_filterMap.2 ⟨.tmp d, by simpa using hx, rfl⟩)
    | _ => rfl
  have hG : ∀ b, guardE (N := N) ops o env b → guardE (N := N) ops o (updO env dst u) b := fun b hg => by
    unfold guardE at *
    cases hgd : o.guard with
    | none => simp only [hgd] at hg ⊢; exact hg
    | some g =>
      obtain ⟨j, want⟩ := g
      simp only [hgd] at hg ⊢
      obtain ⟨oj, d, c, h1, h2, h3, h4, h5⟩ := hg
      refine ⟨oj, d, c, h1, h2, h3, ?_, h5⟩
      rw [updO_other]
      · exact h4
      · intro d' hd' e
        subst e
        exact h d' hd' (by simp [Oper.looksAt, hgd, h1, h2])
  refine ⟨hy.1, ?_⟩
  rcases hy.2 with ⟨hg, ho⟩ | ⟨hg, e⟩
  · exact .inl ⟨hG _ hg, ho.congr hE⟩
  · exact .inr ⟨hG _ hg, e⟩

theorem EYields.drop {o : Oper} {v : AV} {env : Env} {dst : Option Tmp} {u : AV} (hy : EYields P N ops st o v (updO env dst u)) (h : ∀ d, dst = some d → d ∉ o.looksAt ops) : EYields P N ops st o v env := by
  have hE : ∀ x ∈ o.op.operands, evalE env x = evalE (updO env dst u) x := fun x hx => by
    cases x with
    | tmp t =>
      refine (updO_other fun d hd e => h d hd ?_).symm
      subst e
      exact List.mem_append_left _ (List.mem_filterMap.2 ⟨.tmp d, by simpa using hx, rfl⟩)
    | _ => rfl
  have hG : ∀ b, guardE (N := N) ops o (updO env dst u) b → guardE (N := N) ops o env b := fun b hg => by
    unfold guardE at *
    cases hgd : o.guard with
    | none => simp only [hgd] at hg ⊢; exact hg
    | some g =>
      obtain ⟨j, want⟩ := g
      simp only [hgd] at hg ⊢
      obtain ⟨oj, d, c, h1, h2, h3, h4, h5⟩ := hg
      refine ⟨oj, d, c, h1, h2, h3, ?_, h5⟩
      rw [updO_other] at h4
      · exact h4
      · intro d' hd' e
        subst e
        exact h d' hd' (by simp [Oper.looksAt, hgd, h1, h2])
  refine ⟨hy.1, ?_⟩
  rcases hy.2 with ⟨hg, ho⟩ | ⟨hg, e⟩
  · exact .inl ⟨hG _ hg, ho.congr hE⟩
  · exact .inr ⟨hG _ hg, e⟩

theorem eOp_put {j : Nat} {oi oj : Oper} {v : AV} (hj : ops[j]? = some oj) (hap : oi.apart ops oj = true) {K : Env → Prop} {env : Env}
    (hy : EYields P N ops st oi v env) (h : eOp P N ops st j K (updO env oi.dst v)) : eOp P N ops st j (fun env' => EYields P N ops st oi v env' ∧ K (updO env' oi.dst v)) env := by
  obtain ⟨h1, h2, h3⟩ := Oper.apart_spec hap
  unfold eOp at *
  simp only [hj] at *
  obtain ⟨u, hu, hK⟩ := h
  exact ⟨u, hu.drop h1, hy.keep h3, by rw [← updO_comm env v u h2]; exact hK⟩

theorem EYields.eOp {i : Nat} {o : Oper} {v : AV} {env : Env} (hi : ops[i]? = some o) (hy : EYields P N ops st o v env) {K : Env → Prop} (h : K (updO env o.dst v)) : eOp P N ops st i K env := by
  unfold Go.Proofs.Nw.K.eOp
  simp only [hi]
  exact ⟨v, hy, h⟩

theorem wpAnyE_first {K : Env → Prop} {i : Nat} {oi : Oper} {v : AV} (hi : ops[i]? = some oi) :
    ∀ (fuel : Nat) (listed : Array Bool) (env : Env),
      (∀ j oj, ops[j]? = some oj → j ≠ i → listed.getD j true = false → (∀ e ∈ oj.after, Region.binds md e = true → e.on ≠ i) → oi.apart ops oj = true) →
      i ∈ Region.ready md ops listed → EYields P N ops st oi v env →
      wpAnyE P N md ops st K fuel (listed.setIfInBounds i true) (updO env oi.dst v) → wpAnyE P N md ops st K (fuel + 1) listed env := by
  intro fuel
  induction fuel with
  | zero =>
    intro listed env _ hr hy H
    refine ⟨fun h => (by rw [h] at hr; cases hr), fun j hj => ?_⟩
    by_cases hji : j = i
    · subst hji; exact hy.eOp hi H
    · have := ready_mono hj hji
      rw [H.1] at this
      cases this
  | succ fuel ih =>
    intro listed env hfree hr hy H
    refine ⟨fun h => (by rw [h] at hr; cases hr), fun j hj => ?_⟩
    by_cases hji : j = i
    · subst hji; exact hy.eOp hi H
    · have h1 := H.2 j (ready_mono hj hji)
      obtain ⟨hjun, oj, hoj, hall⟩ := mem_ready.1 hj
      have hnot : ∀ e ∈ oj.after, Region.binds md e = true → e.on ≠ i := fun e he hb heq => by
        have h1 := hall e he hb
        have h0 := (mem_ready.1 hr).1
        rw [heq] at h1
        rcases Nat.lt_or_ge i listed.size with h' | h'
        · simp [h'] at h0 h1; rw [h0] at h1; cases h1
        · simp [Array.getElem?_eq_none h'] at h1
      have h2 := eOp_put hoj (hfree j oj hoj hji hjun hnot) hy h1
      have hfree' : ∀ k ok, ops[k]? = some ok → k ≠ i → (listed.setIfInBounds j true).getD k true = false →
          (∀ e ∈ ok.after, Region.binds md e = true → e.on ≠ i) → oi.apart ops ok = true := fun k ok hk hki hun hno => by
        refine hfree k ok hk hki ?_ hno
        by_cases hjk : j = k
        · subst hjk; exact hjun
        · rw [getD_set_ne true hjk] at hun; exact hun
      refine eOp_mono (fun a' h3 => ih (listed.setIfInBounds j true) a' hfree' (ready_mono hr (Ne.symm hji)) h3.1 ?_) h2
      rw [Array.setIfInBounds_comm _ _ hji]
      exact h3.2

/-- the run in the order of the text -/
def WQ (P : Program) (N : Fm) (ops : Array Oper) (st : List AO) (K : Env → Prop) : List Oper → Env → Prop
  | [], env => K env
  | o :: rest, env => ∃ v, EYields P N ops st o v env ∧ WQ P N ops st K rest (updO env o.dst v)

theorem wpAnyE_lex {K : Env → Prop} : ∀ (l : List Oper) (k : Nat) (listed : Array Bool) (env : Env), (∀ j, l[j]? = ops[k + j]?) →
    Region.lexFrom md ops l.length k listed = true → WQ P N ops st K l env → wpAnyE P N md ops st K l.length listed env
  | [], _, _, _, _, hB, h => ⟨by simpa [Region.lexFrom] using hB, h⟩
  | o :: l, k, listed, env, hl, hB, h => by
    have h0 : ops[k]? = some o := by simpa using (hl 0).symm
    simp only [List.length_cons, Region.lexFrom, Bool.and_eq_true] at hB
    obtain ⟨⟨hr, hf⟩, hB'⟩ := hB
    obtain ⟨v, hy, hK⟩ := h
    exact wpAnyE_first h0 l.length listed env (Region.free_spec h0 hf) (by simpa using hr) hy
      (wpAnyE_lex l (k + 1) _ _ (fun j => by have := hl (j + 1); simpa [Nat.add_assoc, Nat.add_comm 1 j] using this) hB' hK)

theorem WP_draw {env : Env} {Q : Post} {id : Nat} {l : List Oper} (hm : P.follows .mixedOrders = true) (hB : Region.lexB .any l.toArray = true)
    (h : WQ P N l.toArray st (fun env => Q .normal env st) l env) : WP P N (.region id l.toArray true) env st Q := by
  intro w0 σ0 I a w hr
  simp only [Region.lexB, Bool.and_eq_true] at hB
  have hr' : Rel N w0 σ0 I env st a { w with drawn := w.drawn + 1 } := by
    obtain ⟨h1, h2, hI, σ, gh, hb, hk, he⟩ := hr
    exact ⟨h1, h2, hI, σ, gh, hb.grown ⟨rfl, rfl, rfl, Nat.le_refl _, fun _ _ _ => rfl⟩, hk, he⟩
  refine wp_region_any hm (wpAny_of_E (K := fun env => Q .normal env st) (w0 := w0) (σ0 := σ0) (I := I) (fun env a w hr h => ⟨env, st, hr, h⟩) _ _ env _ _ hr' ?_)
  have := wpAnyE_lex (P := P) (N := N) (st := st) (K := fun env => Q .normal env st) (md := .any) (ops := l.toArray) l 0 (Array.replicate l.toArray.size false) env (by simp) (by simpa using hB.2) h
  simpa using this

theorem WQ_nil {K : Env → Prop} {env : Env} (h : K env) : WQ P N ops st K [] env := h

theorem WQ_op {K : Env → Prop} {env : Env} {rest : List Oper} {dst : Option Tmp} {op : Op} {ty : TypeId} {pos : String} {after : Array Edge} {v : AV} (ho : OpS P op (evalE env) st v st) (hd : ∀ d, dst = some d → d < N.n)
    (h : WQ P N ops st K rest (updO env dst v)) : WQ P N ops st K (⟨dst, op, ty, pos, after, none⟩ :: rest) env :=
  ⟨v, ⟨hd, .inl ⟨rfl, ho⟩⟩, h⟩

theorem WQ_guard {K : Env → Prop} {env : Env} {rest : List Oper} {dst : Option Tmp} {op : Op} {ty : TypeId} {pos : String} {after : Array Edge} {j d : Nat} {want b : Bool} {oj : Oper} (hj : ops[j]? = some oj) (hdj : oj.dst = some d) (hdN : d < N.n) (hb : env d = .bool b) (hd : ∀ d, dst = some d → d < N.n)
    (h1 : b = want → ∃ v, OpS P op (evalE env) st v st ∧ WQ P N ops st K rest (updO env dst v))
    (h2 : b ≠ want → WQ P N ops st K rest (updO env dst .junk)) : WQ P N ops st K (⟨dst, op, ty, pos, after, some (j, want)⟩ :: rest) env := by
  by_cases e : b = want
  · obtain ⟨v, ho, h⟩ := h1 e
    exact ⟨v, ⟨hd, .inl ⟨⟨oj, d, b, hj, hdj, hdN, hb, by simp [e]⟩, ho⟩⟩, h⟩
  · exact ⟨.junk, ⟨hd, .inr ⟨⟨oj, d, b, hj, hdj, hdN, hb, by simp [e]⟩, rfl⟩⟩, h2 e⟩

end
end Go.Proofs.Nw.K
