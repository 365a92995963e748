/- Bundle 8: NwK25, NwV3, NwQM1, NwQP1. -/
import Derived.Test.YtblenipidihemaaDoorNwA7
section
/- K25: regions whose order is open: every order, one by one. -/
open Go Go.RowKit
set_option linter.unusedVariables false
set_option linter.unusedSimpArgs false
namespace Go.Proofs.Nw.K

/-- which ones may come next -/
def rdyL (l : List Oper) (listed : List Nat) : List Nat :=
  (List.range l.length).filter fun i => !listed.contains i && (match l[i]? with
    | some o => o.after.toList.all fun e => !Region.binds .any e || listed.contains e.on
    | none => false)

section
variable (P : Program) (T : Tab) (N : Fm)
def allX : List Nat → (Nat → Prop) → Prop
  | [], _ => True
  | i :: r, f => f i ∧ allX r f
def vcX (l : List Oper) : Nat → List Nat → Env → List AO → (Env → List AO → Prop) → Prop
  | 0, listed, env, st, K => rdyL l listed = [] ∧ K env st
  | n + 1, listed, env, st, K => match rdyL l listed with
    | [] => K env st
    | i :: r => allX (i :: r) fun i => match l[i]? with
      | some o => o.guard = none ∧ vcOp P T o.op (evalE env) st fun v st' => vcX l n (i :: listed) (updO env o.dst v) st' K
      | none => False
end

section
variable {P : Program} {T : Tab} {N : Fm} (hT : TabOk P T)
include hT
omit hT in
theorem allX_spec {l : List Nat} {f : Nat → Prop} (h : allX l f) : ∀ i ∈ l, f i := by
  induction l with
  | nil => intro i hi; cases hi
  | cons a r ih =>
    intro i hi
    rcases List.mem_cons.1 hi with rfl | hi
    · exact h.1
    · exact ih h.2 i hi

omit hT in
theorem rdy_spec {l : List Oper} {listed : Array Bool} {ls : List Nat} (hsz : listed.size = l.length) (hls : ∀ i, i < l.length → (listed[i]? = some true ↔ i ∈ ls)) (hlt : ∀ i ∈ ls, i < l.length) (i : Nat) : i ∈ Region.ready .any l.toArray listed ↔ i ∈ rdyL l ls := by
  unfold rdyL
  rw [mem_ready, List.mem_filter, List.mem_range]
  have key : ∀ j, listed.getD j false = true ↔ j ∈ ls := fun j => by
    by_cases hj : j < l.length
    · rw [← hls j hj]
      have : j < listed.size := by omega
      simp [Array.getD_eq_getD_getElem?, this]
    · have : ¬ j < listed.size := by omega
      simp only [Array.getD_eq_getD_getElem?, Array.getElem?_eq_none (Nat.le_of_not_lt this), Option.getD_none]
      exact ⟨fun h => (by cases h), fun h => absurd (hlt j h) hj⟩
  have key2 : ∀ j, j < l.length → (listed.getD j true = false ↔ ¬ j ∈ ls) := fun j hj => by
    rw [← key j]
    have : j < listed.size := by omega
    simp [Array.getD_eq_getD_getElem?, this]
  constructor
  · rintro ⟨h0, o, ho, hall⟩
    have ho' : l[i]? = some o := by simpa using ho
    have hil : i < l.length := (List.getElem?_eq_some_iff.1 ho').1
    refine ⟨hil, ?_⟩
    simp only [ho', Bool.and_eq_true, Bool.not_eq_true', List.all_eq_true, Bool.or_eq_true]
    refine ⟨by simpa using (key2 i hil).1 h0, fun e he => ?_⟩
    cases hb : Region.binds .any e with
    | false => exact .inl rfl
    | true => exact .inr (by simpa using (key e.on).1 (hall e (by simpa using he) hb))
  · rintro ⟨hil, h⟩
    have ho' : l[i]? = some l[i] := List.getElem?_eq_getElem hil
    simp only [ho', Bool.and_eq_true, Bool.not_eq_true', List.all_eq_true, Bool.or_eq_true] at h
    refine ⟨(key2 i hil).2 (by simpa using h.1), l[i], by simp, fun e he hb => ?_⟩
    rcases h.2 e (by simpa using he) with h2 | h2
    · rw [hb] at h2; cases h2
    · exact (key e.on).2 (by simpa using h2)

theorem runX {l : List Oper} (hd : dstOk N l) {w0 : World} {σ0 : Sig} {I : Ini} {Q' : Exit → Act → World → Prop} {K : Env → List AO → Prop}
    (hQ : ∀ env st a w, Rel N w0 σ0 I env st a w → K env st → Q' .normal a w) :
    ∀ (n : Nat) (ls : List Nat) (listed : Array Bool) (env : Env) (st : List AO) (a : Act) (w : World), listed.size = l.length → (∀ i, i < l.length → (listed[i]? = some true ↔ i ∈ ls)) → (∀ i ∈ ls, i < l.length) →
      Rel N w0 σ0 I env st a w → vcX P T l n ls env st K → wpAny P .any l.toArray Q' n listed a w
  | 0, ls, listed, env, st, a, w, hsz, hls, hlt, hr, h => by
    refine ⟨List.eq_nil_iff_forall_not_mem.2 fun i hi => ?_, hQ _ _ _ _ hr h.2⟩
    have := (rdy_spec hsz hls hlt i).1 hi
    rw [h.1] at this
    cases this
  | n + 1, ls, listed, env, st, a, w, hsz, hls, hlt, hr, h => by
    unfold vcX at h
    split at h
    · rename_i h0
      refine ⟨fun _ => hQ _ _ _ _ hr h, fun i hi => ?_⟩
      have := (rdy_spec hsz hls hlt i).1 hi
      rw [h0] at this
      cases this
    · rename_i i0 r h0
      refine ⟨fun hn => ?_, fun i hi => ?_⟩
      · have : i0 ∈ Region.ready .any l.toArray listed := (rdy_spec hsz hls hlt i0).2 (by rw [h0]; simp)
        rw [hn] at this
        cases this
      · have hi' := (rdy_spec hsz hls hlt i).1 hi
        rw [h0] at hi'
        have := allX_spec h i hi'
        split at this
        · rename_i o ho
          obtain ⟨hg, hv⟩ := this
          obtain ⟨v, st', h1, h2⟩ := vcOp_sound hT hv
          have hil : i < l.length := (List.getElem?_eq_some_iff.1 ho).1
          unfold wpOp
          have hoa : l.toArray[i]? = some o := by simpa using ho
          simp only [hoa]
          have hw : Region.wanted o (yielded l.toArray a.tmps) = true := by unfold Region.wanted; rw [hg]
          rw [hw]
          simp only [if_true]
          refine .inl (op_wp h1 (hd o (List.mem_of_getElem? ho)) hr fun a w hr' => runX hd hQ n (i :: ls) _ _ _ a w (by simpa using hsz) (fun j hj => ?_) (fun j hj => ?_) hr' h2)
          · rw [Array.getElem?_setIfInBounds]
            by_cases hij : i = j
            · subst hij; simp [hsz, hil]
            · rw [if_neg hij, hls j hj, List.mem_cons]
              exact ⟨fun h => .inr h, fun h => h.elim (fun e => absurd e.symm hij) id⟩
          · rcases List.mem_cons.1 hj with rfl | hj
            · exact hil
            · exact hlt j hj
        · exact this.elim

/-- an open region, every order of it -/
theorem vc_drawX {env : Env} {st : List AO} {Q : Post} {id : Nat} {ops : Array Oper} (hB : ops.all (fun o => match o.dst with | some d => decide (d < N.n) | none => true) = true)
    (h : vcX P T ops.toList ops.toList.length [] env st (Q .normal)) : WP P N (.region id ops true) env st Q := by
  obtain ⟨l⟩ := ops
  have hd : dstOk N l := fun o ho d hdo => by
    simp only [Array.all_eq_true_iff_forall_mem] at hB
    have := hB o (by simpa using ho)
    rw [hdo] at this
    simpa using this
  intro w0 σ0 I a w hr
  have hr' : Rel N w0 σ0 I env st a { w with drawn := w.drawn + 1 } := by
    obtain ⟨h1, h2, hI, σ, gh, hb, hk, he⟩ := hr
    exact ⟨h1, h2, hI, σ, gh, hb.grown ⟨rfl, rfl, rfl, Nat.le_refl _, fun _ _ _ => rfl⟩, hk, he⟩
  refine wp_region_any hT.mixed (runX hT hd (K := Q .normal) (fun env st a w hrel hq => ⟨env, st, hrel, hq⟩) l.length [] _ env st a _ (by simp) (fun i hi => ?_) (fun i hi => by cases hi) hr' h)
  simp [Array.getElem?_replicate]
end
end Go.Proofs.Nw.K
end
section
/- V3: open regions, without what goes without saying. -/
open Go Go.RowKit
set_option linter.unusedVariables false
set_option linter.unusedSimpArgs false
namespace Go.Proofs.Nw.K
section
variable {P : Program} {T : Tab} {N : Fm} (hT : TabOk P T)
include hT

theorem cG_sound {ops : List Oper} : ∀ {l : List Oper} {env : Env} {st : List AO} {K : Env → List AO → Prop}, dstOk N l → cL P T N ops l env st K → GQ P N ops.toArray l env st K
  | [], env, st, K, _, h => h
  | o :: rest, env, st, K, hd, h => by
    have hd0 : ∀ d, o.dst = some d → d < N.n := hd o (by simp)
    have hdr : dstOk N rest := fun o' ho' => hd o' (by simp [ho'])
    obtain ⟨dst, op, ty, pos, after, guard⟩ := o
    refine ⟨hd0, ?_⟩
    unfold cL at h
    split at h
    · rename_i hg
      simp only at hg
      subst hg
      exact .inl ⟨rfl, (cOp2_sound P T hT h).mono fun v st' h2 => cG_sound hdr h2⟩
    · rename_i j want hg
      simp only at hg
      subst hg
      split at h
      · rename_i oj hj
        split at h
        · rename_i d hdj
          split at h
          · rename_i b hb
            obtain ⟨hdN, h12⟩ := gd_out h
            obtain ⟨h1, h2⟩ := gBr_out h12
            have hdN : d < N.n := Nat.le_of_ble_eq_true hdN
            by_cases e : b = want
            · have h1 := h1 e
              rw [upd_eq (show env d = .bool want by rw [hb, e])] at h1
              obtain ⟨v, st', h3, h4⟩ := cOp_sound P T hT h1
              exact .inl ⟨⟨oj, d, b, by simpa using hj, hdj, hdN, .inl ⟨hb, by simp [e]⟩⟩, h3.n (cG_sound hdr h4)⟩
            · have h2 := h2 e
              rw [upd_eq (show env d = .bool (!want) by rw [hb]; cases b <;> cases want <;> simp_all)] at h2
              exact .inr ⟨⟨oj, d, b, by simpa using hj, hdj, hdN, .inl ⟨hb, by simp [e]⟩⟩, cG_sound hdr h2⟩
          · rename_i hb
            obtain ⟨hdN, h2⟩ := gd_out h
            exact .inr ⟨⟨oj, d, true, by simpa using hj, hdj, Nat.le_of_ble_eq_true hdN, .inr ⟨hb, rfl⟩⟩, cG_sound hdr h2⟩
          · exact h.elim
        · exact h.elim
      · exact h.elim

theorem cQ_sound2 {ops : List Oper} {st : List AO} : ∀ {l : List Oper} {env : Env} {K : Env → Prop}, dstOk N l → cQ P T N ops st l env K → WQ2 P N ops.toArray st K l env
  | [], env, K, hd, h => h
  | o :: rest, env, K, hd, h => by
    have hd0 : ∀ d, o.dst = some d → d < N.n := hd o (by simp)
    have hdr : dstOk N rest := fun o' ho' => hd o' (by simp [ho'])
    obtain ⟨dst, op, ty, pos, after, guard⟩ := o
    unfold cQ at h
    split at h
    · rename_i hg
      simp only at hg
      subst hg
      by_cases hmv : ∃ s, op = .move (.tmp s)
      · obtain ⟨s, rfl⟩ := hmv
        have h' := (force_out (show force (evalE env (.tmp s)) (fun v => Ob (st = st) (cQ P T N ops st rest (updO env dst v) K)) from h)).out
        refine ⟨env s, ⟨hd0, .inl ⟨rfl, ?_⟩⟩, fun s' hs' _ => ?_, cQ_sound2 hdr h'.2⟩
        · exact op_move (P := P) (E := evalE env) (st := st) (.tmp s)
        · simp only [Op.move.injEq, Operand.tmp.injEq] at hs'
          rw [hs']
      · obtain ⟨v, st', h1, h2, h3⟩ := cOp_sound P T hT h
        subst h2
        exact ⟨v, ⟨hd0, .inl ⟨rfl, h1⟩⟩, fun s hs _ => absurd ⟨s, hs⟩ hmv, cQ_sound2 hdr h3⟩
    · rename_i j want hg
      simp only at hg
      subst hg
      split at h
      · rename_i oj hj
        split at h
        · rename_i d hdj
          split at h
          · rename_i b hb
            obtain ⟨hdN, h12⟩ := gd_out h
            obtain ⟨h1, h2⟩ := gBr_out h12
            have hdN : d < N.n := Nat.le_of_ble_eq_true hdN
            by_cases e : b = want
            · have h1 := h1 e
              rw [upd_eq (show env d = .bool want by rw [hb, e])] at h1
              obtain ⟨v, st', h3, h4, h5⟩ := cOp_sound P T hT h1
              subst h4
              exact ⟨v, ⟨hd0, .inl ⟨⟨oj, d, b, by simpa using hj, hdj, hdN, .inl ⟨hb, by simp [e]⟩⟩, h3⟩⟩, fun s _ hg => (by cases hg), cQ_sound2 hdr h5⟩
            · have h2 := h2 e
              rw [upd_eq (show env d = .bool (!want) by rw [hb]; cases b <;> cases want <;> simp_all)] at h2
              exact ⟨.junk, ⟨hd0, .inr ⟨⟨oj, d, b, by simpa using hj, hdj, hdN, .inl ⟨hb, by simp [e]⟩⟩, rfl⟩⟩, fun s _ hg => (by cases hg), cQ_sound2 hdr h2⟩
          · exact h.elim
        · exact h.elim
      · exact h.elim

/-- any order, nothing of one's own turned -/
theorem cdraw1 {env : Env} {st : List AO} {Q : Post} {id : Nat} {ops : Array Oper} (hB : splitB N ops.size ops = true)
    (h : cQ P T N ops.toList st ops.toList env fun env => Q .normal env st) : WP P N (.region id ops true) env st Q := by
  obtain ⟨l⟩ := ops
  have hd : dstOk N l := fun o ho d hdo => by
    simp only [splitB, Bool.and_eq_true, Array.all_eq_true_iff_forall_mem] at hB
    have := hB.1.1.1.1 o (by simpa using ho)
    rw [hdo] at this
    simpa using this
  refine WP_draw hT.mixed ?_ (cQ_sound P T N hT hd h)
  simp only [splitB, Bool.and_eq_true] at hB
  have := hB.1.1.1.2
  simpa using this

/-- an open region: the first m operations turn nothing; the others come after all ahead of them -/
theorem cdraw2 {env : Env} {st : List AO} {Q : Post} {id : Nat} {ops : Array Oper} (m : Nat) (hB : splitB N m ops = true)
    (h : cQ P T N (ops.toList.take m) st (ops.toList.take m) env fun env => cL P T N ops.toList (ops.toList.drop m) env st (Q .normal)) : WP P N (.region id ops true) env st Q := by
  obtain ⟨l⟩ := ops
  have hd : dstOk N l := fun o ho d hdo => by
    simp only [splitB, Bool.and_eq_true, Array.all_eq_true_iff_forall_mem] at hB
    have := hB.1.1.1.1 o (by simpa using ho)
    rw [hdo] at this
    simpa using this
  refine WP_draw2 m hT.mixed hB ?_
  have := cQ_sound P T N hT (fun o ho => hd o (List.mem_of_mem_take ho)) h
  refine WQ_mono (fun env hk => ?_) this
  exact cG_sound hT (fun o ho => hd o (List.mem_of_mem_drop ho)) hk

theorem cdraw4 {env : Env} {st : List AO} {Q : Post} {id : Nat} {ops : Array Oper} (m : Nat) (M : List Nat) (hB : earlyB N m M ops = true)
    (h : cQ P T N (ops.toList.take m) st (ops.toList.take m) env fun env => cL P T N ops.toList (ops.toList.drop m) env st (Q .normal)) : WP P N (.region id ops true) env st Q := by
  obtain ⟨l⟩ := ops
  have hd : dstOk N l := fun o ho d hdo => by
    simp only [earlyB, Bool.and_eq_true, Array.all_eq_true_iff_forall_mem] at hB
    have := hB.1.1.1.1 o (by simpa using ho)
    rw [hdo] at this
    simpa using this
  refine WP_draw4 m M hT.mixed hB ?_
  have h2 := cQ_sound2 hT (fun o ho => hd o (List.mem_of_mem_take ho)) h
  exact WQ2_mono (fun e he => cG_sound hT (fun o ho => hd o (List.mem_of_mem_drop ho)) he) h2
omit hT in
theorem unused_ (P : Program) : True := trivial
end

/-- an operation that does the same whatever own things there are -/
inductive PuK (P : Program) (T : Tab) (op : Op) (E : Operand → AV) (K : AV → Prop) : Prop
  | mk (w : AV) (h : ∀ st, cOp P T op E st fun v st' => v = w ∧ st' = st) (k : K w) : PuK P T op E K

section
variable (P : Program) (T : Tab) (N : Fm)
def cT (ops : List Oper) : List Bool → List Oper → Env → List (List AO) → (Env → List AO → Prop) → Prop
  | _, [], env, st :: _, K => K env st
  | true :: tf, o :: rest, env, st :: st2 :: r, K => match o.guard with
    | none => cOp P T o.op (evalE env) st fun v st' => Ob (st' = st2) (cT ops tf rest (updO env o.dst v) (st2 :: r) K)
    | some _ => False
  | false :: tf, o :: rest, env, st :: r, K => match o.guard with
    | none => PuK P T o.op (evalE env) fun v => cT ops tf rest (updO env o.dst v) (st :: r) K
    | some (j, want) => match ops[j]? with
      | some oj => match oj.dst with
        | some d => match env d with
          | .v (.one (.sc (.bool b))) => gd (Nat.blt d N.n) (gBr want b (PuK P T o.op (evalE (upd env d (.bool want))) fun v => cT ops tf rest (updO (upd env d (.bool want)) o.dst v) (st :: r) K)
              (cT ops tf rest (updO (upd env d (.bool (!want))) o.dst .junk) (st :: r) K))
          | _ => False
        | none => False
      | none => False
  | _, _, _, _, _ => False
end

section
variable {P : Program} {T : Tab} {N : Fm} (hT : TabOk P T)
include hT
theorem PuK.out {op : Op} {E : Operand → AV} {K : AV → Prop} (h : PuK P T op E K) : ∃ w, (∀ st, OpS P op E st w st) ∧ K w := by
  obtain ⟨w, h, k⟩ := h
  refine ⟨w, fun st => ?_, k⟩
  obtain ⟨v, st', h1, rfl, rfl⟩ := cOp_sound P T hT (h st)
  exact h1

theorem cT_sound {ops : List Oper} {Ss : List (List AO)} {tf0 : List Bool} {K : Env → List AO → Prop} : ∀ {l : List Oper} {tf : List Bool} {k j : Nat} {env : Env} {r : List (List AO)}, dstOk N l → tf = tf0.drop k → r = Ss.drop j → cT P T N ops tf l env r K →
    WT P N ops.toArray tf0 Ss (fun env j => ∀ s, Ss[j]? = some s → K env s) k l env j
  | [], tf, k, j, env, r, _, htf, hr, h => by
    show ∀ s, Ss[j]? = some s → K env s
    intro s hs
    have h2 : r = s :: Ss.drop (j + 1) := by rw [hr]; exact (List.getElem?_eq_some_iff.1 hs).2 ▸ List.drop_eq_getElem_cons (List.getElem?_eq_some_iff.1 hs).1
    subst h2
    unfold cT at h
    exact h
  | o :: rest, tf, k, j, env, r, hd, htf, hr, h => by
    have hd0 : ∀ d, o.dst = some d → d < N.n := hd o (by simp)
    have hdr : dstOk N rest := fun o' ho' => hd o' (by simp [ho'])
    cases tf with
    | nil => cases r <;> (unfold cT at h; exact h.elim)
    | cons b tf =>
      have hb : tf0.getD k false = b := by
        have : tf0[k]? = some b := by
          have := congrArg (fun l => l[0]?) htf
          simpa using this.symm
        simp [List.getD, this]
      have htf' : tf = tf0.drop (k + 1) := by
        have := congrArg List.tail htf
        simpa [List.tail_drop] using this
      cases r with
      | nil => cases b <;> (unfold cT at h; exact h.elim)
      | cons st r =>
        have hst : Ss[j]? = some st := by
          have := congrArg (fun l => l[0]?) hr
          simpa using this.symm
        have hr' : r = Ss.drop (j + 1) := by
          have := congrArg List.tail hr
          simpa [List.tail_drop] using this
        obtain ⟨dst, op, ty, pos, after, guard⟩ := o
        cases b with
        | true =>
          cases r with
          | nil => unfold cT at h; exact h.elim
          | cons st2 r =>
            have hst2 : Ss[j + 1]? = some st2 := by
              have := congrArg (fun l => l[0]?) hr'
              simpa using this.symm
            unfold cT at h
            split at h
            · rename_i hg
              simp only at hg
              subst hg
              obtain ⟨v, st', h1, h3⟩ := cOp_sound P T hT h
              obtain ⟨rfl, h3⟩ := h3
              refine ⟨v, j + 1, ?_, cT_sound hdr htf' hr' h3⟩
              unfold Yt
              rw [hb]
              exact ⟨rfl, _, _, hst, hst2, hd0, rfl, h1⟩
            · exact h.elim
        | false =>
          unfold cT at h
          split at h
          · rename_i hg
            simp only at hg
            subst hg
            obtain ⟨v, h1, h3⟩ := PuK.out hT h
            refine ⟨v, j, ?_, cT_sound hdr htf' hr h3⟩
            unfold Yt
            rw [hb]
            exact ⟨rfl, fun s hs => ⟨hd0, .inl ⟨rfl, h1 s⟩⟩⟩
          · rename_i jj want hg
            simp only at hg
            subst hg
            split at h
            · rename_i oj hj
              split at h
              · rename_i d hdj
                split at h
                · rename_i b hbb
                  obtain ⟨hdN, h12⟩ := gd_out h
                  obtain ⟨h1, h2⟩ := gBr_out h12
                  have hdN : d < N.n := Nat.le_of_ble_eq_true hdN
                  by_cases e : b = want
                  · have h1 := h1 e
                    rw [upd_eq (show env d = .bool want by rw [hbb, e])] at h1
                    obtain ⟨v, h3, h6⟩ := PuK.out hT h1
                    refine ⟨v, j, ?_, cT_sound hdr htf' hr h6⟩
                    unfold Yt
                    rw [hb]
                    exact ⟨rfl, fun s hs => ⟨hd0, .inl ⟨⟨oj, d, b, by simpa using hj, hdj, hdN, .inl ⟨hbb, by simp [e]⟩⟩, h3 s⟩⟩⟩
                  · have h2 := h2 e
                    rw [upd_eq (show env d = .bool (!want) by rw [hbb]; cases b <;> cases want <;> simp_all)] at h2
                    refine ⟨.junk, j, ?_, cT_sound hdr htf' hr h2⟩
                    unfold Yt
                    rw [hb]
                    exact ⟨rfl, fun s hs => ⟨hd0, .inr ⟨⟨oj, d, b, by simpa using hj, hdj, hdN, .inl ⟨hbb, by simp [e]⟩⟩, rfl⟩⟩⟩
                · exact h.elim
              · exact h.elim
            · exact h.elim

/-- an open region: of the first m operations the marked ones turn own things, from stage to stage; the others come after all ahead of them -/
theorem cdraw3 {env : Env} {st : List AO} {Q : Post} {id : Nat} {ops : Array Oper} (m : Nat) (tf : List Bool) (Ss : List (List AO)) (hB : stageB N m tf ops = true)
    (h : cT P T N (ops.toList.take m) tf (ops.toList.take m) env (st :: Ss) fun env st => cL P T N ops.toList (ops.toList.drop m) env st (Q .normal)) : WP P N (.region id ops true) env st Q := by
  obtain ⟨l⟩ := ops
  have hd : dstOk N l := fun o ho d hdo => by
    simp only [stageB, splitB, Bool.and_eq_true, Array.all_eq_true_iff_forall_mem] at hB
    have := hB.1.1.1.1.1 o (by simpa using ho)
    rw [hdo] at this
    simpa using this
  refine WP_draw3 m tf (st :: Ss) hT.mixed hB rfl ?_
  have h2 := cT_sound (Ss := st :: Ss) (tf0 := tf) (k := 0) (j := 0) hT (fun o ho => hd o (List.mem_of_mem_take ho)) rfl rfl h
  exact WT_mono (fun env j hk s hs => cG_sound hT (fun o ho => hd o (List.mem_of_mem_drop ho)) (hk s hs)) h2
end
end Go.Proofs.Nw.K
end
section
/- QM1: contracts proved by hand, as functions that may have no answer. -/
open Go Go.RowKit Go.Proofs
set_option linter.unusedVariables false
namespace Go.Proofs.Nw.K
def g_words_Split (n : Nat) (v : Str) : Option (List Wd) := chk (v.size ≤ 4194303) <| some (splitOf v)
theorem g_words_Split.ok (n : Nat) (v : Str) (r : List Wd) (h : g_words_Split n v = some r) : Impl Tryd.prog 36 [.one (dstr v)] [.one (.tl Wd 2 encWd zWd r)] := by
  obtain ⟨h1, h⟩ := chk_some h
  obtain rfl := Option.some.inj h
  exact Split_impl v h1
def g_order_Words (n : Nat) (a b : List Wd) : Option Int := chk (a.length ≤ 4194304 ∧ b.length ≤ 4194304 ∧ (∀ w ∈ a, w.text.size ≤ maxLen) ∧ (∀ w ∈ b, w.text.size ≤ maxLen)) <| some (wordsCmp a b)
theorem g_order_Words.ok (n : Nat) (a b : List Wd) (r : Int) (h : g_order_Words n a b = some r) : Impl Tryd.prog 22 [.one (.tl Wd 2 encWd zWd a), .one (.tl Wd 2 encWd zWd b)] [.one (dint r)] := by
  obtain ⟨⟨h1, h2, h3, h4⟩, h⟩ := chk_some h
  obtain rfl := Option.some.inj h
  exact Words_impl a b h1 h2 h3 h4
end Go.Proofs.Nw.K
end
section
/- Printed by a program of mine (pg.py): functions that may have no answer, and that the code comes to them. -/
open Go Go.RowKit Go.Proofs
set_option linter.unusedVariables false
set_option linter.unusedSimpArgs false
set_option maxHeartbeats 1000000
namespace Go.Proofs.Nw.K

/-! ### newel/newelref05.text -/
def g_newelref05_text (n : Nat) (a0 : Str) (a1 : Str) : Option (Int) :=
  bif (Op.bytesLess a0.toList a1.toList) then (
    some (-1)
  ) else (
    bif (!(Op.bytesLess a0.toList a1.toList || a0.toList == a1.toList)) then (
      some 1
    ) else (
      some 0
    )
  )
theorem g_newelref05_text.ok (n : Nat) (a0 : Str) (a1 : Str) (r : Int) (h : g_newelref05_text n a0 a1 = some r) : Impl Tryd.prog 64 [.one (dstr a0), .one (dstr a1)] [.one (dint r)] := by
  refine impl_wp tabOk Tryd.func64 rfl rfl (by kernel_rfl) ?_
  unfold g_newelref05_text at h
  refine WP_seq ?_
  refine vcc_sound _ _ _ tabOk (by exact rfl) ?_
  repeat (first | refine Ob.mk (by first | rfl | omega | assumption | exact ⟨rfl, rfl, (List.length_map _).symm⟩ | exact ⟨rfl, rfl, by rw [List.length_map]; omega⟩) ?_ | refine Br.t ?_ | refine Br.f ?_)
  refine WP_seq ?_
  refine WP_block ?_
  refine WP_seq ?_
  refine vcc_sound _ _ _ tabOk (by exact rfl) ?_
  repeat (first | refine Ob.mk (by first | rfl | omega | assumption | exact ⟨rfl, rfl, (List.length_map _).symm⟩ | exact ⟨rfl, rfl, by rw [List.length_map]; omega⟩) ?_ | refine Br.t ?_ | refine Br.f ?_)
  refine vcc_sound _ _ _ tabOk (by exact rfl) ?_
  repeat (first | refine Ob.mk (by first | rfl | omega | assumption | exact ⟨rfl, rfl, (List.length_map _).symm⟩ | exact ⟨rfl, rfl, by rw [List.length_map]; omega⟩) ?_ | refine Br.t ?_ | refine Br.f ?_)
  refine Br.mk (fun b1 => ?_) (fun b1 => ?_)
  · replace h := bif_t b1 h
    refine WP_seq ?_
    refine vcc_sound _ _ _ tabOk (by exact rfl) ?_
    repeat (first | refine Ob.mk (by first | rfl | omega | assumption | exact ⟨rfl, rfl, (List.length_map _).symm⟩ | exact ⟨rfl, rfl, by rw [List.length_map]; omega⟩) ?_ | refine Br.t ?_ | refine Br.f ?_)
    refine WP_ret ?_
    obtain rfl := Option.some.inj h
    repeat (first | refine Ob.mk (by first | rfl | omega | assumption | exact ⟨rfl, rfl, (List.length_map _).symm⟩ | exact ⟨rfl, rfl, by rw [List.length_map]; omega⟩) ?_ | refine Br.t ?_ | refine Br.f ?_)
    exact ⟨DLe.refl _, trivial⟩
  · replace h := bif_f b1 h
    refine WP_seq ?_
    refine vcc_sound _ _ _ tabOk (by exact rfl) ?_
    repeat (first | refine Ob.mk (by first | rfl | omega | assumption | exact ⟨rfl, rfl, (List.length_map _).symm⟩ | exact ⟨rfl, rfl, by rw [List.length_map]; omega⟩) ?_ | refine Br.t ?_ | refine Br.f ?_)
    refine vcc_sound _ _ _ tabOk (by exact rfl) ?_
    repeat (first | refine Ob.mk (by first | rfl | omega | assumption | exact ⟨rfl, rfl, (List.length_map _).symm⟩ | exact ⟨rfl, rfl, by rw [List.length_map]; omega⟩) ?_ | refine Br.t ?_ | refine Br.f ?_)
    refine Br.mk (fun b2 => ?_) (fun b2 => ?_)
    · replace h := bif_t b2 h
      refine WP_seq ?_
      refine vcc_sound _ _ _ tabOk (by exact rfl) ?_
      repeat (first | refine Ob.mk (by first | rfl | omega | assumption | exact ⟨rfl, rfl, (List.length_map _).symm⟩ | exact ⟨rfl, rfl, by rw [List.length_map]; omega⟩) ?_ | refine Br.t ?_ | refine Br.f ?_)
      refine WP_ret ?_
      obtain rfl := Option.some.inj h
      repeat (first | refine Ob.mk (by first | rfl | omega | assumption | exact ⟨rfl, rfl, (List.length_map _).symm⟩ | exact ⟨rfl, rfl, by rw [List.length_map]; omega⟩) ?_ | refine Br.t ?_ | refine Br.f ?_)
      exact ⟨DLe.refl _, trivial⟩
    · replace h := bif_f b2 h
      refine WP_skip ?_
      refine WP_seq ?_
      refine vcc_sound _ _ _ tabOk (by exact rfl) ?_
      repeat (first | refine Ob.mk (by first | rfl | omega | assumption | exact ⟨rfl, rfl, (List.length_map _).symm⟩ | exact ⟨rfl, rfl, by rw [List.length_map]; omega⟩) ?_ | refine Br.t ?_ | refine Br.f ?_)
      refine WP_ret ?_
      obtain rfl := Option.some.inj h
      repeat (first | refine Ob.mk (by first | rfl | omega | assumption | exact ⟨rfl, rfl, (List.length_map _).symm⟩ | exact ⟨rfl, rfl, by rw [List.length_map]; omega⟩) ?_ | refine Br.t ?_ | refine Br.f ?_)
      exact ⟨DLe.refl _, trivial⟩

/-! ### newel/newelref05.one -/
def g_newelref05_one.k7 (n : Nat) (a0 : Wd) (a1 : Wd) (x6 : Bool) : Option (Int) :=
  bif x6 then (
    bif ((a0.text.size : Int) != (a1.text.size : Int)) then (
      bif (decide ((a0.text.size : Int) < (a1.text.size : Int))) then (
        some (-1)
      ) else (
        some 1
      )
    ) else (
      (g_newelref05_text n a0.text a1.text).bind fun y13 =>
      some y13
    )
  ) else (
    some 0
  )
def g_newelref05_one (n : Nat) (a0 : Wd) (a1 : Wd) : Option (Int) :=
  bif (decide (a0.kind < a1.kind)) then (
    some (-1)
  ) else (
    bif (decide (a0.kind > a1.kind)) then (
      some 1
    ) else (
      bif (a0.kind == 8) then (
        (g_newelref05_text n a0.text a1.text).bind fun y4 =>
        some y4
      ) else (
        bif (a0.kind == 9) then (
          g_newelref05_one.k7 n a0 a1 true
        ) else (
          g_newelref05_one.k7 n a0 a1 (a0.kind == 10)
        )
      )
    )
  )
theorem g_newelref05_one.ok (n : Nat) (a0 : Wd) (a1 : Wd) (r : Int) (h : g_newelref05_one n a0 a1 = some r) : Impl Tryd.prog 42 [.agg (encWd a0), .agg (encWd a1)] [.one (dint r)] := by
  refine impl_wp tabOk Tryd.func42 rfl rfl (by kernel_rfl) ?_
  unfold g_newelref05_one at h
  refine WP_seq ?_
  refine vcc_sound _ _ _ tabOk (by exact rfl) ?_
  repeat (first | refine Ob.mk (by first | rfl | omega | assumption | exact ⟨rfl, rfl, (List.length_map _).symm⟩ | exact ⟨rfl, rfl, by rw [List.length_map]; omega⟩) ?_ | refine Br.t ?_ | refine Br.f ?_)
  refine WP_seq ?_
  refine WP_block ?_
  refine WP_seq ?_
  refine vcc_sound _ _ _ tabOk (by exact rfl) ?_
  repeat (first | refine Ob.mk (by first | rfl | omega | assumption | exact ⟨rfl, rfl, (List.length_map _).symm⟩ | exact ⟨rfl, rfl, by rw [List.length_map]; omega⟩) ?_ | refine Br.t ?_ | refine Br.f ?_)
  refine vcc_sound _ _ _ tabOk (by exact rfl) ?_
  repeat (first | refine Ob.mk (by first | rfl | omega | assumption | exact ⟨rfl, rfl, (List.length_map _).symm⟩ | exact ⟨rfl, rfl, by rw [List.length_map]; omega⟩) ?_ | refine Br.t ?_ | refine Br.f ?_)
  refine Br.mk (fun b1 => ?_) (fun b1 => ?_)
  · replace h := bif_t b1 h
    refine WP_seq ?_
    refine vcc_sound _ _ _ tabOk (by exact rfl) ?_
    repeat (first | refine Ob.mk (by first | rfl | omega | assumption | exact ⟨rfl, rfl, (List.length_map _).symm⟩ | exact ⟨rfl, rfl, by rw [List.length_map]; omega⟩) ?_ | refine Br.t ?_ | refine Br.f ?_)
    refine WP_ret ?_
    obtain rfl := Option.some.inj h
    repeat (first | refine Ob.mk (by first | rfl | omega | assumption | exact ⟨rfl, rfl, (List.length_map _).symm⟩ | exact ⟨rfl, rfl, by rw [List.length_map]; omega⟩) ?_ | refine Br.t ?_ | refine Br.f ?_)
    exact ⟨DLe.refl _, trivial⟩
  · replace h := bif_f b1 h
    refine WP_seq ?_
    refine vcc_sound _ _ _ tabOk (by exact rfl) ?_
    repeat (first | refine Ob.mk (by first | rfl | omega | assumption | exact ⟨rfl, rfl, (List.length_map _).symm⟩ | exact ⟨rfl, rfl, by rw [List.length_map]; omega⟩) ?_ | refine Br.t ?_ | refine Br.f ?_)
    refine vcc_sound _ _ _ tabOk (by exact rfl) ?_
    repeat (first | refine Ob.mk (by first | rfl | omega | assumption | exact ⟨rfl, rfl, (List.length_map _).symm⟩ | exact ⟨rfl, rfl, by rw [List.length_map]; omega⟩) ?_ | refine Br.t ?_ | refine Br.f ?_)
    refine Br.mk (fun b2 => ?_) (fun b2 => ?_)
    · replace h := bif_t b2 h
      refine WP_seq ?_
      refine vcc_sound _ _ _ tabOk (by exact rfl) ?_
      repeat (first | refine Ob.mk (by first | rfl | omega | assumption | exact ⟨rfl, rfl, (List.length_map _).symm⟩ | exact ⟨rfl, rfl, by rw [List.length_map]; omega⟩) ?_ | refine Br.t ?_ | refine Br.f ?_)
      refine WP_ret ?_
      obtain rfl := Option.some.inj h
      repeat (first | refine Ob.mk (by first | rfl | omega | assumption | exact ⟨rfl, rfl, (List.length_map _).symm⟩ | exact ⟨rfl, rfl, by rw [List.length_map]; omega⟩) ?_ | refine Br.t ?_ | refine Br.f ?_)
      exact ⟨DLe.refl _, trivial⟩
    · replace h := bif_f b2 h
      refine WP_seq ?_
      refine vcc_sound _ _ _ tabOk (by exact rfl) ?_
      repeat (first | refine Ob.mk (by first | rfl | omega | assumption | exact ⟨rfl, rfl, (List.length_map _).symm⟩ | exact ⟨rfl, rfl, by rw [List.length_map]; omega⟩) ?_ | refine Br.t ?_ | refine Br.f ?_)
      refine vcc_sound _ _ _ tabOk (by exact rfl) ?_
      repeat (first | refine Ob.mk (by first | rfl | omega | assumption | exact ⟨rfl, rfl, (List.length_map _).symm⟩ | exact ⟨rfl, rfl, by rw [List.length_map]; omega⟩) ?_ | refine Br.t ?_ | refine Br.f ?_)
      refine Br.mk (fun b3 => ?_) (fun b3 => ?_)
      · replace h := bif_t b3 h
        refine WP_seq ?_
        refine vcc_sound _ _ _ tabOk (by exact rfl) ?_
        obtain ⟨y4, hy4, h⟩ := bind_some h
        repeat (first | refine Ob.mk (by first | rfl | omega | assumption | exact ⟨rfl, rfl, (List.length_map _).symm⟩ | exact ⟨rfl, rfl, by rw [List.length_map]; omega⟩) ?_ | refine Br.t ?_ | refine Br.f ?_)
        refine CallD.mk _ _ (g_newelref05_text.ok n a0.text a1.text y4 hy4) (by exact ⟨DLe.refl _, DLe.refl _, trivial⟩) ?_
        repeat (first | refine Ob.mk (by first | rfl | omega | assumption | exact ⟨rfl, rfl, (List.length_map _).symm⟩ | exact ⟨rfl, rfl, by rw [List.length_map]; omega⟩) ?_ | refine Br.t ?_ | refine Br.f ?_)
        refine WP_ret ?_
        obtain rfl := Option.some.inj h
        repeat (first | refine Ob.mk (by first | rfl | omega | assumption | exact ⟨rfl, rfl, (List.length_map _).symm⟩ | exact ⟨rfl, rfl, by rw [List.length_map]; omega⟩) ?_ | refine Br.t ?_ | refine Br.f ?_)
        exact ⟨DLe.refl _, trivial⟩
      · replace h := bif_f b3 h
        refine WP_seq_cut (α := {p : Bool // g_newelref05_one.k7 n a0 a1 p = some r}) (fun p => ofL [(2, .ptr 0 0), (3, .ptr 1 0), (26, .bool p.1)]) (fun p => [.box 68 ((encWd a0).map AV.d), .box 68 ((encWd a1).map AV.d)]) ?_ ?_
        rotate_left
        · rintro ⟨x6, h⟩
          replace h : g_newelref05_one.k7 n a0 a1 x6 = some r := h
          unfold g_newelref05_one.k7 at h
          try dsimp only
          refine vcc_sound _ _ _ tabOk (by exact rfl) ?_
          repeat (first | refine Ob.mk (by first | rfl | omega | assumption | exact ⟨rfl, rfl, (List.length_map _).symm⟩ | exact ⟨rfl, rfl, by rw [List.length_map]; omega⟩) ?_ | refine Br.t ?_ | refine Br.f ?_)
          refine Br.mk (fun b8 => ?_) (fun b8 => ?_)
          · replace h := bif_t b8 h
            refine WP_seq ?_
            refine WP_seq ?_
            refine vcc_sound _ _ _ tabOk (by exact rfl) ?_
            repeat (first | refine Ob.mk (by first | rfl | omega | assumption | exact ⟨rfl, rfl, (List.length_map _).symm⟩ | exact ⟨rfl, rfl, by rw [List.length_map]; omega⟩) ?_ | refine Br.t ?_ | refine Br.f ?_)
            refine vcc_sound _ _ _ tabOk (by exact rfl) ?_
            repeat (first | refine Ob.mk (by first | rfl | omega | assumption | exact ⟨rfl, rfl, (List.length_map _).symm⟩ | exact ⟨rfl, rfl, by rw [List.length_map]; omega⟩) ?_ | refine Br.t ?_ | refine Br.f ?_)
            refine Br.mk (fun b11 => ?_) (fun b11 => ?_)
            · replace h := bif_t b11 h
              refine WP_seq ?_
              refine WP_seq ?_
              refine vcc_sound _ _ _ tabOk (by exact rfl) ?_
              repeat (first | refine Ob.mk (by first | rfl | omega | assumption | exact ⟨rfl, rfl, (List.length_map _).symm⟩ | exact ⟨rfl, rfl, by rw [List.length_map]; omega⟩) ?_ | refine Br.t ?_ | refine Br.f ?_)
              refine vcc_sound _ _ _ tabOk (by exact rfl) ?_
              repeat (first | refine Ob.mk (by first | rfl | omega | assumption | exact ⟨rfl, rfl, (List.length_map _).symm⟩ | exact ⟨rfl, rfl, by rw [List.length_map]; omega⟩) ?_ | refine Br.t ?_ | refine Br.f ?_)
              refine Br.mk (fun b12 => ?_) (fun b12 => ?_)
              · replace h := bif_t b12 h
                refine WP_seq ?_
                refine vcc_sound _ _ _ tabOk (by exact rfl) ?_
                repeat (first | refine Ob.mk (by first | rfl | omega | assumption | exact ⟨rfl, rfl, (List.length_map _).symm⟩ | exact ⟨rfl, rfl, by rw [List.length_map]; omega⟩) ?_ | refine Br.t ?_ | refine Br.f ?_)
                refine WP_ret ?_
                obtain rfl := Option.some.inj h
                repeat (first | refine Ob.mk (by first | rfl | omega | assumption | exact ⟨rfl, rfl, (List.length_map _).symm⟩ | exact ⟨rfl, rfl, by rw [List.length_map]; omega⟩) ?_ | refine Br.t ?_ | refine Br.f ?_)
                exact ⟨DLe.refl _, trivial⟩
              · replace h := bif_f b12 h
                refine WP_skip ?_
                refine WP_seq ?_
                refine vcc_sound _ _ _ tabOk (by exact rfl) ?_
                repeat (first | refine Ob.mk (by first | rfl | omega | assumption | exact ⟨rfl, rfl, (List.length_map _).symm⟩ | exact ⟨rfl, rfl, by rw [List.length_map]; omega⟩) ?_ | refine Br.t ?_ | refine Br.f ?_)
                refine WP_ret ?_
                obtain rfl := Option.some.inj h
                repeat (first | refine Ob.mk (by first | rfl | omega | assumption | exact ⟨rfl, rfl, (List.length_map _).symm⟩ | exact ⟨rfl, rfl, by rw [List.length_map]; omega⟩) ?_ | refine Br.t ?_ | refine Br.f ?_)
                exact ⟨DLe.refl _, trivial⟩
            · replace h := bif_f b11 h
              refine WP_skip ?_
              refine WP_seq ?_
              refine vcc_sound _ _ _ tabOk (by exact rfl) ?_
              obtain ⟨y13, hy13, h⟩ := bind_some h
              repeat (first | refine Ob.mk (by first | rfl | omega | assumption | exact ⟨rfl, rfl, (List.length_map _).symm⟩ | exact ⟨rfl, rfl, by rw [List.length_map]; omega⟩) ?_ | refine Br.t ?_ | refine Br.f ?_)
              refine CallD.mk _ _ (g_newelref05_text.ok n a0.text a1.text y13 hy13) (by exact ⟨DLe.refl _, DLe.refl _, trivial⟩) ?_
              repeat (first | refine Ob.mk (by first | rfl | omega | assumption | exact ⟨rfl, rfl, (List.length_map _).symm⟩ | exact ⟨rfl, rfl, by rw [List.length_map]; omega⟩) ?_ | refine Br.t ?_ | refine Br.f ?_)
              refine WP_ret ?_
              obtain rfl := Option.some.inj h
              repeat (first | refine Ob.mk (by first | rfl | omega | assumption | exact ⟨rfl, rfl, (List.length_map _).symm⟩ | exact ⟨rfl, rfl, by rw [List.length_map]; omega⟩) ?_ | refine Br.t ?_ | refine Br.f ?_)
              exact ⟨DLe.refl _, trivial⟩
          · replace h := bif_f b8 h
            refine WP_skip ?_
            refine WP_seq ?_
            refine vcc_sound _ _ _ tabOk (by exact rfl) ?_
            repeat (first | refine Ob.mk (by first | rfl | omega | assumption | exact ⟨rfl, rfl, (List.length_map _).symm⟩ | exact ⟨rfl, rfl, by rw [List.length_map]; omega⟩) ?_ | refine Br.t ?_ | refine Br.f ?_)
            refine WP_ret ?_
            obtain rfl := Option.some.inj h
            repeat (first | refine Ob.mk (by first | rfl | omega | assumption | exact ⟨rfl, rfl, (List.length_map _).symm⟩ | exact ⟨rfl, rfl, by rw [List.length_map]; omega⟩) ?_ | refine Br.t ?_ | refine Br.f ?_)
            exact ⟨DLe.refl _, trivial⟩
        refine vcc_sound _ _ _ tabOk (by exact rfl) ?_
        repeat (first | refine Ob.mk (by first | rfl | omega | assumption | exact ⟨rfl, rfl, (List.length_map _).symm⟩ | exact ⟨rfl, rfl, by rw [List.length_map]; omega⟩) ?_ | refine Br.t ?_ | refine Br.f ?_)
        refine Br.mk (fun b14 => ?_) (fun b14 => ?_)
        · replace h := bif_t b14 h
          repeat (first | refine Ob.mk (by first | rfl | omega | assumption | exact ⟨rfl, rfl, (List.length_map _).symm⟩ | exact ⟨rfl, rfl, by rw [List.length_map]; omega⟩) ?_ | refine Br.t ?_ | refine Br.f ?_)
          repeat (first | refine Ob.mk (by first | rfl | omega | assumption | exact ⟨rfl, rfl, (List.length_map _).symm⟩ | exact ⟨rfl, rfl, by rw [List.length_map]; omega⟩) ?_ | refine Br.t ?_ | refine Br.f ?_)
          exact ⟨⟨true, h⟩, Sub.ofL _ _ (Nat.zero_le _) ⟨rfl, rfl, rfl, rfl, rfl, rfl, trivial⟩ rfl rfl⟩
        · replace h := bif_f b14 h
          repeat (first | refine Ob.mk (by first | rfl | omega | assumption | exact ⟨rfl, rfl, (List.length_map _).symm⟩ | exact ⟨rfl, rfl, by rw [List.length_map]; omega⟩) ?_ | refine Br.t ?_ | refine Br.f ?_)
          repeat (first | refine Ob.mk (by first | rfl | omega | assumption | exact ⟨rfl, rfl, (List.length_map _).symm⟩ | exact ⟨rfl, rfl, by rw [List.length_map]; omega⟩) ?_ | refine Br.t ?_ | refine Br.f ?_)
          exact ⟨⟨(a0.kind == 10), h⟩, Sub.ofL _ _ (Nat.zero_le _) ⟨rfl, rfl, rfl, rfl, rfl, rfl, trivial⟩ rfl rfl⟩

/-! ### newel/newelref05.number -/
def g_newelref05_number.k12 (n : Nat) (a0 : Pt) (x13 : Str) : Option (Wd) :=
  bif (x13.toList == emp.toList) then (
    some (Wd.mk 6 emp)
  ) else (
    bif a0.dash then (
      some (Wd.mk 9 x13)
    ) else (
      some (Wd.mk 10 x13)
    )
  )
def g_newelref05_number.l12b (n : Nat) (a0 : Pt) (rec12 : Str → Option (Wd)) (x16 : Str) : Option (Wd) :=
  bif (decide ((x16.size : Int) > 0)) then (
    chk (0 ≤ (0 : Int) ∧ 0 < (x16.size : Int)) <|
    bif ((byteAt x16 0) == 48) then (
      chk (0 ≤ (1 : Int) ∧ 1 ≤ (x16.size : Int)) <|
      rec12 (x16.extract 1 x16.size)
    ) else (
      g_newelref05_number.k12 n a0 x16
    )
  ) else (
    g_newelref05_number.k12 n a0 x16
  )
def g_newelref05_number.l12 (n : Nat) (a0 : Pt) : Nat → Str → Option (Wd)
  | 0, _ => none
  | m + 1, x16 => g_newelref05_number.l12b n a0 (g_newelref05_number.l12 n a0 m) x16
def g_newelref05_number (n : Nat) (a0 : Pt) : Option (Wd) :=
  g_newelref05_number.l12 n a0 n a0.text
theorem g_newelref05_number.ok (n : Nat) (a0 : Pt) (r : Wd) (h : g_newelref05_number n a0 = some r) : Impl Tryd.prog 76 [.agg (encPt a0)] [.agg (encWd r)] := by
  refine impl_wp tabOk Tryd.func76 rfl rfl (by kernel_rfl) ?_
  unfold g_newelref05_number at h
  refine WP_seq ?_
  refine vcc_sound _ _ _ tabOk (by exact rfl) ?_
  repeat (first | refine Ob.mk (by first | rfl | omega | assumption | exact ⟨rfl, rfl, (List.length_map _).symm⟩ | exact ⟨rfl, rfl, by rw [List.length_map]; omega⟩) ?_ | refine Br.t ?_ | refine Br.f ?_)
  refine WP_seq ?_
  refine vcc_sound _ _ _ tabOk (by exact rfl) ?_
  repeat (first | refine Ob.mk (by first | rfl | omega | assumption | exact ⟨rfl, rfl, (List.length_map _).symm⟩ | exact ⟨rfl, rfl, by rw [List.length_map]; omega⟩) ?_ | refine Br.t ?_ | refine Br.f ?_)
  refine WP_seq_cut (α := {p : Str // g_newelref05_number.k12 n a0 p = some r}) (fun p => ofL [(1, .ptr 0 0), (2, .ptr 1 0), (3, .str p.1)]) (fun p => [.box 97 ((encPt a0).map AV.d), .box 68 ((encWd (Wd.mk 0 emp)).map AV.d)]) (WP_block (WP_loop (α := {x : Nat × Str // g_newelref05_number.l12 n a0 x.1 x.2 = some r}) (fun x => ofL [(1, .ptr 0 0), (2, .ptr 1 0), (3, .str x.1.2)]) (fun x => [.box 97 ((encPt a0).map AV.d), .box 68 ((encWd (Wd.mk 0 emp)).map AV.d)]) (fun x => x.1.1) ⟨(n, a0.text), h⟩ (Sub.ofL _ _ (Nat.zero_le _) ⟨rfl, rfl, rfl, rfl, rfl, rfl, trivial⟩ rfl rfl) ?_)) ?_
  rotate_left
  · rintro ⟨x13, h⟩
    replace h : g_newelref05_number.k12 n a0 x13 = some r := h
    unfold g_newelref05_number.k12 at h
    try dsimp only
    refine WP_seq ?_
    refine WP_block ?_
    refine WP_seq ?_
    refine vcc_sound _ _ _ tabOk (by exact rfl) ?_
    repeat (first | refine Ob.mk (by first | rfl | omega | assumption | exact ⟨rfl, rfl, (List.length_map _).symm⟩ | exact ⟨rfl, rfl, by rw [List.length_map]; omega⟩) ?_ | refine Br.t ?_ | refine Br.f ?_)
    refine vcc_sound _ _ _ tabOk (by exact rfl) ?_
    repeat (first | refine Ob.mk (by first | rfl | omega | assumption | exact ⟨rfl, rfl, (List.length_map _).symm⟩ | exact ⟨rfl, rfl, by rw [List.length_map]; omega⟩) ?_ | refine Br.t ?_ | refine Br.f ?_)
    refine Br.mk (fun b14 => ?_) (fun b14 => ?_)
    · replace h := bif_t b14 h
      refine WP_seq ?_
      refine vcc_sound _ _ _ tabOk (by exact rfl) ?_
      repeat (first | refine Ob.mk (by first | rfl | omega | assumption | exact ⟨rfl, rfl, (List.length_map _).symm⟩ | exact ⟨rfl, rfl, by rw [List.length_map]; omega⟩) ?_ | refine Br.t ?_ | refine Br.f ?_)
      refine WP_ret ?_
      obtain rfl := Option.some.inj h
      repeat (first | refine Ob.mk (by first | rfl | omega | assumption | exact ⟨rfl, rfl, (List.length_map _).symm⟩ | exact ⟨rfl, rfl, by rw [List.length_map]; omega⟩) ?_ | refine Br.t ?_ | refine Br.f ?_)
      exact ⟨DLe.refl _, trivial⟩
    · replace h := bif_f b14 h
      refine WP_seq ?_
      refine vcc_sound _ _ _ tabOk (by exact rfl) ?_
      repeat (first | refine Ob.mk (by first | rfl | omega | assumption | exact ⟨rfl, rfl, (List.length_map _).symm⟩ | exact ⟨rfl, rfl, by rw [List.length_map]; omega⟩) ?_ | refine Br.t ?_ | refine Br.f ?_)
      refine vcc_sound _ _ _ tabOk (by exact rfl) ?_
      repeat (first | refine Ob.mk (by first | rfl | omega | assumption | exact ⟨rfl, rfl, (List.length_map _).symm⟩ | exact ⟨rfl, rfl, by rw [List.length_map]; omega⟩) ?_ | refine Br.t ?_ | refine Br.f ?_)
      refine Br.mk (fun b15 => ?_) (fun b15 => ?_)
      · replace h := bif_t b15 h
        refine WP_seq ?_
        refine vcc_sound _ _ _ tabOk (by exact rfl) ?_
        repeat (first | refine Ob.mk (by first | rfl | omega | assumption | exact ⟨rfl, rfl, (List.length_map _).symm⟩ | exact ⟨rfl, rfl, by rw [List.length_map]; omega⟩) ?_ | refine Br.t ?_ | refine Br.f ?_)
        refine WP_ret ?_
        obtain rfl := Option.some.inj h
        repeat (first | refine Ob.mk (by first | rfl | omega | assumption | exact ⟨rfl, rfl, (List.length_map _).symm⟩ | exact ⟨rfl, rfl, by rw [List.length_map]; omega⟩) ?_ | refine Br.t ?_ | refine Br.f ?_)
        exact ⟨DLe.refl _, trivial⟩
      · replace h := bif_f b15 h
        refine WP_skip ?_
        refine WP_seq ?_
        refine vcc_sound _ _ _ tabOk (by exact rfl) ?_
        repeat (first | refine Ob.mk (by first | rfl | omega | assumption | exact ⟨rfl, rfl, (List.length_map _).symm⟩ | exact ⟨rfl, rfl, by rw [List.length_map]; omega⟩) ?_ | refine Br.t ?_ | refine Br.f ?_)
        refine WP_ret ?_
        obtain rfl := Option.some.inj h
        repeat (first | refine Ob.mk (by first | rfl | omega | assumption | exact ⟨rfl, rfl, (List.length_map _).symm⟩ | exact ⟨rfl, rfl, by rw [List.length_map]; omega⟩) ?_ | refine Br.t ?_ | refine Br.f ?_)
        exact ⟨DLe.refl _, trivial⟩
  rintro ⟨⟨m12, x16⟩, h⟩
  cases m12 with
  | zero => exact nomatch (show (none : Option (Wd)) = some r from h)
  | succ m12 =>
    replace h : g_newelref05_number.l12b n a0 (g_newelref05_number.l12 n a0 m12) x16 = some r := h
    unfold g_newelref05_number.l12b at h
    try dsimp only
    refine WP_seq ?_
    refine WP_seq ?_
    refine vcc_sound _ _ _ tabOk (by exact rfl) ?_
    repeat (first | refine Ob.mk (by first | rfl | omega | assumption | exact ⟨rfl, rfl, (List.length_map _).symm⟩ | exact ⟨rfl, rfl, by rw [List.length_map]; omega⟩) ?_ | refine Br.t ?_ | refine Br.f ?_)
    refine Br.mk (fun b17 => ?_) (fun b17 => ?_)
    · replace h := bif_t b17 h
      obtain ⟨c18, h⟩ := chk_some h
      repeat (first | refine Ob.mk (by first | rfl | omega | assumption | exact ⟨rfl, rfl, (List.length_map _).symm⟩ | exact ⟨rfl, rfl, by rw [List.length_map]; omega⟩) ?_ | refine Br.t ?_ | refine Br.f ?_)
      refine vcc_sound _ _ _ tabOk (by exact rfl) ?_
      repeat (first | refine Ob.mk (by first | rfl | omega | assumption | exact ⟨rfl, rfl, (List.length_map _).symm⟩ | exact ⟨rfl, rfl, by rw [List.length_map]; omega⟩) ?_ | refine Br.t ?_ | refine Br.f ?_)
      refine Br.mk (fun b19 => ?_) (fun b19 => ?_)
      · replace h := bif_t b19 h
        refine WP_skip ?_
        refine WP_block ?_
        refine vcc_sound _ _ _ tabOk (by exact rfl) ?_
        obtain ⟨c20, h⟩ := chk_some h
        repeat (first | refine Ob.mk (by first | rfl | omega | assumption | exact ⟨rfl, rfl, (List.length_map _).symm⟩ | exact ⟨rfl, rfl, by rw [List.length_map]; omega⟩) ?_ | refine Br.t ?_ | refine Br.f ?_)
        repeat (first | refine Ob.mk (by first | rfl | omega | assumption | exact ⟨rfl, rfl, (List.length_map _).symm⟩ | exact ⟨rfl, rfl, by rw [List.length_map]; omega⟩) ?_ | refine Br.t ?_ | refine Br.f ?_)
        exact ⟨⟨(m12, (x16.extract 1 x16.size)), h⟩, Nat.lt_succ_self _, Sub.ofL _ _ (Nat.zero_le _) ⟨rfl, rfl, rfl, rfl, rfl, rfl, trivial⟩ rfl rfl⟩
      · replace h := bif_f b19 h
        refine WP_exit ?_
        repeat (first | refine Ob.mk (by first | rfl | omega | assumption | exact ⟨rfl, rfl, (List.length_map _).symm⟩ | exact ⟨rfl, rfl, by rw [List.length_map]; omega⟩) ?_ | refine Br.t ?_ | refine Br.f ?_)
        exact ⟨⟨x16, h⟩, Sub.ofL _ _ (Nat.zero_le _) ⟨rfl, rfl, rfl, rfl, rfl, rfl, trivial⟩ rfl rfl⟩
    · replace h := bif_f b17 h
      repeat (first | refine Ob.mk (by first | rfl | omega | assumption | exact ⟨rfl, rfl, (List.length_map _).symm⟩ | exact ⟨rfl, rfl, by rw [List.length_map]; omega⟩) ?_ | refine Br.t ?_ | refine Br.f ?_)
      refine vcc_sound _ _ _ tabOk (by exact rfl) ?_
      repeat (first | refine Ob.mk (by first | rfl | omega | assumption | exact ⟨rfl, rfl, (List.length_map _).symm⟩ | exact ⟨rfl, rfl, by rw [List.length_map]; omega⟩) ?_ | refine Br.t ?_ | refine Br.f ?_)
      refine WP_exit ?_
      repeat (first | refine Ob.mk (by first | rfl | omega | assumption | exact ⟨rfl, rfl, (List.length_map _).symm⟩ | exact ⟨rfl, rfl, by rw [List.length_map]; omega⟩) ?_ | refine Br.t ?_ | refine Br.f ?_)
      exact ⟨⟨x16, h⟩, Sub.ofL _ _ (Nat.zero_le _) ⟨rfl, rfl, rfl, rfl, rfl, rfl, trivial⟩ rfl rfl⟩

/-! ### newel/newelref01.Digit -/
def g_newelref01_Digit (n : Nat) (a0 : Int) : Option (Bool) :=
  bif (decide (a0 ≥ 48)) then (
    some (decide (a0 ≤ 57))
  ) else (
    some false
  )
theorem g_newelref01_Digit.ok (n : Nat) (a0 : Int) (r : Bool) (h : g_newelref01_Digit n a0 = some r) : Impl Tryd.prog 75 [.one (dbyte a0)] [.one (dbool r)] := by
  refine impl_wp tabOk Tryd.func75 rfl rfl (by kernel_rfl) ?_
  unfold g_newelref01_Digit at h
  refine WP_seq ?_
  refine vcc_sound _ _ _ tabOk (by exact rfl) ?_
  repeat (first | refine Ob.mk (by first | rfl | omega | assumption | exact ⟨rfl, rfl, (List.length_map _).symm⟩ | exact ⟨rfl, rfl, by rw [List.length_map]; omega⟩) ?_ | refine Br.t ?_ | refine Br.f ?_)
  refine WP_seq ?_
  refine vcc_sound _ _ _ tabOk (by exact rfl) ?_
  repeat (first | refine Ob.mk (by first | rfl | omega | assumption | exact ⟨rfl, rfl, (List.length_map _).symm⟩ | exact ⟨rfl, rfl, by rw [List.length_map]; omega⟩) ?_ | refine Br.t ?_ | refine Br.f ?_)
  refine Br.mk (fun b1 => ?_) (fun b1 => ?_)
  · replace h := bif_t b1 h
    repeat (first | refine Ob.mk (by first | rfl | omega | assumption | exact ⟨rfl, rfl, (List.length_map _).symm⟩ | exact ⟨rfl, rfl, by rw [List.length_map]; omega⟩) ?_ | refine Br.t ?_ | refine Br.f ?_)
    refine WP_ret ?_
    obtain rfl := Option.some.inj h
    repeat (first | refine Ob.mk (by first | rfl | omega | assumption | exact ⟨rfl, rfl, (List.length_map _).symm⟩ | exact ⟨rfl, rfl, by rw [List.length_map]; omega⟩) ?_ | refine Br.t ?_ | refine Br.f ?_)
    exact ⟨DLe.refl _, trivial⟩
  · replace h := bif_f b1 h
    repeat (first | refine Ob.mk (by first | rfl | omega | assumption | exact ⟨rfl, rfl, (List.length_map _).symm⟩ | exact ⟨rfl, rfl, by rw [List.length_map]; omega⟩) ?_ | refine Br.t ?_ | refine Br.f ?_)
    refine WP_ret ?_
    obtain rfl := Option.some.inj h
    repeat (first | refine Ob.mk (by first | rfl | omega | assumption | exact ⟨rfl, rfl, (List.length_map _).symm⟩ | exact ⟨rfl, rfl, by rw [List.length_map]; omega⟩) ?_ | refine Br.t ?_ | refine Br.f ?_)
    exact ⟨DLe.refl _, trivial⟩

/-! ### newel/newelref05.word -/
def g_newelref05_word.k42 (n : Nat) (a0 : Pt) (x41 : Int) : Option (Wd) :=
  bif (x41 == 8) then (
    some (Wd.mk x41 a0.text)
  ) else (
    some (Wd.mk x41 emp)
  )
def g_newelref05_word.k36 (n : Nat) (a0 : Pt) (x35 : Int) : Option (Wd) :=
  bif a0.number then (
    bif (a0.text.toList == (⟨#[97]⟩ : Str).toList) then (
      g_newelref05_word.k42 n a0 1
    ) else (
      bif (a0.text.toList == (⟨#[98]⟩ : Str).toList) then (
        g_newelref05_word.k42 n a0 2
      ) else (
        bif (a0.text.toList == (⟨#[109]⟩ : Str).toList) then (
          g_newelref05_word.k42 n a0 3
        ) else (
          g_newelref05_word.k42 n a0 x35
        )
      )
    )
  ) else (
    g_newelref05_word.k42 n a0 x35
  )
def g_newelref05_word.k59 (n : Nat) (a0 : Pt) (x58 : Bool) : Option (Wd) :=
  bif x58 then (
    g_newelref05_word.k36 n a0 6
  ) else (
    bif (a0.text.toList == (⟨#[115, 112]⟩ : Str).toList) then (
      g_newelref05_word.k36 n a0 7
    ) else (
      g_newelref05_word.k36 n a0 8
    )
  )
def g_newelref05_word.k53 (n : Nat) (a0 : Pt) (x52 : Bool) : Option (Wd) :=
  bif x52 then (
    g_newelref05_word.k36 n a0 4
  ) else (
    bif (a0.text.toList == (⟨#[115, 110, 97, 112, 115, 104, 111, 116]⟩ : Str).toList) then (
      g_newelref05_word.k36 n a0 5
    ) else (
      bif (a0.text.toList == (⟨#[103, 97]⟩ : Str).toList) then (
        g_newelref05_word.k59 n a0 true
      ) else (
        bif (a0.text.toList == (⟨#[102, 105, 110, 97, 108]⟩ : Str).toList) then (
          g_newelref05_word.k59 n a0 true
        ) else (
          g_newelref05_word.k59 n a0 (a0.text.toList == (⟨#[114, 101, 108, 101, 97, 115, 101]⟩ : Str).toList)
        )
      )
    )
  )
def g_newelref05_word.k15 (n : Nat) (a0 : Pt) (x14 : Bool) : Option (Wd) :=
  bif x14 then (
    (g_newelref05_number n a0).bind fun y17 =>
    some y17
  ) else (
    bif (a0.text.toList == (⟨#[97, 108, 112, 104, 97]⟩ : Str).toList) then (
      g_newelref05_word.k36 n a0 1
    ) else (
      bif (a0.text.toList == (⟨#[98, 101, 116, 97]⟩ : Str).toList) then (
        g_newelref05_word.k36 n a0 2
      ) else (
        bif (a0.text.toList == (⟨#[109, 105, 108, 101, 115, 116, 111, 110, 101]⟩ : Str).toList) then (
          g_newelref05_word.k36 n a0 3
        ) else (
          bif (a0.text.toList == (⟨#[114, 99]⟩ : Str).toList) then (
            g_newelref05_word.k53 n a0 true
          ) else (
            g_newelref05_word.k53 n a0 (a0.text.toList == (⟨#[99, 114]⟩ : Str).toList)
          )
        )
      )
    )
  )
def g_newelref05_word (n : Nat) (a0 : Pt) : Option (Wd) :=
  bif (a0.text.toList == emp.toList) then (
    g_newelref05_word.k15 n a0 true
  ) else (
    chk (0 ≤ (0 : Int) ∧ 0 < (a0.text.size : Int)) <|
    (g_newelref01_Digit n (byteAt a0.text 0)).bind fun y67 =>
    g_newelref05_word.k15 n a0 y67
  )
theorem g_newelref05_word.ok (n : Nat) (a0 : Pt) (r : Wd) (h : g_newelref05_word n a0 = some r) : Impl Tryd.prog 62 [.agg (encPt a0)] [.agg (encWd r)] := by
  refine impl_wp tabOk Tryd.func62 rfl rfl (by kernel_rfl) ?_
  unfold g_newelref05_word at h
  refine WP_seq ?_
  refine vcc_sound _ _ _ tabOk (by exact rfl) ?_
  repeat (first | refine Ob.mk (by first | rfl | omega | assumption | exact ⟨rfl, rfl, (List.length_map _).symm⟩ | exact ⟨rfl, rfl, by rw [List.length_map]; omega⟩) ?_ | refine Br.t ?_ | refine Br.f ?_)
  refine WP_seq ?_
  refine WP_seq_cut (α := {p : Bool // g_newelref05_word.k15 n a0 p = some r}) (fun p => ofL [(1, .ptr 0 0), (2, .ptr 1 0), (12, .bool p.1)]) (fun p => [.box 97 ((encPt a0).map AV.d), .box 68 ((encWd (Wd.mk 0 emp)).map AV.d)]) ?_ ?_
  rotate_left
  · rintro ⟨x14, h⟩
    replace h : g_newelref05_word.k15 n a0 x14 = some r := h
    unfold g_newelref05_word.k15 at h
    try dsimp only
    refine vcc_sound _ _ _ tabOk (by exact rfl) ?_
    repeat (first | refine Ob.mk (by first | rfl | omega | assumption | exact ⟨rfl, rfl, (List.length_map _).symm⟩ | exact ⟨rfl, rfl, by rw [List.length_map]; omega⟩) ?_ | refine Br.t ?_ | refine Br.f ?_)
    refine Br.mk (fun b16 => ?_) (fun b16 => ?_)
    · replace h := bif_t b16 h
      refine WP_seq ?_
      refine vcc_sound _ _ _ tabOk (by exact rfl) ?_
      obtain ⟨y17, hy17, h⟩ := bind_some h
      repeat (first | refine Ob.mk (by first | rfl | omega | assumption | exact ⟨rfl, rfl, (List.length_map _).symm⟩ | exact ⟨rfl, rfl, by rw [List.length_map]; omega⟩) ?_ | refine Br.t ?_ | refine Br.f ?_)
      refine CallD.mk _ _ (g_newelref05_number.ok n a0 y17 hy17) (by exact ⟨DLe.refl _, trivial⟩) ?_
      repeat (first | refine Ob.mk (by first | rfl | omega | assumption | exact ⟨rfl, rfl, (List.length_map _).symm⟩ | exact ⟨rfl, rfl, by rw [List.length_map]; omega⟩) ?_ | refine Br.t ?_ | refine Br.f ?_)
      refine WP_ret ?_
      obtain rfl := Option.some.inj h
      repeat (first | refine Ob.mk (by first | rfl | omega | assumption | exact ⟨rfl, rfl, (List.length_map _).symm⟩ | exact ⟨rfl, rfl, by rw [List.length_map]; omega⟩) ?_ | refine Br.t ?_ | refine Br.f ?_)
      exact ⟨DLe.refl _, trivial⟩
    · replace h := bif_f b16 h
      refine WP_skip ?_
      refine WP_seq ?_
      refine vcc_sound _ _ _ tabOk (by exact rfl) ?_
      repeat (first | refine Ob.mk (by first | rfl | omega | assumption | exact ⟨rfl, rfl, (List.length_map _).symm⟩ | exact ⟨rfl, rfl, by rw [List.length_map]; omega⟩) ?_ | refine Br.t ?_ | refine Br.f ?_)
      refine WP_seq_cut (α := {p : Int // g_newelref05_word.k36 n a0 p = some r}) (fun p => ofL [(1, .ptr 0 0), (2, .ptr 1 0), (3, .int p.1)]) (fun p => [.box 97 ((encPt a0).map AV.d), .box 68 ((encWd (Wd.mk 0 emp)).map AV.d)]) ?_ ?_
      rotate_left
      · rintro ⟨x35, h⟩
        replace h : g_newelref05_word.k36 n a0 x35 = some r := h
        unfold g_newelref05_word.k36 at h
        try dsimp only
        refine WP_seq_cut (α := {p : Int // g_newelref05_word.k42 n a0 p = some r}) (fun p => ofL [(1, .ptr 0 0), (2, .ptr 1 0), (3, .int p.1)]) (fun p => [.box 97 ((encPt a0).map AV.d), .box 68 ((encWd (Wd.mk 0 emp)).map AV.d)]) ?_ ?_
        rotate_left
        · rintro ⟨x41, h⟩
          replace h : g_newelref05_word.k42 n a0 x41 = some r := h
          unfold g_newelref05_word.k42 at h
          try dsimp only
          refine WP_seq ?_
          refine WP_seq ?_
          refine vcc_sound _ _ _ tabOk (by exact rfl) ?_
          repeat (first | refine Ob.mk (by first | rfl | omega | assumption | exact ⟨rfl, rfl, (List.length_map _).symm⟩ | exact ⟨rfl, rfl, by rw [List.length_map]; omega⟩) ?_ | refine Br.t ?_ | refine Br.f ?_)
          refine vcc_sound _ _ _ tabOk (by exact rfl) ?_
          repeat (first | refine Ob.mk (by first | rfl | omega | assumption | exact ⟨rfl, rfl, (List.length_map _).symm⟩ | exact ⟨rfl, rfl, by rw [List.length_map]; omega⟩) ?_ | refine Br.t ?_ | refine Br.f ?_)
          refine Br.mk (fun b43 => ?_) (fun b43 => ?_)
          · replace h := bif_t b43 h
            refine WP_seq ?_
            refine vcc_sound _ _ _ tabOk (by exact rfl) ?_
            repeat (first | refine Ob.mk (by first | rfl | omega | assumption | exact ⟨rfl, rfl, (List.length_map _).symm⟩ | exact ⟨rfl, rfl, by rw [List.length_map]; omega⟩) ?_ | refine Br.t ?_ | refine Br.f ?_)
            refine WP_ret ?_
            obtain rfl := Option.some.inj h
            repeat (first | refine Ob.mk (by first | rfl | omega | assumption | exact ⟨rfl, rfl, (List.length_map _).symm⟩ | exact ⟨rfl, rfl, by rw [List.length_map]; omega⟩) ?_ | refine Br.t ?_ | refine Br.f ?_)
            exact ⟨DLe.refl _, trivial⟩
          · replace h := bif_f b43 h
            refine WP_skip ?_
            refine WP_seq ?_
            refine vcc_sound _ _ _ tabOk (by exact rfl) ?_
            repeat (first | refine Ob.mk (by first | rfl | omega | assumption | exact ⟨rfl, rfl, (List.length_map _).symm⟩ | exact ⟨rfl, rfl, by rw [List.length_map]; omega⟩) ?_ | refine Br.t ?_ | refine Br.f ?_)
            refine WP_ret ?_
            obtain rfl := Option.some.inj h
            repeat (first | refine Ob.mk (by first | rfl | omega | assumption | exact ⟨rfl, rfl, (List.length_map _).symm⟩ | exact ⟨rfl, rfl, by rw [List.length_map]; omega⟩) ?_ | refine Br.t ?_ | refine Br.f ?_)
            exact ⟨DLe.refl _, trivial⟩
        refine WP_seq ?_
        refine vcc_sound _ _ _ tabOk (by exact rfl) ?_
        repeat (first | refine Ob.mk (by first | rfl | omega | assumption | exact ⟨rfl, rfl, (List.length_map _).symm⟩ | exact ⟨rfl, rfl, by rw [List.length_map]; omega⟩) ?_ | refine Br.t ?_ | refine Br.f ?_)
        refine vcc_sound _ _ _ tabOk (by exact rfl) ?_
        repeat (first | refine Ob.mk (by first | rfl | omega | assumption | exact ⟨rfl, rfl, (List.length_map _).symm⟩ | exact ⟨rfl, rfl, by rw [List.length_map]; omega⟩) ?_ | refine Br.t ?_ | refine Br.f ?_)
        refine Br.mk (fun b44 => ?_) (fun b44 => ?_)
        · replace h := bif_t b44 h
          refine WP_seq ?_
          refine vcc_sound _ _ _ tabOk (by exact rfl) ?_
          repeat (first | refine Ob.mk (by first | rfl | omega | assumption | exact ⟨rfl, rfl, (List.length_map _).symm⟩ | exact ⟨rfl, rfl, by rw [List.length_map]; omega⟩) ?_ | refine Br.t ?_ | refine Br.f ?_)
          refine WP_block ?_
          refine WP_seq ?_
          refine vcc_sound _ _ _ tabOk (by exact rfl) ?_
          repeat (first | refine Ob.mk (by first | rfl | omega | assumption | exact ⟨rfl, rfl, (List.length_map _).symm⟩ | exact ⟨rfl, rfl, by rw [List.length_map]; omega⟩) ?_ | refine Br.t ?_ | refine Br.f ?_)
          refine vcc_sound _ _ _ tabOk (by exact rfl) ?_
          repeat (first | refine Ob.mk (by first | rfl | omega | assumption | exact ⟨rfl, rfl, (List.length_map _).symm⟩ | exact ⟨rfl, rfl, by rw [List.length_map]; omega⟩) ?_ | refine Br.t ?_ | refine Br.f ?_)
          refine Br.mk (fun b45 => ?_) (fun b45 => ?_)
          · replace h := bif_t b45 h
            refine vcc_sound _ _ _ tabOk (by exact rfl) ?_
            repeat (first | refine Ob.mk (by first | rfl | omega | assumption | exact ⟨rfl, rfl, (List.length_map _).symm⟩ | exact ⟨rfl, rfl, by rw [List.length_map]; omega⟩) ?_ | refine Br.t ?_ | refine Br.f ?_)
            repeat (first | refine Ob.mk (by first | rfl | omega | assumption | exact ⟨rfl, rfl, (List.length_map _).symm⟩ | exact ⟨rfl, rfl, by rw [List.length_map]; omega⟩) ?_ | refine Br.t ?_ | refine Br.f ?_)
            exact ⟨⟨1, h⟩, Sub.ofL _ _ (Nat.zero_le _) ⟨rfl, rfl, rfl, rfl, rfl, rfl, trivial⟩ rfl rfl⟩
          · replace h := bif_f b45 h
            refine WP_seq ?_
            refine vcc_sound _ _ _ tabOk (by exact rfl) ?_
            repeat (first | refine Ob.mk (by first | rfl | omega | assumption | exact ⟨rfl, rfl, (List.length_map _).symm⟩ | exact ⟨rfl, rfl, by rw [List.length_map]; omega⟩) ?_ | refine Br.t ?_ | refine Br.f ?_)
            refine vcc_sound _ _ _ tabOk (by exact rfl) ?_
            repeat (first | refine Ob.mk (by first | rfl | omega | assumption | exact ⟨rfl, rfl, (List.length_map _).symm⟩ | exact ⟨rfl, rfl, by rw [List.length_map]; omega⟩) ?_ | refine Br.t ?_ | refine Br.f ?_)
            refine Br.mk (fun b46 => ?_) (fun b46 => ?_)
            · replace h := bif_t b46 h
              refine vcc_sound _ _ _ tabOk (by exact rfl) ?_
              repeat (first | refine Ob.mk (by first | rfl | omega | assumption | exact ⟨rfl, rfl, (List.length_map _).symm⟩ | exact ⟨rfl, rfl, by rw [List.length_map]; omega⟩) ?_ | refine Br.t ?_ | refine Br.f ?_)
              repeat (first | refine Ob.mk (by first | rfl | omega | assumption | exact ⟨rfl, rfl, (List.length_map _).symm⟩ | exact ⟨rfl, rfl, by rw [List.length_map]; omega⟩) ?_ | refine Br.t ?_ | refine Br.f ?_)
              exact ⟨⟨2, h⟩, Sub.ofL _ _ (Nat.zero_le _) ⟨rfl, rfl, rfl, rfl, rfl, rfl, trivial⟩ rfl rfl⟩
            · replace h := bif_f b46 h
              refine WP_seq ?_
              refine vcc_sound _ _ _ tabOk (by exact rfl) ?_
              repeat (first | refine Ob.mk (by first | rfl | omega | assumption | exact ⟨rfl, rfl, (List.length_map _).symm⟩ | exact ⟨rfl, rfl, by rw [List.length_map]; omega⟩) ?_ | refine Br.t ?_ | refine Br.f ?_)
              refine vcc_sound _ _ _ tabOk (by exact rfl) ?_
              repeat (first | refine Ob.mk (by first | rfl | omega | assumption | exact ⟨rfl, rfl, (List.length_map _).symm⟩ | exact ⟨rfl, rfl, by rw [List.length_map]; omega⟩) ?_ | refine Br.t ?_ | refine Br.f ?_)
              refine Br.mk (fun b47 => ?_) (fun b47 => ?_)
              · replace h := bif_t b47 h
                refine vcc_sound _ _ _ tabOk (by exact rfl) ?_
                repeat (first | refine Ob.mk (by first | rfl | omega | assumption | exact ⟨rfl, rfl, (List.length_map _).symm⟩ | exact ⟨rfl, rfl, by rw [List.length_map]; omega⟩) ?_ | refine Br.t ?_ | refine Br.f ?_)
                repeat (first | refine Ob.mk (by first | rfl | omega | assumption | exact ⟨rfl, rfl, (List.length_map _).symm⟩ | exact ⟨rfl, rfl, by rw [List.length_map]; omega⟩) ?_ | refine Br.t ?_ | refine Br.f ?_)
                exact ⟨⟨3, h⟩, Sub.ofL _ _ (Nat.zero_le _) ⟨rfl, rfl, rfl, rfl, rfl, rfl, trivial⟩ rfl rfl⟩
              · replace h := bif_f b47 h
                refine WP_skip ?_
                repeat (first | refine Ob.mk (by first | rfl | omega | assumption | exact ⟨rfl, rfl, (List.length_map _).symm⟩ | exact ⟨rfl, rfl, by rw [List.length_map]; omega⟩) ?_ | refine Br.t ?_ | refine Br.f ?_)
                exact ⟨⟨x35, h⟩, Sub.ofL _ _ (Nat.zero_le _) ⟨rfl, rfl, rfl, rfl, rfl, rfl, trivial⟩ rfl rfl⟩
        · replace h := bif_f b44 h
          refine WP_skip ?_
          repeat (first | refine Ob.mk (by first | rfl | omega | assumption | exact ⟨rfl, rfl, (List.length_map _).symm⟩ | exact ⟨rfl, rfl, by rw [List.length_map]; omega⟩) ?_ | refine Br.t ?_ | refine Br.f ?_)
          exact ⟨⟨x35, h⟩, Sub.ofL _ _ (Nat.zero_le _) ⟨rfl, rfl, rfl, rfl, rfl, rfl, trivial⟩ rfl rfl⟩
      refine WP_seq ?_
      refine vcc_sound _ _ _ tabOk (by exact rfl) ?_
      repeat (first | refine Ob.mk (by first | rfl | omega | assumption | exact ⟨rfl, rfl, (List.length_map _).symm⟩ | exact ⟨rfl, rfl, by rw [List.length_map]; omega⟩) ?_ | refine Br.t ?_ | refine Br.f ?_)
      refine WP_block ?_
      refine WP_seq ?_
      refine vcc_sound _ _ _ tabOk (by exact rfl) ?_
      repeat (first | refine Ob.mk (by first | rfl | omega | assumption | exact ⟨rfl, rfl, (List.length_map _).symm⟩ | exact ⟨rfl, rfl, by rw [List.length_map]; omega⟩) ?_ | refine Br.t ?_ | refine Br.f ?_)
      refine vcc_sound _ _ _ tabOk (by exact rfl) ?_
      repeat (first | refine Ob.mk (by first | rfl | omega | assumption | exact ⟨rfl, rfl, (List.length_map _).symm⟩ | exact ⟨rfl, rfl, by rw [List.length_map]; omega⟩) ?_ | refine Br.t ?_ | refine Br.f ?_)
      refine Br.mk (fun b48 => ?_) (fun b48 => ?_)
      · replace h := bif_t b48 h
        refine vcc_sound _ _ _ tabOk (by exact rfl) ?_
        repeat (first | refine Ob.mk (by first | rfl | omega | assumption | exact ⟨rfl, rfl, (List.length_map _).symm⟩ | exact ⟨rfl, rfl, by rw [List.length_map]; omega⟩) ?_ | refine Br.t ?_ | refine Br.f ?_)
        repeat (first | refine Ob.mk (by first | rfl | omega | assumption | exact ⟨rfl, rfl, (List.length_map _).symm⟩ | exact ⟨rfl, rfl, by rw [List.length_map]; omega⟩) ?_ | refine Br.t ?_ | refine Br.f ?_)
        exact ⟨⟨1, h⟩, Sub.ofL _ _ (Nat.zero_le _) ⟨rfl, rfl, rfl, rfl, rfl, rfl, trivial⟩ rfl rfl⟩
      · replace h := bif_f b48 h
        refine WP_seq ?_
        refine vcc_sound _ _ _ tabOk (by exact rfl) ?_
        repeat (first | refine Ob.mk (by first | rfl | omega | assumption | exact ⟨rfl, rfl, (List.length_map _).symm⟩ | exact ⟨rfl, rfl, by rw [List.length_map]; omega⟩) ?_ | refine Br.t ?_ | refine Br.f ?_)
        refine vcc_sound _ _ _ tabOk (by exact rfl) ?_
        repeat (first | refine Ob.mk (by first | rfl | omega | assumption | exact ⟨rfl, rfl, (List.length_map _).symm⟩ | exact ⟨rfl, rfl, by rw [List.length_map]; omega⟩) ?_ | refine Br.t ?_ | refine Br.f ?_)
        refine Br.mk (fun b49 => ?_) (fun b49 => ?_)
        · replace h := bif_t b49 h
          refine vcc_sound _ _ _ tabOk (by exact rfl) ?_
          repeat (first | refine Ob.mk (by first | rfl | omega | assumption | exact ⟨rfl, rfl, (List.length_map _).symm⟩ | exact ⟨rfl, rfl, by rw [List.length_map]; omega⟩) ?_ | refine Br.t ?_ | refine Br.f ?_)
          repeat (first | refine Ob.mk (by first | rfl | omega | assumption | exact ⟨rfl, rfl, (List.length_map _).symm⟩ | exact ⟨rfl, rfl, by rw [List.length_map]; omega⟩) ?_ | refine Br.t ?_ | refine Br.f ?_)
          exact ⟨⟨2, h⟩, Sub.ofL _ _ (Nat.zero_le _) ⟨rfl, rfl, rfl, rfl, rfl, rfl, trivial⟩ rfl rfl⟩
        · replace h := bif_f b49 h
          refine WP_seq ?_
          refine vcc_sound _ _ _ tabOk (by exact rfl) ?_
          repeat (first | refine Ob.mk (by first | rfl | omega | assumption | exact ⟨rfl, rfl, (List.length_map _).symm⟩ | exact ⟨rfl, rfl, by rw [List.length_map]; omega⟩) ?_ | refine Br.t ?_ | refine Br.f ?_)
          refine vcc_sound _ _ _ tabOk (by exact rfl) ?_
          repeat (first | refine Ob.mk (by first | rfl | omega | assumption | exact ⟨rfl, rfl, (List.length_map _).symm⟩ | exact ⟨rfl, rfl, by rw [List.length_map]; omega⟩) ?_ | refine Br.t ?_ | refine Br.f ?_)
          refine Br.mk (fun b50 => ?_) (fun b50 => ?_)
          · replace h := bif_t b50 h
            refine vcc_sound _ _ _ tabOk (by exact rfl) ?_
            repeat (first | refine Ob.mk (by first | rfl | omega | assumption | exact ⟨rfl, rfl, (List.length_map _).symm⟩ | exact ⟨rfl, rfl, by rw [List.length_map]; omega⟩) ?_ | refine Br.t ?_ | refine Br.f ?_)
            repeat (first | refine Ob.mk (by first | rfl | omega | assumption | exact ⟨rfl, rfl, (List.length_map _).symm⟩ | exact ⟨rfl, rfl, by rw [List.length_map]; omega⟩) ?_ | refine Br.t ?_ | refine Br.f ?_)
            exact ⟨⟨3, h⟩, Sub.ofL _ _ (Nat.zero_le _) ⟨rfl, rfl, rfl, rfl, rfl, rfl, trivial⟩ rfl rfl⟩
          · replace h := bif_f b50 h
            refine WP_seq_cut (α := {p : Bool // g_newelref05_word.k53 n a0 p = some r}) (fun p => ofL [(1, .ptr 0 0), (2, .ptr 1 0), (3, .int 8), (16, .str a0.text), (23, .bool p.1)]) (fun p => [.box 97 ((encPt a0).map AV.d), .box 68 ((encWd (Wd.mk 0 emp)).map AV.d)]) ?_ ?_
            rotate_left
            · rintro ⟨x52, h⟩
              replace h : g_newelref05_word.k53 n a0 x52 = some r := h
              unfold g_newelref05_word.k53 at h
              try dsimp only
              refine vcc_sound _ _ _ tabOk (by exact rfl) ?_
              repeat (first | refine Ob.mk (by first | rfl | omega | assumption | exact ⟨rfl, rfl, (List.length_map _).symm⟩ | exact ⟨rfl, rfl, by rw [List.length_map]; omega⟩) ?_ | refine Br.t ?_ | refine Br.f ?_)
              refine Br.mk (fun b54 => ?_) (fun b54 => ?_)
              · replace h := bif_t b54 h
                refine vcc_sound _ _ _ tabOk (by exact rfl) ?_
                repeat (first | refine Ob.mk (by first | rfl | omega | assumption | exact ⟨rfl, rfl, (List.length_map _).symm⟩ | exact ⟨rfl, rfl, by rw [List.length_map]; omega⟩) ?_ | refine Br.t ?_ | refine Br.f ?_)
                repeat (first | refine Ob.mk (by first | rfl | omega | assumption | exact ⟨rfl, rfl, (List.length_map _).symm⟩ | exact ⟨rfl, rfl, by rw [List.length_map]; omega⟩) ?_ | refine Br.t ?_ | refine Br.f ?_)
                exact ⟨⟨4, h⟩, Sub.ofL _ _ (Nat.zero_le _) ⟨rfl, rfl, rfl, rfl, rfl, rfl, trivial⟩ rfl rfl⟩
              · replace h := bif_f b54 h
                refine WP_seq ?_
                refine vcc_sound _ _ _ tabOk (by exact rfl) ?_
                repeat (first | refine Ob.mk (by first | rfl | omega | assumption | exact ⟨rfl, rfl, (List.length_map _).symm⟩ | exact ⟨rfl, rfl, by rw [List.length_map]; omega⟩) ?_ | refine Br.t ?_ | refine Br.f ?_)
                refine vcc_sound _ _ _ tabOk (by exact rfl) ?_
                repeat (first | refine Ob.mk (by first | rfl | omega | assumption | exact ⟨rfl, rfl, (List.length_map _).symm⟩ | exact ⟨rfl, rfl, by rw [List.length_map]; omega⟩) ?_ | refine Br.t ?_ | refine Br.f ?_)
                refine Br.mk (fun b55 => ?_) (fun b55 => ?_)
                · replace h := bif_t b55 h
                  refine vcc_sound _ _ _ tabOk (by exact rfl) ?_
                  repeat (first | refine Ob.mk (by first | rfl | omega | assumption | exact ⟨rfl, rfl, (List.length_map _).symm⟩ | exact ⟨rfl, rfl, by rw [List.length_map]; omega⟩) ?_ | refine Br.t ?_ | refine Br.f ?_)
                  repeat (first | refine Ob.mk (by first | rfl | omega | assumption | exact ⟨rfl, rfl, (List.length_map _).symm⟩ | exact ⟨rfl, rfl, by rw [List.length_map]; omega⟩) ?_ | refine Br.t ?_ | refine Br.f ?_)
                  exact ⟨⟨5, h⟩, Sub.ofL _ _ (Nat.zero_le _) ⟨rfl, rfl, rfl, rfl, rfl, rfl, trivial⟩ rfl rfl⟩
                · replace h := bif_f b55 h
                  refine WP_seq_cut (α := {p : Bool // g_newelref05_word.k59 n a0 p = some r}) (fun p => ofL [(1, .ptr 0 0), (2, .ptr 1 0), (3, .int 8), (16, .str a0.text), (28, .bool p.1)]) (fun p => [.box 97 ((encPt a0).map AV.d), .box 68 ((encWd (Wd.mk 0 emp)).map AV.d)]) ?_ ?_
                  rotate_left
                  · rintro ⟨x58, h⟩
                    replace h : g_newelref05_word.k59 n a0 x58 = some r := h
                    unfold g_newelref05_word.k59 at h
                    try dsimp only
                    refine vcc_sound _ _ _ tabOk (by exact rfl) ?_
                    repeat (first | refine Ob.mk (by first | rfl | omega | assumption | exact ⟨rfl, rfl, (List.length_map _).symm⟩ | exact ⟨rfl, rfl, by rw [List.length_map]; omega⟩) ?_ | refine Br.t ?_ | refine Br.f ?_)
                    refine Br.mk (fun b60 => ?_) (fun b60 => ?_)
                    · replace h := bif_t b60 h
                      refine vcc_sound _ _ _ tabOk (by exact rfl) ?_
                      repeat (first | refine Ob.mk (by first | rfl | omega | assumption | exact ⟨rfl, rfl, (List.length_map _).symm⟩ | exact ⟨rfl, rfl, by rw [List.length_map]; omega⟩) ?_ | refine Br.t ?_ | refine Br.f ?_)
                      repeat (first | refine Ob.mk (by first | rfl | omega | assumption | exact ⟨rfl, rfl, (List.length_map _).symm⟩ | exact ⟨rfl, rfl, by rw [List.length_map]; omega⟩) ?_ | refine Br.t ?_ | refine Br.f ?_)
                      exact ⟨⟨6, h⟩, Sub.ofL _ _ (Nat.zero_le _) ⟨rfl, rfl, rfl, rfl, rfl, rfl, trivial⟩ rfl rfl⟩
                    · replace h := bif_f b60 h
                      refine WP_seq ?_
                      refine vcc_sound _ _ _ tabOk (by exact rfl) ?_
                      repeat (first | refine Ob.mk (by first | rfl | omega | assumption | exact ⟨rfl, rfl, (List.length_map _).symm⟩ | exact ⟨rfl, rfl, by rw [List.length_map]; omega⟩) ?_ | refine Br.t ?_ | refine Br.f ?_)
                      refine vcc_sound _ _ _ tabOk (by exact rfl) ?_
                      repeat (first | refine Ob.mk (by first | rfl | omega | assumption | exact ⟨rfl, rfl, (List.length_map _).symm⟩ | exact ⟨rfl, rfl, by rw [List.length_map]; omega⟩) ?_ | refine Br.t ?_ | refine Br.f ?_)
                      refine Br.mk (fun b61 => ?_) (fun b61 => ?_)
                      · replace h := bif_t b61 h
                        refine vcc_sound _ _ _ tabOk (by exact rfl) ?_
                        repeat (first | refine Ob.mk (by first | rfl | omega | assumption | exact ⟨rfl, rfl, (List.length_map _).symm⟩ | exact ⟨rfl, rfl, by rw [List.length_map]; omega⟩) ?_ | refine Br.t ?_ | refine Br.f ?_)
                        repeat (first | refine Ob.mk (by first | rfl | omega | assumption | exact ⟨rfl, rfl, (List.length_map _).symm⟩ | exact ⟨rfl, rfl, by rw [List.length_map]; omega⟩) ?_ | refine Br.t ?_ | refine Br.f ?_)
                        exact ⟨⟨7, h⟩, Sub.ofL _ _ (Nat.zero_le _) ⟨rfl, rfl, rfl, rfl, rfl, rfl, trivial⟩ rfl rfl⟩
                      · replace h := bif_f b61 h
                        refine WP_skip ?_
                        repeat (first | refine Ob.mk (by first | rfl | omega | assumption | exact ⟨rfl, rfl, (List.length_map _).symm⟩ | exact ⟨rfl, rfl, by rw [List.length_map]; omega⟩) ?_ | refine Br.t ?_ | refine Br.f ?_)
                        exact ⟨⟨8, h⟩, Sub.ofL _ _ (Nat.zero_le _) ⟨rfl, rfl, rfl, rfl, rfl, rfl, trivial⟩ rfl rfl⟩
                  refine WP_seq ?_
                  refine vcc_sound _ _ _ tabOk (by exact rfl) ?_
                  repeat (first | refine Ob.mk (by first | rfl | omega | assumption | exact ⟨rfl, rfl, (List.length_map _).symm⟩ | exact ⟨rfl, rfl, by rw [List.length_map]; omega⟩) ?_ | refine Br.t ?_ | refine Br.f ?_)
                  refine vcc_sound _ _ _ tabOk (by exact rfl) ?_
                  repeat (first | refine Ob.mk (by first | rfl | omega | assumption | exact ⟨rfl, rfl, (List.length_map _).symm⟩ | exact ⟨rfl, rfl, by rw [List.length_map]; omega⟩) ?_ | refine Br.t ?_ | refine Br.f ?_)
                  refine Br.mk (fun b62 => ?_) (fun b62 => ?_)
                  · replace h := bif_t b62 h
                    refine WP_skip ?_
                    repeat (first | refine Ob.mk (by first | rfl | omega | assumption | exact ⟨rfl, rfl, (List.length_map _).symm⟩ | exact ⟨rfl, rfl, by rw [List.length_map]; omega⟩) ?_ | refine Br.t ?_ | refine Br.f ?_)
                    exact ⟨⟨true, h⟩, Sub.ofL _ _ (Nat.zero_le _) ⟨rfl, rfl, rfl, rfl, rfl, rfl, rfl, rfl, rfl, rfl, trivial⟩ rfl rfl⟩
                  · replace h := bif_f b62 h
                    refine WP_seq ?_
                    refine vcc_sound _ _ _ tabOk (by exact rfl) ?_
                    repeat (first | refine Ob.mk (by first | rfl | omega | assumption | exact ⟨rfl, rfl, (List.length_map _).symm⟩ | exact ⟨rfl, rfl, by rw [List.length_map]; omega⟩) ?_ | refine Br.t ?_ | refine Br.f ?_)
                    refine vcc_sound _ _ _ tabOk (by exact rfl) ?_
                    repeat (first | refine Ob.mk (by first | rfl | omega | assumption | exact ⟨rfl, rfl, (List.length_map _).symm⟩ | exact ⟨rfl, rfl, by rw [List.length_map]; omega⟩) ?_ | refine Br.t ?_ | refine Br.f ?_)
                    refine Br.mk (fun b63 => ?_) (fun b63 => ?_)
                    · replace h := bif_t b63 h
                      refine WP_skip ?_
                      repeat (first | refine Ob.mk (by first | rfl | omega | assumption | exact ⟨rfl, rfl, (List.length_map _).symm⟩ | exact ⟨rfl, rfl, by rw [List.length_map]; omega⟩) ?_ | refine Br.t ?_ | refine Br.f ?_)
                      exact ⟨⟨true, h⟩, Sub.ofL _ _ (Nat.zero_le _) ⟨rfl, rfl, rfl, rfl, rfl, rfl, rfl, rfl, rfl, rfl, trivial⟩ rfl rfl⟩
                    · replace h := bif_f b63 h
                      refine vcc_sound _ _ _ tabOk (by exact rfl) ?_
                      repeat (first | refine Ob.mk (by first | rfl | omega | assumption | exact ⟨rfl, rfl, (List.length_map _).symm⟩ | exact ⟨rfl, rfl, by rw [List.length_map]; omega⟩) ?_ | refine Br.t ?_ | refine Br.f ?_)
                      repeat (first | refine Ob.mk (by first | rfl | omega | assumption | exact ⟨rfl, rfl, (List.length_map _).symm⟩ | exact ⟨rfl, rfl, by rw [List.length_map]; omega⟩) ?_ | refine Br.t ?_ | refine Br.f ?_)
                      exact ⟨⟨(a0.text.toList == (⟨#[114, 101, 108, 101, 97, 115, 101]⟩ : Str).toList), h⟩, Sub.ofL _ _ (Nat.zero_le _) ⟨rfl, rfl, rfl, rfl, rfl, rfl, rfl, rfl, rfl, rfl, trivial⟩ rfl rfl⟩
            refine WP_seq ?_
            refine vcc_sound _ _ _ tabOk (by exact rfl) ?_
            repeat (first | refine Ob.mk (by first | rfl | omega | assumption | exact ⟨rfl, rfl, (List.length_map _).symm⟩ | exact ⟨rfl, rfl, by rw [List.length_map]; omega⟩) ?_ | refine Br.t ?_ | refine Br.f ?_)
            refine vcc_sound _ _ _ tabOk (by exact rfl) ?_
            repeat (first | refine Ob.mk (by first | rfl | omega | assumption | exact ⟨rfl, rfl, (List.length_map _).symm⟩ | exact ⟨rfl, rfl, by rw [List.length_map]; omega⟩) ?_ | refine Br.t ?_ | refine Br.f ?_)
            refine Br.mk (fun b64 => ?_) (fun b64 => ?_)
            · replace h := bif_t b64 h
              refine WP_skip ?_
              repeat (first | refine Ob.mk (by first | rfl | omega | assumption | exact ⟨rfl, rfl, (List.length_map _).symm⟩ | exact ⟨rfl, rfl, by rw [List.length_map]; omega⟩) ?_ | refine Br.t ?_ | refine Br.f ?_)
              exact ⟨⟨true, h⟩, Sub.ofL _ _ (Nat.zero_le _) ⟨rfl, rfl, rfl, rfl, rfl, rfl, rfl, rfl, rfl, rfl, trivial⟩ rfl rfl⟩
            · replace h := bif_f b64 h
              refine vcc_sound _ _ _ tabOk (by exact rfl) ?_
              repeat (first | refine Ob.mk (by first | rfl | omega | assumption | exact ⟨rfl, rfl, (List.length_map _).symm⟩ | exact ⟨rfl, rfl, by rw [List.length_map]; omega⟩) ?_ | refine Br.t ?_ | refine Br.f ?_)
              repeat (first | refine Ob.mk (by first | rfl | omega | assumption | exact ⟨rfl, rfl, (List.length_map _).symm⟩ | exact ⟨rfl, rfl, by rw [List.length_map]; omega⟩) ?_ | refine Br.t ?_ | refine Br.f ?_)
              exact ⟨⟨(a0.text.toList == (⟨#[99, 114]⟩ : Str).toList), h⟩, Sub.ofL _ _ (Nat.zero_le _) ⟨rfl, rfl, rfl, rfl, rfl, rfl, rfl, rfl, rfl, rfl, trivial⟩ rfl rfl⟩
  refine vcc_sound _ _ _ tabOk (by exact rfl) ?_
  repeat (first | refine Ob.mk (by first | rfl | omega | assumption | exact ⟨rfl, rfl, (List.length_map _).symm⟩ | exact ⟨rfl, rfl, by rw [List.length_map]; omega⟩) ?_ | refine Br.t ?_ | refine Br.f ?_)
  refine Br.mk (fun b65 => ?_) (fun b65 => ?_)
  · replace h := bif_t b65 h
    repeat (first | refine Ob.mk (by first | rfl | omega | assumption | exact ⟨rfl, rfl, (List.length_map _).symm⟩ | exact ⟨rfl, rfl, by rw [List.length_map]; omega⟩) ?_ | refine Br.t ?_ | refine Br.f ?_)
    repeat (first | refine Ob.mk (by first | rfl | omega | assumption | exact ⟨rfl, rfl, (List.length_map _).symm⟩ | exact ⟨rfl, rfl, by rw [List.length_map]; omega⟩) ?_ | refine Br.t ?_ | refine Br.f ?_)
    exact ⟨⟨true, h⟩, Sub.ofL _ _ (Nat.zero_le _) ⟨rfl, rfl, rfl, rfl, rfl, rfl, trivial⟩ rfl rfl⟩
  · replace h := bif_f b65 h
    obtain ⟨c66, h⟩ := chk_some h
    obtain ⟨y67, hy67, h⟩ := bind_some h
    repeat (first | refine Ob.mk (by first | rfl | omega | assumption | exact ⟨rfl, rfl, (List.length_map _).symm⟩ | exact ⟨rfl, rfl, by rw [List.length_map]; omega⟩) ?_ | refine Br.t ?_ | refine Br.f ?_)
    refine CallD.mk _ _ (g_newelref01_Digit.ok n (byteAt a0.text 0) y67 hy67) (by exact ⟨DLe.refl _, trivial⟩) ?_
    repeat (first | refine Ob.mk (by first | rfl | omega | assumption | exact ⟨rfl, rfl, (List.length_map _).symm⟩ | exact ⟨rfl, rfl, by rw [List.length_map]; omega⟩) ?_ | refine Br.t ?_ | refine Br.f ?_)
    repeat (first | refine Ob.mk (by first | rfl | omega | assumption | exact ⟨rfl, rfl, (List.length_map _).symm⟩ | exact ⟨rfl, rfl, by rw [List.length_map]; omega⟩) ?_ | refine Br.t ?_ | refine Br.f ?_)
    exact ⟨⟨y67, h⟩, Sub.ofL _ _ (Nat.zero_le _) ⟨rfl, rfl, rfl, rfl, rfl, rfl, trivial⟩ rfl rfl⟩

end Go.Proofs.Nw.K
end
