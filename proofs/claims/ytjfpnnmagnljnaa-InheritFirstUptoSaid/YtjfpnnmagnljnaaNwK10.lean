/- K10: code: sequences, branches, loops, regions; calls; contracts. -/
import Derived.Test.YtjfpnnmagnljnaaNwK9
import Derived.ScopeJumps
open Go Go.RowKit
set_option linter.unusedVariables false
set_option linter.unusedSimpArgs false
namespace Go.Proofs.Nw.K

abbrev Env := Nat → AV

/-- how things stood when the function was entered -/
structure Ini where
  σ : Sig
  gh : List Value
  st : List AO

/-- a frame: its slots; how many own things there were at the entry -/
structure Fm where
  n : Nat
  o : Nat

def Rel (N : Fm) (w0 : World) (σ0 : Sig) (I : Ini) (env : Env) (st : List AO) (a : Act) (w : World) : Prop :=
  a.tmps.size = N.n ∧ a.defers = [] ∧ I.gh.length = N.o ∧ ∃ σ gh, Base w0 σ0 σ gh st w ∧ (∀ v a, RepA I.σ I.gh I.st v a → RepA σ gh st v a) ∧ ∀ t, RepA σ gh st (a.tmps.getD t undef) (env t)

abbrev Post := Exit → Env → List AO → Prop

def Lift (N : Fm) (w0 : World) (σ0 : Sig) (I : Ini) (Q : Post) : Exit → Act → World → Prop
  | .panic _, _, _ => False
  | .outgrown, _, _ => False
  | e, a, w => ∃ env st, Rel N w0 σ0 I env st a w ∧ Q e env st

def WP (P : Program) (N : Fm) (c : Code) (env : Env) (st : List AO) (Q : Post) : Prop :=
  ∀ w0 σ0 I a w, Rel N w0 σ0 I env st a w → c.wp P (Lift N w0 σ0 I Q) a w

/-- what may stand for what -/
def Sub (N : Fm) (env : Env) (st : List AO) (env' : Env) (st' : List AO) : Prop := ∀ w0 σ0 I a w, Rel N w0 σ0 I env st a w → Rel N w0 σ0 I env' st' a w

theorem Sub.refl (N env st) : Sub N env st env st := fun _ _ _ _ _ h => h
theorem Sub.trans {N a b c d e f} (h : Sub N a b c d) (k : Sub N c d e f) : Sub N a b e f := fun _ _ _ _ _ x => k _ _ _ _ _ (h _ _ _ _ _ x)

section
variable {P : Program} {N : Fm} {env : Env} {st : List AO} {Q : Post}

theorem WP_sub {c : Code} {env' st'} (hs : Sub N env st env' st') (h : WP P N c env' st' Q) : WP P N c env st Q :=
  fun w0 σ0 I a w hr => h w0 σ0 I a w (hs _ _ _ _ _ hr)

theorem WP_mono {c : Code} {Q' : Post} (h : WP P N c env st Q) (hq : ∀ e env st, Q e env st → Q' e env st) : WP P N c env st Q' :=
  fun w0 σ0 I a w hr => wp_mono (h w0 σ0 I a w hr) fun e a w q => by
    cases e <;> first | exact q | (obtain ⟨env, st, h1, h2⟩ := q; exact ⟨env, st, h1, hq _ _ _ h2⟩)

def Then (K : Env → List AO → Prop) (Q : Post) : Post
  | .normal, env, st => K env st
  | e, env, st => Q e env st

theorem WP_seq {x y : Code} (h : WP P N x env st (Then (fun env st => WP P N y env st Q) Q)) : WP P N (.seq x y) env st Q :=
  fun w0 σ0 I a w hr => wp_seq (wp_mono (h w0 σ0 I a w hr) fun e a w q => by
    cases e with
    | normal => obtain ⟨env, st, h1, h2⟩ := q; exact h2 w0 σ0 I a w h1
    | _ => exact q)

theorem WP_skip (h : Q .normal env st) : WP P N .skip env st Q := fun w0 σ0 I a w hr => wp_skip ⟨env, st, hr, h⟩
theorem WP_label {l : Nat} (h : Q .normal env st) : WP P N (.label l) env st Q := fun w0 σ0 I a w hr => wp_label ⟨env, st, hr, h⟩
theorem WP_exit {l : Nat} (h : Q (.exit l) env st) : WP P N (.exit l) env st Q := fun w0 σ0 I a w hr => wp_exit ⟨env, st, hr, h⟩
theorem WP_goto {l : Nat} (h : Q (.goto l) env st) : WP P N (.goto l) env st Q := fun w0 σ0 I a w hr => wp_goto ⟨env, st, hr, h⟩
theorem WP_ret (h : Q .ret env st) : WP P N .ret env st Q := fun w0 σ0 I a w hr => wp_ret ⟨env, st, hr, h⟩

theorem eval_rep {σ : Sig} {gh : List Value} {a : Act} (hr : ∀ t, RepA σ gh st (a.tmps.getD t undef) (env t)) (x : Operand) : RepA σ gh st (a.eval x) (evalE env x) := by
  cases x with
  | tmp t => exact hr t
  | const v =>
    unfold evalE
    simp only
    split
    · rename_i h; exact repV_cAV h
    · trivial
  | global g => trivial
  | func f => exact RepA_of_sc rfl

theorem WP_cond {c : Operand} {x y : Code} {b : Bool} (hc : evalE env c = .bool b) (h1 : b = true → WP P N x env st Q) (h2 : b = false → WP P N y env st Q) : WP P N (.cond c x y) env st Q :=
  fun w0 σ0 I a w hr => by
    obtain ⟨σ, gh, hb, hk, he⟩ := hr.2.2.2
    have h := eval_rep he c
    rw [hc] at h
    exact wp_cond_split (RepA_sc h) (fun e => h1 e w0 σ0 I a w hr) (fun e => h2 e w0 σ0 I a w hr)

theorem WP_cond_t {c : Operand} {x y : Code} (hc : evalE env c = .bool true) (h1 : WP P N x env st Q) : WP P N (.cond c x y) env st Q := WP_cond hc (fun _ => h1) (fun h => by cases h)
theorem WP_cond_f {c : Operand} {x y : Code} (hc : evalE env c = .bool false) (h1 : WP P N y env st Q) : WP P N (.cond c x y) env st Q := WP_cond hc (fun h => by cases h) (fun _ => h1)

def InBlock (id : Nat) (Q : Post) : Post
  | .exit id', env, st => if id' = id then Q .normal env st else Q (.exit id') env st
  | e, env, st => Q e env st

theorem WP_block {id : Nat} {c : Code} (h : WP P N c env st (InBlock id Q)) : WP P N (.block id c) env st Q :=
  fun w0 σ0 I a w hr => wp_block (wp_mono (h w0 σ0 I a w hr) fun e a w q => by
    cases e with
    | exit id' =>
      obtain ⟨env, st, h1, h2⟩ := q
      simp only [InBlock] at h2
      simp only [Exit.inBlock]
      split at h2
      · rename_i e; rw [if_pos e]; exact ⟨env, st, h1, h2⟩
      · rename_i e; rw [if_neg e]; exact ⟨env, st, h1, h2⟩
    | _ => exact q)

theorem has_least (p : Nat → Prop) (h : ∃ n, p n) : ∃ n, p n ∧ ∀ m, p m → n ≤ m := by
  obtain ⟨n, hn⟩ := h
  induction n using Nat.strongRecOn with
  | _ n ih =>
    by_cases hm : ∃ m, m < n ∧ p m
    · obtain ⟨m, h1, h2⟩ := hm; exact ih m h1 h2
    · exact ⟨n, hn, fun m hpm => Nat.le_of_not_lt fun h => hm ⟨m, h, hpm⟩⟩

open Classical in
noncomputable def least (p : Nat → Prop) : Nat := if h : ∃ n, p n then (has_least p h).choose else 0

theorem least_spec {p : Nat → Prop} (h : ∃ n, p n) : p (least p) ∧ ∀ m, p m → least p ≤ m := by
  unfold least
  rw [dif_pos h]
  exact (has_least p h).choose_spec

/-- a loop: what holds at its head, for each x; each round comes to a lesser one -/
theorem WP_loop {c : Code} {α : Type} (E : α → Env) (S : α → List AO) (μ : α → Nat) (x0 : α) (h0 : Sub N env st (E x0) (S x0))
    (h : ∀ x, WP P N c (E x) (S x) (Then (fun env st => ∃ x', μ x' < μ x ∧ Sub N env st (E x') (S x')) Q)) : WP P N (.loop c) env st Q :=
  fun w0 σ0 I a w hr => by
    refine wp_loop (P := P) (c := c) (Q := Lift N w0 σ0 I Q) (a := a) (w := w) (fun a w => ∃ x, Rel N w0 σ0 I (E x) (S x) a w)
      (fun a w => least (fun n => ∃ x, μ x = n ∧ Rel N w0 σ0 I (E x) (S x) a w)) ⟨x0, h0 _ _ _ _ _ hr⟩ ?_
    intro a w ⟨x, hx⟩
    obtain ⟨⟨y, hy1, hy2⟩, hmin⟩ := least_spec (p := fun n => ∃ x, μ x = n ∧ Rel N w0 σ0 I (E x) (S x) a w) ⟨μ x, x, rfl, hx⟩
    refine wp_mono (h y w0 σ0 I a w hy2) fun e a' w' q => ?_
    cases e with
    | normal =>
      obtain ⟨env', st', h1, x', h2, h3⟩ := q
      have hr' := h3 _ _ _ _ _ h1
      refine ⟨⟨x', hr'⟩, ?_⟩
      have := (least_spec (p := fun n => ∃ x, μ x = n ∧ Rel N w0 σ0 I (E x) (S x) a' w') ⟨μ x', x', rfl, hr'⟩).2 _ ⟨x', rfl, hr'⟩
      omega
    | _ => exact q

/-- as Q; by a goto to this label: J -/
def Jump (l : Nat) (J : Env → List AO → Prop) (Q : Post) : Post
  | .goto l', env, st => l' = l ∧ J env st
  | e, env, st => Q e env st

/-- a scope with one label that the run jumps back to -/
theorem WP_scope {c rest : Code} {α : Type} (l : Nat) (E : α → Env) (S : α → List AO) (μ : α → Nat) (hf : findLabel c l = some rest)
    (h0 : WP P N c env st (Jump l (fun env st => ∃ x, Sub N env st (E x) (S x)) Q))
    (h : ∀ x, WP P N rest (E x) (S x) (Jump l (fun env st => ∃ x', μ x' < μ x ∧ Sub N env st (E x') (S x')) Q)) : WP P N (.scope c) env st Q :=
  fun w0 σ0 I a w hr => by
    refine wp_scope_jumps (P := P) (Q := Lift N w0 σ0 I Q) l (fun a w => ∃ x, Rel N w0 σ0 I (E x) (S x) a w)
      (fun a w => least (fun n => ∃ x, μ x = n ∧ Rel N w0 σ0 I (E x) (S x) a w)) hf ?_ ?_
    · refine wp_mono (h0 w0 σ0 I a w hr) fun e a' w' q => ?_
      cases e with
      | goto l' => obtain ⟨env', st', h1, h2, x, h3⟩ := q; exact ⟨h2, x, h3 _ _ _ _ _ h1⟩
      | _ => exact q
    · intro a w ⟨x, hx⟩
      obtain ⟨⟨y, hy1, hy2⟩, hmin⟩ := least_spec (p := fun n => ∃ x, μ x = n ∧ Rel N w0 σ0 I (E x) (S x) a w) ⟨μ x, x, rfl, hx⟩
      refine wp_mono (h y w0 σ0 I a w hy2) fun e a' w' q => ?_
      cases e with
      | goto l' =>
        obtain ⟨env', st', h1, h4, x', h2, h3⟩ := q
        have hr' := h3 _ _ _ _ _ h1
        refine ⟨h4, ⟨x', hr'⟩, ?_⟩
        have := (least_spec (p := fun n => ∃ x, μ x = n ∧ Rel N w0 σ0 I (E x) (S x) a' w') ⟨μ x', x', rfl, hr'⟩).2 _ ⟨x', rfl, hr'⟩
        omega
      | _ => exact q

/-- .. of which the run comes to the label by itself -/
theorem WP_scope_cut {c rest : Code} {α : Type} (l : Nat) (E : α → Env) (S : α → List AO) (μ : α → Nat) (hf : findLabel c l = some (.seq .skip rest))
    (h : ∀ x, WP P N rest (E x) (S x) (Jump l (fun env st => ∃ x', μ x' < μ x ∧ Sub N env st (E x') (S x')) Q))
    (h0 : (∀ x env st, Sub N env st (E x) (S x) → WP P N (.seq (.label l) rest) env st (Jump l (fun env st => ∃ x, Sub N env st (E x) (S x)) Q)) → WP P N c env st (Jump l (fun env st => ∃ x, Sub N env st (E x) (S x)) Q)) : WP P N (.scope c) env st Q :=
  WP_scope l E S μ hf (h0 fun x env st hs => WP_seq (WP_label (WP_sub hs (WP_mono (h x) fun e env st q => by
    cases e with
    | goto l' => obtain ⟨h1, x', _, h2⟩ := q; exact ⟨h1, x', h2⟩
    | _ => exact q)))) fun x => WP_seq (WP_skip (h x))

/-- a scope through which the run goes straight -/
def NoGoto (Q : Post) : Post
  | .goto _, _, _ => False
  | e, env, st => Q e env st

theorem WP_scope0 {c : Code} (h : WP P N c env st (NoGoto Q)) : WP P N (.scope c) env st Q :=
  fun w0 σ0 I a w hr => wp_scope_straight (wp_mono (h w0 σ0 I a w hr) fun e a' w' q => by
    cases e with
    | goto l => obtain ⟨_, _, _, h⟩ := q; exact h
    | _ => exact q)

/-! ### regions -/
def WPL (P : Program) (N : Fm) (ops : Array Oper) (l : List Oper) (env : Env) (st : List AO) (K : Env → List AO → Prop) : Prop :=
  ∀ w0 σ0 I a w, Rel N w0 σ0 I env st a w → wpList P ops (Lift N w0 σ0 I (Then K fun _ _ _ => False)) l a w

theorem WP_region {id : Nat} {l : List Oper} (h : WPL P N l.toArray l env st (Q .normal)) : WP P N (.region id l.toArray false) env st Q :=
  fun w0 σ0 I a w hr => by
    refine wp_mono (wp_region_lit (h w0 σ0 I a w hr)) fun e a w q => ?_
    cases e <;> first | exact q | (obtain ⟨_, _, _, h⟩ := q; exact h.elim)

def updO (env : Env) (dst : Option Tmp) (v : AV) : Env := match dst with | some d => upd env d v | none => env

theorem put_getD (a : Act) (d t : Nat) (u : Value) (hd : d < a.tmps.size) : (a.put (some d) u).tmps.getD t undef = if t = d then u else a.tmps.getD t undef := by
  simp only [Act.put, Array.getD_eq_getD_getElem?, Array.getElem?_setIfInBounds]
  by_cases e : d = t
  · subst e; simp [hd]
  · have : ¬ t = d := fun h => e h.symm
    simp [e, this]

theorem rel_put {w0 : World} {σ0 : Sig} {I : Ini} {a : Act} {w' : World} {env : Env} {st' : List AO} {σ' gh'} (hs : a.tmps.size = N.n) (hd : a.defers = []) (hI : I.gh.length = N.o) (hk : ∀ v a, RepA I.σ I.gh I.st v a → RepA σ' gh' st' v a) (hb : Base w0 σ0 σ' gh' st' w') (he : ∀ t, RepA σ' gh' st' (a.tmps.getD t undef) (env t))
    (dst : Option Tmp) (hdst : ∀ d, dst = some d → d < N.n) {u : Value} {v : AV} (hv : RepA σ' gh' st' u v) : Rel N w0 σ0 I (updO env dst v) st' (a.put dst u) w' := by
  cases dst with
  | none => exact ⟨hs, hd, hI, σ', gh', hb, hk, he⟩
  | some d =>
    have hlt : d < a.tmps.size := by rw [hs]; exact hdst d rfl
    refine ⟨by simp [Act.put, hs], by simp [Act.put, hd], hI, σ', gh', hb, hk, fun t => ?_⟩
    rw [put_getD a d t u hlt]
    simp only [updO, upd]
    split
    · exact hv
    · exact he t

variable {ops : Array Oper} {rest : List Oper} {K : Env → List AO → Prop}

theorem WPL_nil (h : K env st) : WPL P N ops [] env st K := fun w0 σ0 I a w hr => ⟨env, st, hr, h⟩

theorem op_wp {o : Oper} {v : AV} {st' : List AO} (ho : OpS P o.op (evalE env) st v st') (hd : ∀ d, o.dst = some d → d < N.n) {w0 σ0 I a w} (hr : Rel N w0 σ0 I env st a w) {K' : Act → World → Prop} {Q' : Exit → Act → World → Prop}
    (hk : ∀ a w, Rel N w0 σ0 I (updO env o.dst v) st' a w → K' a w) : o.wp P a w K' Q' := by
  obtain ⟨h1, h2, hI, σ, gh, hb, hk0, he⟩ := hr
  have := ho o rfl w0 σ0 σ gh a.eval w hb (fun x _ => eval_rep he x)
  unfold Oper.wp
  generalize (execOp a.eval o).run P w = r at *
  cases r with
  | ok n w' =>
    cases n with
    | value u =>
      obtain ⟨σ', gh', hf, hv⟩ := this
      exact hk _ _ (rel_put h1 h2 hI (fun v a h => hf.keep _ _ (hk0 v a h)) hf.base (fun t => hf.keep _ _ (he t)) o.dst hd hv)
    | skip =>
      obtain ⟨rfl, σ', gh', hf⟩ := this
      exact hk _ _ (rel_put h1 h2 hI (fun v a h => hf.keep _ _ (hk0 v a h)) hf.base (fun t => hf.keep _ _ (he t)) o.dst hd trivial)
    | enter f args =>
      refine Calls.mono this fun e w'' hq => ?_
      obtain ⟨u, rfl, σ', gh', hf, hv⟩ := hq
      exact hk _ _ (rel_put h1 h2 hI (fun v a h => hf.keep _ _ (hk0 v a h)) hf.base (fun t => hf.keep _ _ (he t)) o.dst hd hv)
    | _ => exact this.elim
  | halt _ _ => exact this.elim

theorem WPL_op {dst : Option Tmp} {op : Op} {ty : TypeId} {pos : String} {after : Array Edge} {v : AV} {st' : List AO} (ho : OpS P op (evalE env) st v st') (hd : ∀ d, dst = some d → d < N.n)
    (h : WPL P N ops rest (updO env dst v) st' K) : WPL P N ops (⟨dst, op, ty, pos, after, none⟩ :: rest) env st K :=
  fun w0 σ0 I a w hr => wpList_plain rfl fun K' hK => op_wp (o := ⟨dst, op, ty, pos, after, none⟩) ho hd hr fun a w h' => hK a w (h w0 σ0 I a w h')

/-- an operation of which one of several things comes -/
def OpN (P : Program) (op : Op) (E : Operand → AV) (st : List AO) (V : AV → List AO → Prop) : Prop :=
  ∀ (o : Oper), o.op = op → ∀ w0 σ0 σ gh ρ w, Base w0 σ0 σ gh st w → (∀ x ∈ op.operands, RepA σ gh st (ρ x) (E x)) → ∃ v st', V v st' ∧ Out P w0 σ0 σ gh st v st' ((execOp ρ o).run P w)

theorem OpS.n {op : Op} {E : Operand → AV} {v : AV} {st' : List AO} {V : AV → List AO → Prop} (h : OpS P op E st v st') (hv : V v st') : OpN P op E st V :=
  fun o ho w0 σ0 σ gh ρ w hb hρ => ⟨v, st', hv, h o ho w0 σ0 σ gh ρ w hb hρ⟩

theorem op_wpN {o : Oper} {V : AV → List AO → Prop} (ho : OpN P o.op (evalE env) st V) (hd : ∀ d, o.dst = some d → d < N.n) {w0 σ0 I a w} (hr : Rel N w0 σ0 I env st a w) {K' : Act → World → Prop} {Q' : Exit → Act → World → Prop}
    (hk : ∀ v st' a w, V v st' → Rel N w0 σ0 I (updO env o.dst v) st' a w → K' a w) : o.wp P a w K' Q' := by
  obtain ⟨h1, h2, hI, σ, gh, hb, hk0, he⟩ := hr
  obtain ⟨v, st', hV, this⟩ := ho o rfl w0 σ0 σ gh a.eval w hb (fun x _ => eval_rep he x)
  unfold Oper.wp
  generalize (execOp a.eval o).run P w = r at *
  cases r with
  | ok n w' =>
    cases n with
    | value u =>
      obtain ⟨σ', gh', hf, hv⟩ := this
      exact hk v st' _ _ hV (rel_put h1 h2 hI (fun v a h => hf.keep _ _ (hk0 v a h)) hf.base (fun t => hf.keep _ _ (he t)) o.dst hd hv)
    | skip =>
      obtain ⟨rfl, σ', gh', hf⟩ := this
      exact hk .junk st' _ _ hV (rel_put h1 h2 hI (fun v a h => hf.keep _ _ (hk0 v a h)) hf.base (fun t => hf.keep _ _ (he t)) o.dst hd trivial)
    | enter f args =>
      refine Calls.mono this fun e w'' hq => ?_
      obtain ⟨u, rfl, σ', gh', hf, hv⟩ := hq
      exact hk v st' _ _ hV (rel_put h1 h2 hI (fun v a h => hf.keep _ _ (hk0 v a h)) hf.base (fun t => hf.keep _ _ (he t)) o.dst hd hv)
    | _ => exact this.elim
  | halt _ _ => exact this.elim

theorem WPL_opN {dst : Option Tmp} {op : Op} {ty : TypeId} {pos : String} {after : Array Edge} (hd : ∀ d, dst = some d → d < N.n)
    (h : OpN P op (evalE env) st fun v st' => WPL P N ops rest (updO env dst v) st' K) : WPL P N ops (⟨dst, op, ty, pos, after, none⟩ :: rest) env st K :=
  fun w0 σ0 I a w hr => wpList_plain rfl fun K' hK => op_wpN (o := ⟨dst, op, ty, pos, after, none⟩) h hd hr fun v st' a w hV h' => hK a w (hV w0 σ0 I a w h')

theorem yielded_of {w0 : World} {σ0 : Sig} {I : Ini} {a : Act} {w : World} (hr : Rel N w0 σ0 I env st a w) {j d : Nat} {oj : Oper} {b : Bool} (hj : ops[j]? = some oj) (hd : oj.dst = some d) (hdN : d < N.n) (hb : env d = .bool b) : yielded ops a.tmps j = some b := by
  obtain ⟨h1, h2, hI, σ, gh, hbase, hk0, he⟩ := hr
  have := he d
  rw [hb] at this
  have h3 := RepA_sc this
  have hlt : d < a.tmps.size := by omega
  have h4 : a.tmps[d]? = some (.bool b) := by
    rw [Array.getD_eq_getD_getElem?, Array.getElem?_eq_getElem hlt] at h3
    rw [Array.getElem?_eq_getElem hlt]
    simpa using h3
  simp [yielded, hj, hd, h4]

theorem WPL_guard {dst : Option Tmp} {op : Op} {ty : TypeId} {pos : String} {after : Array Edge} {j d : Nat} {want b : Bool} {oj : Oper} (hj : ops[j]? = some oj) (hdj : oj.dst = some d) (hdN : d < N.n) (hb : env d = .bool b)
    (h1 : b = want → ∃ v st', OpS P op (evalE env) st v st' ∧ (∀ d, dst = some d → d < N.n) ∧ WPL P N ops rest (updO env dst v) st' K)
    (h2 : b ≠ want → (∀ d, dst = some d → d < N.n) ∧ WPL P N ops rest (updO env dst .junk) st K) : WPL P N ops (⟨dst, op, ty, pos, after, some (j, want)⟩ :: rest) env st K :=
  fun w0 σ0 I a w hr => by
    have hy := yielded_of hr hj hdj hdN hb
    refine wpList_step fun K' hK => ?_
    by_cases e : b = want
    · subst e
      obtain ⟨v, st', ho, hd, h⟩ := h1 rfl
      simp only [Region.wanted, hy, beq_self_eq_true, if_true]
      exact op_wp (o := ⟨dst, op, ty, pos, after, some (j, b)⟩) ho hd hr fun a w h' => hK a w (h w0 σ0 I a w h')
    · obtain ⟨hd, h⟩ := h2 e
      have hne : (some b == some want) = false := by simp [e]
      simp only [Region.wanted, hy, hne, Bool.false_eq_true, if_false]
      refine hK _ _ (h w0 σ0 I _ w ?_)
      obtain ⟨g1, g2, hI, σ, gh, hbase, hk0, he⟩ := hr
      exact rel_put g1 g2 hI hk0 hbase he dst hd (v := .junk) trivial

end
end Go.Proofs.Nw.K
