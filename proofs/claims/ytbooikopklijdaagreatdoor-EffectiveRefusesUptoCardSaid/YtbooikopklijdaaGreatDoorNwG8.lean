/- Bundle 8: NwX19, NwX20, NwX21, NwX22. -/
import Derived.Test.YtbooikopklijdaaGreatDoorNwG7
set_option linter.constructorNameAsVariable false
set_option linter.unusedVariables false
set_option linter.unusedSimpArgs false
set_option linter.unusedSectionVars false
section
/- X19: the evaluator of drawn regions. -/
open Go Go.RowKit
namespace Go.Proofs.Nw.X
open Go.Proofs.Nw.K
noncomputable def allI (f : Nat → Oper → Bool) (l : List Oper) : Nat → Bool :=
  List.rec (motive := fun _ => Nat → Bool) (fun _ => true) (fun o _ ih i => cond (f i o) (fN (Nat.succ i) ih) false) l
theorem allI_ok {f : Nat → Oper → Bool} : ∀ {l : List Oper} {i : Nat}, allI f l i = true → ∀ (p : Nat) (o : Oper), l[p]? = some o → f (i + p) o = true
  | [], i, h, p, o, hp => by simp at hp
  | o' :: l, i, h, p, o, hp => by
    have h : cond (f i o') (fN (Nat.succ i) (allI f l)) false = true := h
    obtain ⟨h1, h2⟩ := cond_and h
    rw [fN_eq] at h2
    cases p with
    | zero => simp at hp; subst hp; exact h1
    | succ p =>
      have := allI_ok h2 p o (by simpa using hp)
      rw [show i + (p + 1) = i + 1 + p by omega]; exact this
theorem allI_ok0 {f : Nat → Oper → Bool} {l : List Oper} (h : allI f l 0 = true) (i : Nat) (o : Oper) (ho : l[i]? = some o) : f i o = true := by
  have := allI_ok h i o ho
  rwa [Nat.zero_add] at this
noncomputable def aftM (l : List Edge) : Nat := List.rec 0 (fun e _ ih => cond (Region.binds .any e) (put1 ih e.on) ih) l
theorem aftM_tb : ∀ {l : List Edge} {j : Nat}, tb (aftM l) j = true ↔ ∃ e ∈ l, Region.binds .any e = true ∧ e.on = j
  | [], j => by show tb 0 j = true ↔ _; rw [tb_zero]; simp
  | e :: l, j => by
    have ih := aftM_tb (l := l) (j := j)
    show tb (cond (Region.binds .any e) (put1 (aftM l) e.on) (aftM l)) j = true ↔ _
    cases hb : Region.binds .any e with
    | false => simp only [cond_false, ih]; simp [hb]
    | true =>
      simp only [cond_true]
      rw [tb_put]
      simp only [Bool.or_eq_true, ih, decide_eq_true_eq, List.mem_cons]
      constructor
      · rintro (⟨e', h1, h2⟩ | h)
        · exact ⟨e', .inr h1, h2⟩
        · exact ⟨e, .inl rfl, hb, h⟩
      · rintro ⟨e', h1 | h1, h2⟩
        · subst h1; exact .inr h2.2
        · exact .inl ⟨e', h1, h2⟩
noncomputable def orUp (bs : List Nat) (aft : Nat) (i : Nat) : Nat := Nat.rec 0 (fun j ih => cond (tb aft j) (Nat.lor ih (bAt bs j)) ih) i
theorem orUp_tb {bs : List Nat} {aft x : Nat} : ∀ {i : Nat}, tb (orUp bs aft i) x = true → ∃ j, j < i ∧ tb aft j = true ∧ tb (bAt bs j) x = true
  | 0, h => by have h : tb 0 x = true := h; rw [tb_zero] at h; cases h
  | i + 1, h => by
    have h : tb (cond (tb aft i) (Nat.lor (orUp bs aft i) (bAt bs i)) (orUp bs aft i)) x = true := h
    cases hc : tb aft i with
    | false =>
      rw [hc] at h
      obtain ⟨j, h1, h2⟩ := orUp_tb (i := i) h
      exact ⟨j, by omega, h2⟩
    | true =>
      rw [hc] at h
      simp only [cond_true] at h
      rw [tb_lor, Bool.or_eq_true] at h
      rcases h with h | h
      · obtain ⟨j, h1, h2⟩ := orUp_tb (i := i) h
        exact ⟨j, by omega, h2⟩
      · exact ⟨i, by omega, hc, h⟩
noncomputable def mkM (aft : Nat) (acc : List Nat) (i : Nat) : Nat :=
  List.rec (motive := fun _ => Nat → Nat) (fun _ => aft) (fun b _ ih j => fN (Nat.pred j) fun j => cond (tb aft j) (Nat.lor (ih j) b) (ih j)) acc i
noncomputable def revK (acc : List Nat) (k : List Nat → R) : List Nat → R := List.rec (motive := fun _ => List Nat → R) (fun out => k out) (fun b _ ih out => ih (b :: out)) acc
noncomputable def bsK (ops : List Oper) (k : List Nat → R) : Nat → List Nat → R :=
  List.rec (motive := fun _ => Nat → List Nat → R) (fun _ acc => revK acc k []) (fun o _ ih i acc => fN (aftM o.after.toList) fun aft => fN (mkM aft acc i) fun m => fN (Nat.succ i) fun i => ih i (m :: acc)) ops
theorem revK_ok {k : List Nat → R} : ∀ {acc out : List Nat}, ∃ bs, revK acc k out = k bs
  | [], out => ⟨out, rfl⟩
  | b :: acc, out => revK_ok (acc := acc) (out := b :: out)
theorem bsK_ok {k : List Nat → R} : ∀ {ops : List Oper} {i : Nat} {acc : List Nat}, ∃ bs, bsK ops k i acc = k bs
  | [], i, acc => revK_ok
  | o :: l, i, acc => by
    show ∃ bs, (fN (aftM o.after.toList) fun aft => fN (mkM aft acc i) fun m => fN (Nat.succ i) fun i => bsK l k i (m :: acc)) = k bs
    rw [fN_eq, fN_eq, fN_eq]
    exact bsK_ok
noncomputable def isTurn (T : Tab) : Op → Bool
  | .store _ _ _ => true
  | .insert _ _ _ _ => true
  | .mapUpdate _ _ _ _ => true
  | .mapEntry _ _ _ => true
  | .entryStore _ _ _ _ => true
  | .call { callee := .value _, .. } => true
  | .call { callee := .builtin .append, .. } => true
  | .call { callee := .builtin .unsafeString, .. } => true
  | .call { callee := .builtin .clear, .. } => true
  | .convert s d _ => (match T.kd s, T.kd d with | .str, .slice _ => true | _, _ => false)
  | _ => false
noncomputable def isMk (op : Op) : Bool := match clOf op with | .a => true | _ => false
noncomputable def isPu (op : Op) : Bool := match clOf op with | .p => true | _ => false
noncomputable def tsOf (p : Op → Bool) (l : List Oper) : Nat → List Nat :=
  List.rec (motive := fun _ => Nat → List Nat) (fun _ => []) (fun o _ ih i => cond (p o.op) (i :: fN (Nat.succ i) ih) (fN (Nat.succ i) ih)) l
noncomputable def tmOf (ts : List Nat) : Nat := List.rec 0 (fun c _ ih => put1 ih c) ts
theorem tmOf_tb : ∀ {ts : List Nat} {c : Nat}, tb (tmOf ts) c = true ↔ c ∈ ts
  | [], c => by show tb 0 c = true ↔ _; rw [tb_zero]; simp
  | a :: ts, c => by
    show tb (put1 (tmOf ts) a) c = true ↔ _
    rw [tb_put]
    simp only [Bool.or_eq_true, tmOf_tb, decide_eq_true_eq, List.mem_cons]
    exact ⟨fun h => h.elim .inr fun e => .inl e.symm, fun h => h.elim (fun e => .inr e.symm) .inl⟩
theorem tsOf_ok {p : Op → Bool} : ∀ {l : List Oper} {i : Nat}, (∀ c ∈ tsOf p l i, i ≤ c ∧ c < i + l.length) ∧ (tsOf p l i).Nodup
  | [], i => ⟨fun c h => (by cases h), List.nodup_nil⟩
  | o :: l, i => by
    obtain ⟨h1, h2⟩ := tsOf_ok (p := p) (l := l) (i := i + 1)
    have e : tsOf p (o :: l) i = cond (p o.op) (i :: tsOf p l (i + 1)) (tsOf p l (i + 1)) := by
      show cond (p o.op) (i :: fN (Nat.succ i) (tsOf p l)) (fN (Nat.succ i) (tsOf p l)) = _
      rw [fN_eq]
    rw [e]
    cases p o.op with
    | false => exact ⟨fun c hc => by have := h1 c hc; simp only [List.length_cons]; omega, h2⟩
    | true =>
      refine ⟨fun c hc => ?_, List.nodup_cons.2 ⟨fun hm => ?_, h2⟩⟩
      · simp only [cond_true, List.mem_cons] at hc
        rcases hc with rfl | hc
        · simp only [List.length_cons]; omega
        · have := h1 c hc; simp only [List.length_cons]; omega
      · have := h1 i hm; omega
noncomputable def chn (bs : List Nat) (r : List Nat) : Nat → Bool := List.rec (motive := fun _ => Nat → Bool) (fun _ => true) (fun c _ ih p => cond (tb (bAt bs c) p) (ih c) false) r
noncomputable def chnT (bs : List Nat) (ts : List Nat) : Bool := List.casesOn ts true fun c r => chn bs r c
theorem chn_ok {bs : List Nat} : ∀ {r : List Nat} {p : Nat}, chn bs r p = true → ∀ (j c c' : Nat), (p :: r)[j]? = some c → (p :: r)[j + 1]? = some c' → tb (bAt bs c') c = true
  | [], p, h, j, c, c', h1, h2 => by simp at h2
  | x :: r, p, h, j, c, c', h1, h2 => by
    have h : cond (tb (bAt bs x) p) (chn bs r x) false = true := h
    obtain ⟨a, b⟩ := cond_and h
    cases j with
    | zero => simp at h1 h2; subst h1; subst h2; exact a
    | succ j => exact chn_ok b j c c' (by simpa using h1) (by simpa using h2)
theorem chnT_ok {bs ts : List Nat} (h : chnT bs ts = true) (j c c' : Nat) (h1 : ts[j]? = some c) (h2 : ts[j + 1]? = some c') : tb (bAt bs c') c = true := by
  cases ts with
  | nil => simp at h1
  | cons p r => exact chn_ok h j c c' h1 h2
section
variable (ops : List Oper) (bs : List Nat) (tm len : Nat)
noncomputable def slT (f : Nat → Bool) (l : List Operand) : Bool := List.rec true (fun x _ ih => match x with | .tmp t => cond (f t) ih false | _ => ih) l
noncomputable def sl1 (i : Nat) (fr : Bool) (t : Nat) : Bool :=
  allI (fun j oj => match oj.dst with | some d => cond (Nat.beq d t) (cond (tb (bAt bs i) j) true (cond fr (cond (tb (bAt bs j) i) true (Nat.beq j i)) false)) true | none => true) ops 0
noncomputable def chkA (i : Nat) (o : Oper) : Bool :=
  fN (aftM o.after.toList) fun aft => cond (Nat.blt aft (Nat.pow 2 i)) (Nat.beq (bAt bs i) (Nat.lor aft (orUp bs aft i))) false
noncomputable def chkB (i : Nat) (o : Oper) : Bool :=
    cond (match o.dst with
        | some d => cond (Nat.blt d len) (allI (fun j oj => match oj.dst with | some d' => cond (Nat.beq d d') (Nat.beq i j) true | none => true) ops 0) false
        | none => cond (tb tm i) true (isPu o.op))
      (cond (match o.guard with | some (j, _) => tb (bAt bs i) j | none => true)
        (match opL o.op with | some l => slT (sl1 ops bs i (cond (tb tm i) true (isPu o.op))) l | none => false) false) false
noncomputable def nlB (op : Op) : Bool := match litArgs op with | some _ => false | none => true
noncomputable def chk1 (i : Nat) (o : Oper) : Bool := cond (chkA bs i o) (cond (nlB o.op) (chkB ops bs tm len i o) false) false
end
theorem slT_ok {f : Nat → Bool} : ∀ {l : List Operand}, slT f l = true → ∀ t, Operand.tmp t ∈ l → f t = true
  | [], h, t, ht => by cases ht
  | x :: l, h, t, ht => by
    have h1 : ∀ t', x = .tmp t' → cond (f t') (slT f l) false = true := fun t' e => by subst e; exact h
    have h2 : slT f l = true := by
      cases x with
      | tmp t' => exact (cond_and (h1 t' rfl)).2
      | _ => exact h
    rcases List.mem_cons.1 ht with e | e
    · exact (cond_and (h1 t e.symm)).1
    · exact slT_ok h2 t e
theorem isPu_ok {op : Op} : isPu op = true ↔ clOf op = .p := by unfold isPu; cases clOf op <;> simp
section
variable {ops : List Oper} {bs : List Nat} {ts : List Nat} {len : Nat} {p : Op → Bool}
theorem stB_ok (h : ∀ (i : Nat) (o : Oper), ops[i]? = some o → chkB ops bs (tmOf (tsOf p ops 0)) len i o = true) : St ops bs (tmOf (tsOf p ops 0)) (tsOf p ops 0) len := by
  have B : ∀ (i : Nat) (o : Oper), ops[i]? = some o →
      (match o.dst with
        | some d => cond (Nat.blt d len) (allI (fun j oj => match oj.dst with | some d' => cond (Nat.beq d d') (Nat.beq i j) true | none => true) ops 0) false
        | none => cond (tb (tmOf (tsOf p ops 0)) i) true (isPu o.op)) = true ∧ (match o.guard with | some (j, _) => tb (bAt bs i) j | none => true) = true ∧
      (match opL o.op with | some l => slT (sl1 ops bs i (cond (tb (tmOf (tsOf p ops 0)) i) true (isPu o.op))) l | none => false) = true := fun i o ho => by
    have := h i o ho
    unfold chkB at this
    obtain ⟨h3, this⟩ := cond_and this
    obtain ⟨h4, h5⟩ := cond_and this
    exact ⟨h3, h4, h5⟩
  have dne : ∀ (i j t : Nat), W ops i t → W ops j t → i = j := fun i j t ⟨oi, h1, h2⟩ ⟨oj, h3, h4⟩ => by
    have := (B i oi h1).1
    rw [h2] at this
    have := allI_ok0 (cond_and this).2 j oj h3
    simp only [h4] at this
    have e : Nat.beq t t = true := by rw [beq_eq]; simp
    rw [e] at this
    exact nbeq this
  have tin : ∀ c, c ∈ tsOf p ops 0 ↔ tb (tmOf (tsOf p ops 0)) c = true ∧ c < ops.length := fun c => by
    rw [tmOf_tb]
    exact ⟨fun h => ⟨h, by have := (tsOf_ok.1 c h).2; omega⟩, fun h => h.1⟩
  refine ⟨fun i o ho => ?_, fun i o t ho hs j hw => ?_, fun i o d ho hd => ?_, dne, fun i o ho ht hp => ?_, tin, fun j j' c h1 h2 => ?_⟩
  · have := (B i o ho).2.2
    cases hl : opL o.op with
    | none => rw [hl] at this; cases this
    | some l => exact ⟨l, rfl⟩
  · obtain ⟨_, h4, h5⟩ := B i o ho
    rcases hs with ⟨l, hl, hm⟩ | ⟨j', want, hg, hw'⟩
    · rw [hl] at h5
      have h6 := slT_ok h5 t hm
      obtain ⟨oj, h7, h8⟩ := hw
      have h6 := allI_ok0 h6 j oj h7
      simp only [h8] at h6
      have e : Nat.beq t t = true := by rw [beq_eq]; simp
      rw [e] at h6
      simp only [cond_true] at h6
      cases hb : tb (bAt bs i) j with
      | true => exact .inl rfl
      | false =>
        rw [hb] at h6
        simp only [cond_false] at h6
        obtain ⟨h7, h8⟩ := cond_and h6
        refine .inr ⟨?_, ?_⟩
        · cases ht : tb (tmOf (tsOf p ops 0)) i with
          | true => exact .inl rfl
          | false => rw [ht] at h7; exact .inr (isPu_ok.1 h7)
        · cases hb2 : tb (bAt bs j) i with
          | true => exact .inl rfl
          | false => rw [hb2] at h8; exact .inr (nbeq h8)
    · rw [hg] at h4
      rw [dne j j' t hw hw']
      exact .inl h4
  · have := (B i o ho).1
    rw [hd] at this
    have := (cond_and this).1
    rw [blt_eq] at this
    exact of_decide_eq_true this
  · have := (B i o ho).1
    cases hd : o.dst with
    | some d => exact ⟨d, rfl⟩
    | none => rw [hd, ht] at this; exact absurd (isPu_ok.1 this) hp
  · have hnd := (tsOf_ok (p := p) (l := ops) (i := 0)).2
    obtain ⟨q1, e1⟩ := List.getElem?_eq_some_iff.1 h1
    obtain ⟨q2, e2⟩ := List.getElem?_eq_some_iff.1 h2
    exact (List.getElem_inj hnd).1 (e1.trans e2.symm)
theorem stA_ok (h : ∀ (i : Nat) (o : Oper), ops[i]? = some o → chkA bs i o = true) : St2 ops bs := by
  have B : ∀ (i : Nat) (o : Oper), ops[i]? = some o → aftM o.after.toList < 2 ^ i ∧ bAt bs i = Nat.lor (aftM o.after.toList) (orUp bs (aftM o.after.toList) i) := fun i o ho => by
    have := h i o ho
    unfold chkA at this
    rw [fN_eq] at this
    obtain ⟨h1, h2⟩ := cond_and this
    rw [blt_eq] at h1
    exact ⟨of_decide_eq_true h1, nbeq h2⟩
  refine ⟨fun i o ho e he hb => ?_, fun listed hcl => ?_⟩
  · have h1 := (B i o ho).1
    have h2 : tb (aftM o.after.toList) e.on = true := aftM_tb.2 ⟨e, by simpa using he, hb, rfl⟩
    rw [tb_eq] at h2
    by_cases hlt : e.on < i
    · exact hlt
    · have := Nat.testBit_lt_two_pow (Nat.lt_of_lt_of_le h1 (Nat.pow_le_pow_right (by decide) (Nat.le_of_not_lt hlt)))
      rw [this] at h2; cases h2
  · intro i
    induction i using Nat.strongRecOn with
    | _ i ih =>
      intro o ho ha x hx
      rw [(B i o ho).2, tb_lor, Bool.or_eq_true] at hx
      rcases hx with hx | hx
      · obtain ⟨e, h1, h2, h3⟩ := aftM_tb.1 hx
        rw [← h3]
        exact ha e (by simpa using h1) h2
      · obtain ⟨j, h1, h2, h3⟩ := orUp_tb hx
        obtain ⟨e, h4, h5, h6⟩ := aftM_tb.1 h2
        have hj : listed.getD j false = true := by rw [← h6]; exact ha e (by simpa using h4) h5
        by_cases hjl : j < ops.length
        · have hoj : ops[j]? = some ops[j] := List.getElem?_eq_getElem hjl
          exact ih j h1 _ hoj (hcl j _ hoj hj) x h3
        · exfalso
          have : i < ops.length := (List.getElem?_eq_some_iff.1 ho).1
          omega
theorem st_ok (h : allI (chk1 ops bs (tmOf (tsOf p ops 0)) len) ops 0 = true) (hc : chnT bs (tsOf p ops 0) = true) : St ops bs (tmOf (tsOf p ops 0)) (tsOf p ops 0) len ∧ St2 ops bs ∧ Chn bs (tsOf p ops 0) ∧ ∀ (i : Nat) (o : Oper), ops[i]? = some o → litArgs o.op = none := by
  have A : ∀ (i : Nat) (o : Oper), ops[i]? = some o → _ := fun i o ho => allI_ok0 h i o ho
  have B : ∀ (i : Nat) (o : Oper), ops[i]? = some o → chkA bs i o = true ∧ nlB o.op = true ∧ chkB ops bs (tmOf (tsOf p ops 0)) len i o = true := fun i o ho => by
    have := A i o ho
    unfold chk1 at this
    obtain ⟨h1, this⟩ := cond_and this
    exact ⟨h1, cond_and this⟩
  refine ⟨stB_ok fun i o ho => (B i o ho).2.2, stA_ok fun i o ho => (B i o ho).1, fun j c c' h1 h2 => chnT_ok hc j c c' h1 h2, fun i o ho => ?_⟩
  have := (B i o ho).2.1
  unfold nlB at this
  split at this
  · cases this
  · assumption
end
end Go.Proofs.Nw.X
end
section
/- X20: .. gone through, stage by stage. -/
open Go Go.RowKit
namespace Go.Proofs.Nw.X
open Go.Proofs.Nw.K
section
variable (T : Tab) (M : MTab) (cf : FuncId → Fn1) (ops : List Oper) (bs : List Nat) (tm : Nat)
noncomputable def wsB (w : Option Bool) (A B : R) : R := match w with | some true => A | some false => B | none => none
noncomputable def alB (n : Id) (A : Id → R) : R := match nxt n with | some n' => A n' | none => none
noncomputable def st0 (o : Oper) (env : Env) (h : H) (n : Id) (K : KV) : R :=
  match clOf o.op with
    | .p => evPu T M o.op (evE env) fun v => K v h n
    | .r => evRe T M o.op (evE env) h fun v => K v h n
    | .a => alB n fun n' => evAlX T o.op (evE env) fun x mk => K (mk n) (hset x n h) n'
noncomputable def st1 (o : Oper) (env : Env) (h : H) (n : Id) (k : KC) : R :=
  match o.guard with
  | none => st0 T M o env h n fun v h n => k (putE o.dst v env) h n
  | some _ => jp (fun (v : V) (h : H) (n : Id) => k (putE o.dst v env) h n) fun K =>
    wsB (wantS ops o (rd env)) (st0 T M o env h n K) (K (.tp []) h n)
noncomputable def goB (i ev : Nat) : Bool := cond (tb tm i) false (cond (tb ev i) false (sub (bAt bs i) ev))
noncomputable def passD (l : List Oper) : Nat → Nat → Env → H → Id → (Nat → Env → H → Id → R) → R :=
  List.rec (motive := fun _ => Nat → Nat → Env → H → Id → (Nat → Env → H → Id → R) → R) (fun _ ev env h n k => k ev env h n)
    (fun o _ ih i ev env h n k => cnd (goB bs tm i ev) (st1 T M ops o env h n fun env h n => fN (put1 ev i) fun ev => fN (Nat.succ i) fun i => ih i ev env h n k) (fN (Nat.succ i) fun i => ih i ev env h n k)) l
noncomputable def ckS (o : Oper) (env : Env) (k : R) : R := match o.dst with | some d => cond (eqV 2 (rd env d) (.tp [])) k none | none => none
noncomputable def ckR (o : Oper) (env : Env) (h : H) (k : R) : R := match o.dst with | some d => evRe T M o.op (evE env) h fun v => cond (eqV 6 v (rd env d)) k none | none => none
noncomputable def ckO (id : Option Id) (h : H) (kk : Id → O → R) : R := match id with | some id => (match hget id h with | some x => kk id x | none => none) | none => none
noncomputable def ckA (o : Oper) (env : Env) (h : H) (k : R) : R := match o.dst with
  | some d => ckO (vId (rd env d)) h fun id x' => evAlX T o.op (evE env) fun x mk => cond (eqO x' x) (cond (eqV 6 (mk id) (rd env d)) k none) none
  | none => none
noncomputable def okR : R := some .j
noncomputable def thenR (a k : R) : R := match a with | some _ => k | none => none
noncomputable def ck1 (o : Oper) (env : Env) (h : H) (n : Id) (k : R) : R :=
  match clOf o.op with
  | .p => k
  | .r => (match o.guard with
    | none => ckR T M o env h k
    | some _ => thenR (wsB (wantS ops o (rd env)) (ckR T M o env h okR) (ckS o env okR)) k)
  | .a => (match o.guard with
    | none => ckA T o env h k
    | some _ => thenR (wsB (wantS ops o (rd env)) (ckA T o env h okR) (ckS o env okR)) k)
noncomputable def cpB (D am i : Nat) : Bool := cond (tb am i) false (sub (Nat.land (bAt bs i) tm) D)
noncomputable def chkD (env : Env) (h : H) (n : Id) (D am ev : Nat) (l : List Oper) : Nat → R → R :=
  List.rec (motive := fun _ => Nat → R → R) (fun _ k => k)
    (fun o _ ih i k => cnd (cond (tb tm i) false (cpB bs tm D am i)) (cnd (tb ev i) (ck1 T M ops o env h n (fN (Nat.succ i) fun i => ih i k)) none) (fN (Nat.succ i) fun i => ih i k)) l
noncomputable def turn1 (o : Oper) (env : Env) (h : H) (n : Id) (k : KC) : R :=
  match o.guard with
  | none => evOp T M cf o.op (evE env) h n fun v h n => k (putE o.dst v env) h n
  | some _ => jp (fun (v : V) (h : H) (n : Id) => k (putE o.dst v env) h n) fun K =>
    wsB (wantS ops o (rd env)) (evOp T M cf o.op (evE env) h n K) (K (.tp []) h n)
noncomputable def goD (ts : List Nat) : Nat → Nat → Nat → Env → H → Id → KC → R :=
  List.rec (motive := fun _ => Nat → Nat → Nat → Env → H → Id → KC → R)
    (fun D am ev env h n k => passD T M ops bs tm ops 0 ev env h n fun ev env h n => chkD T M ops bs tm env h n D am ev ops 0 (cnd (allI (fun i _ => tb ev i) ops 0) (k env h n) none))
    (fun c _ ih D am ev env h n k => passD T M ops bs tm ops 0 ev env h n fun ev env h n => chkD T M ops bs tm env h n D am ev ops 0 (match getL c ops with
      | some o => cnd (sub (bAt bs c) ev) (turn1 T M cf ops o env h n fun env h n => fN (put1 D c) fun D => fN (Nat.lor am (bAt bs c)) fun am => fN (put1 ev c) fun ev => ih D am ev env h n k) none
      | none => none)) ts
noncomputable def drG (p : Op → Bool) (env : Env) (h : H) (n : Id) (k : KC) : R :=
  cnd (chnT bs (tsOf p ops 0)) (fN (tmOf (tsOf p ops 0)) fun tm => cnd (allI (chk1 ops bs tm (lenL env)) ops 0) (goD T M cf ops bs tm (tsOf p ops 0) 0 0 0 env h n k) none) none
noncomputable def drE : DR := fun ops env h n k => bsK ops (fun bs =>
  cnd (chnT bs (tsOf (fun op => cond (isTurn T op) true (isMk op)) ops 0)) (drG T M cf ops bs (fun op => cond (isTurn T op) true (isMk op)) env h n k) (drG T M cf ops bs (isTurn T) env h n k)) 0 []
end
section
variable {P : Program} {T : Tab} {M : MTab} {cf : FuncId → Fn1} (O : Ok P T M cf)
variable {ops : List Oper} {bs : List Nat} {tm : Nat} {ts : List Nat} {env0 : Env} (S : St ops bs tm ts env0.length)
variable {k : Nat} {Hb He : Nat → H × Id}
include O S in
theorem st1_ok {ev : Nat} {env : Env} {h : H} {n : Id} {sg : Nat → Nat} (j : J P ops bs tm ts env0 k ev env h n Hb He sg) {i : Nat} {o : Oper} (ho : ops[i]? = some o) (hg : goB bs tm i ev = true) {K : KC} {r : V} (hr : st1 T M ops o env h n K = some r) :
    ∃ env' h' n' sg', K env' h' n' = some r ∧ J P ops bs tm ts env0 k (put1 ev i) env' h' n' Hb He sg' := by
  obtain ⟨ht, hi, hb⟩ : tb tm i = false ∧ tb ev i = false ∧ sub (bAt bs i) ev = true := by
    unfold goB at hg
    cases h1 : tb tm i <;> rw [h1] at hg
    · cases h2 : tb ev i <;> rw [h2] at hg
      · exact ⟨rfl, rfl, hg⟩
      · cases hg
    · cases hg
  have hb : ∀ j, tb (bAt bs i) j = true → tb ev j = true := fun _ => sub_ok hb
  obtain ⟨l, hl⟩ := S.opl i o ho
  have nw : ∀ v, (∀ t, SlotOf ops o t → rd env t = sgm ops bs env0 (putE o.dst v env) i t) := fun v => slot_new S j ho hi hb (put_keep S j ho hi v).1
  have vis : ∀ v, VIs o v (putE o.dst v env) := fun v => (put_keep S j ho hi v).2.1
  have hr : (∃ _ : wantS ops o (rd env) = some true, st0 T M o env h n (fun v h n => K (putE o.dst v env) h n) = some r) ∨ ∃ _ : wantS ops o (rd env) = some false, K (putE o.dst (.tp []) env) h n = some r := by
    unfold st1 jp wsB at hr
    split at hr
    · rename_i hg
      exact .inl ⟨by unfold wantS; rw [hg], hr⟩
    · split at hr
      · rename_i hw; exact .inl ⟨hw, hr⟩
      · rename_i hw; exact .inr ⟨hw, hr⟩
      · cases hr
  rcases hr with ⟨hw, hr⟩ | ⟨hw, hr⟩
  · unfold st0 at hr
    split at hr
    · rename_i hc
      obtain ⟨v, h1, h2⟩ := evPu_ok O.tT O.fl _ hr
      refine ⟨_, _, _, _, h1, J.more S j ho hi ht hb (v := v) (Up.refl _) (fun _ h n => ⟨v, vis v, .inr ⟨(want_congr (nw v)).symm.trans hw, .inl ⟨(by rw [hc]; intro e; cases e), ?_⟩⟩⟩) (fun e => by rw [hc] at e; cases e)⟩
      have := h2 h n
      rw [evE_T] at this
      exact this.congr (evT_congr hl (nw v))
    · rename_i hc
      obtain ⟨v, h1, h2⟩ := evRe_ok (n := n) O hr
      exact ⟨_, _, _, _, h1, J.more S j ho hi ht hb (v := v) (Up.refl _) (fun e => by rw [hc] at e; cases e) (fun e => by rw [hc] at e; cases e)⟩
    · rename_i hc
      unfold alB at hr
      split at hr
      · rename_i n' hn
        obtain ⟨x, mk, h1, h2⟩ := evAlX_ok O.tT hr
        refine ⟨_, _, _, _, h1, J.more S j ho hi ht hb (v := mk n) (Up.aside hn x) (fun e => by rw [hc] at e; cases e) (fun _ id hid => ?_)⟩
        rw [h2.vid n] at hid
        exact ⟨(Option.some.inj hid).symm, by have := (nxt_rk hn).1; omega⟩
      · cases hr
  · refine ⟨_, _, _, _, hr, J.more S j ho hi ht hb (v := .tp []) (Up.refl _) (fun _ h n => ⟨_, vis _, .inl ⟨(want_congr (nw _)).symm.trans hw, rfl⟩⟩) (fun _ id hid => by cases hid)⟩
include O S in
theorem pass_ok : ∀ (l : List Oper) (i ev : Nat) (env : Env) (h : H) (n : Id) (sg : Nat → Nat) {K : Nat → Env → H → Id → R} {r : V}, (∀ p, l[p]? = ops[i + p]?) → J P ops bs tm ts env0 k ev env h n Hb He sg → passD T M ops bs tm l i ev env h n K = some r →
    ∃ ev' env' h' n' sg', K ev' env' h' n' = some r ∧ J P ops bs tm ts env0 k ev' env' h' n' Hb He sg'
  | [], i, ev, env, h, n, sg, K, r, hl, j, hr => ⟨ev, env, h, n, sg, hr, j⟩
  | o :: l, i, ev, env, h, n, sg, K, r, hl, j, hr => by
    have hr : cnd (goB bs tm i ev) (st1 T M ops o env h n fun env h n => fN (put1 ev i) fun ev => fN (Nat.succ i) fun i => passD T M ops bs tm l i ev env h n K) (fN (Nat.succ i) fun i => passD T M ops bs tm l i ev env h n K) = some r := hr
    rw [cnd_eq] at hr
    have hl' : ∀ p, l[p]? = ops[i + 1 + p]? := fun p => by have := hl (p + 1); rw [show i + (p + 1) = i + 1 + p by omega] at this; simpa using this
    have ho : ops[i]? = some o := by have := hl 0; simpa using this.symm
    cases hg : goB bs tm i ev with
    | false =>
      rw [hg] at hr
      simp only [cond_false, fN_eq] at hr
      exact pass_ok l (i + 1) ev env h n sg hl' j hr
    | true =>
      rw [hg] at hr
      simp only [cond_true, fN_eq] at hr
      obtain ⟨env', h', n', sg', h1, h2⟩ := st1_ok O S j ho hg hr
      exact pass_ok l (i + 1) _ env' h' n' sg' hl' h2 h1
theorem thenR_ok {a k : R} {r : V} (h : thenR a k = some r) : (∃ r', a = some r') ∧ k = some r := by
  cases a with
  | none => cases h
  | some v => exact ⟨⟨v, rfl⟩, h⟩
include O S in
theorem ck1_ok {ev : Nat} {env : Env} {h : H} {n : Id} {sg : Nat → Nat} (j : J P ops bs tm ts env0 k ev env h n Hb He sg) {i : Nat} {o : Oper} (ho : ops[i]? = some o) (ht : tb tm i = false) (hi : tb ev i = true) {K : R} {r : V} (hr : ck1 T M ops o env h n K = some r) :
    K = some r ∧ NT P ops bs env0 env i o h n := by
  obtain ⟨l, hl⟩ := S.opl i o ho
  unfold ck1 at hr
  split at hr
  · rename_i hc
    exact ⟨hr, j.pu i o ho hi ht hc h n⟩
  · rename_i hc
    have bk := slot_back S j ho ht (by rw [hc]; intro e; cases e)
    have hr : (∃ _ : wantS ops o (rd env) = some true, ∃ K' r', ckR T M o env h K' = some r' ∧ (K' = some r' → K = some r)) ∨ ∃ _ : wantS ops o (rd env) = some false, ∃ K' r', ckS o env K' = some r' ∧ (K' = some r' → K = some r) := by
      split at hr
      · rename_i hg
        exact .inl ⟨by unfold wantS; rw [hg], K, r, hr, id⟩
      · obtain ⟨⟨r', h1⟩, h2⟩ := thenR_ok hr
        unfold wsB at h1
        split at h1
        · rename_i hw; exact .inl ⟨hw, okR, r', h1, fun _ => h2⟩
        · rename_i hw; exact .inr ⟨hw, okR, r', h1, fun _ => h2⟩
        · cases h1
    rcases hr with ⟨hw, K', r', hr, hKK⟩ | ⟨hw, K', r', hr, hKK⟩
    · unfold ckR at hr
      split at hr
      · rename_i d hd
        obtain ⟨v, h1, h2⟩ := evRe_ok (n := n) O hr
        obtain ⟨h3, h4⟩ : eqV 6 v (rd env d) = true ∧ K' = some r' := by
          cases he : eqV 6 v (rd env d) <;> rw [he] at h1
          · cases h1
          · exact ⟨rfl, h1⟩
        have e := eqV_ok h3
        rw [evE_T] at h2
        exact ⟨hKK h4, v, fun d' hd' => by rw [hd] at hd'; cases hd'; exact e.symm, .inr ⟨(want_congr bk).symm.trans hw, .inl ⟨(by rw [hc]; intro e; cases e), h2.congr (evT_congr hl bk)⟩⟩⟩
      · cases hr
    · unfold ckS at hr
      split at hr
      · rename_i d hd
        obtain ⟨h3, h4⟩ : eqV 2 (rd env d) (.tp []) = true ∧ K' = some r' := by
          cases he : eqV 2 (rd env d) (.tp []) <;> rw [he] at hr
          · cases hr
          · exact ⟨rfl, hr⟩
        exact ⟨hKK h4, _, fun d' hd' => by rw [hd] at hd'; cases hd'; exact eqV_ok h3, .inl ⟨(want_congr bk).symm.trans hw, rfl⟩⟩
      · cases hr
  · rename_i hc
    have bk := slot_back S j ho ht (by rw [hc]; intro e; cases e)
    have hr : (∃ _ : wantS ops o (rd env) = some true, ∃ K' r', ckA T o env h K' = some r' ∧ (K' = some r' → K = some r)) ∨ ∃ _ : wantS ops o (rd env) = some false, ∃ K' r', ckS o env K' = some r' ∧ (K' = some r' → K = some r) := by
      split at hr
      · rename_i hg
        exact .inl ⟨by unfold wantS; rw [hg], K, r, hr, id⟩
      · obtain ⟨⟨r', h1⟩, h2⟩ := thenR_ok hr
        unfold wsB at h1
        split at h1
        · rename_i hw; exact .inl ⟨hw, okR, r', h1, fun _ => h2⟩
        · rename_i hw; exact .inr ⟨hw, okR, r', h1, fun _ => h2⟩
        · cases h1
    rcases hr with ⟨hw, K', r', hr, hKK⟩ | ⟨hw, K', r', hr, hKK⟩
    · unfold ckA at hr
      split at hr
      · rename_i d hd
        unfold ckO at hr
        split at hr
        · rename_i id hid
          split at hr
          · rename_i x' hx
            obtain ⟨x, mk, h1, h2⟩ := evAlX_ok O.tT hr
            obtain ⟨h3, h5, h4⟩ : eqO x' x = true ∧ eqV 6 (mk id) (rd env d) = true ∧ K' = some r' := by
              cases ha : eqO x' x <;> rw [ha] at h1
              · cases h1
              · cases he : eqV 6 (mk id) (rd env d) <;> rw [he] at h1
                · cases h1
                · exact ⟨rfl, rfl, h1⟩
            have e := eqV_ok h5
            rw [evE_T] at h2
            exact ⟨hKK h4, mk id, fun d' hd' => by rw [hd] at hd'; cases hd'; exact e.symm, .inr ⟨(want_congr bk).symm.trans hw, .inr ⟨hc, id, x, mk, h2.congr (evT_congr hl bk), rfl, by rw [← eqO_ok h3]; exact hx⟩⟩⟩
          · cases hr
        · cases hr
      · cases hr
    · unfold ckS at hr
      split at hr
      · rename_i d hd
        obtain ⟨h3, h4⟩ : eqV 2 (rd env d) (.tp []) = true ∧ K' = some r' := by
          cases he : eqV 2 (rd env d) (.tp []) <;> rw [he] at hr
          · cases hr
          · exact ⟨rfl, hr⟩
        exact ⟨hKK h4, _, fun d' hd' => by rw [hd] at hd'; cases hd'; exact eqV_ok h3, .inl ⟨(want_congr bk).symm.trans hw, rfl⟩⟩
      · cases hr
include O S in
theorem chk_ok {ev D am : Nat} {env : Env} {h : H} {n : Id} {sg : Nat → Nat} (j : J P ops bs tm ts env0 k ev env h n Hb He sg) (hcp : ∀ i, Compat bs ts i k → cpB bs tm D am i = true) :
    ∀ (l : List Oper) (i : Nat) {K : R} {r : V}, (∀ p, l[p]? = ops[i + p]?) → chkD T M ops bs tm env h n D am ev l i K = some r →
    K = some r ∧ ∀ (p : Nat) (o : Oper), l[p]? = some o → tb tm (i + p) = false → Compat bs ts (i + p) k → tb ev (i + p) = true ∧ NT P ops bs env0 env (i + p) o h n
  | [], i, K, r, hl, hr => ⟨hr, fun p o hp => by simp at hp⟩
  | o :: l, i, K, r, hl, hr => by
    have hr : cnd (cond (tb tm i) false (cpB bs tm D am i)) (cnd (tb ev i) (ck1 T M ops o env h n (fN (Nat.succ i) fun i => chkD T M ops bs tm env h n D am ev l i K)) none) (fN (Nat.succ i) fun i => chkD T M ops bs tm env h n D am ev l i K) = some r := hr
    simp only [cnd_eq] at hr
    have hl' : ∀ p, l[p]? = ops[i + 1 + p]? := fun p => by have := hl (p + 1); rw [show i + (p + 1) = i + 1 + p by omega] at this; simpa using this
    have ho : ops[i]? = some o := by have := hl 0; simpa using this.symm
    have fin : (tb tm i = false → Compat bs ts i k → tb ev i = true ∧ NT P ops bs env0 env i o h n) → chkD T M ops bs tm env h n D am ev l (i + 1) K = some r →
        K = some r ∧ ∀ (p : Nat) (o' : Oper), (o :: l)[p]? = some o' → tb tm (i + p) = false → Compat bs ts (i + p) k → tb ev (i + p) = true ∧ NT P ops bs env0 env (i + p) o' h n := fun h1 h2 => by
      obtain ⟨h3, h4⟩ := chk_ok j hcp l (i + 1) hl' h2
      refine ⟨h3, fun p o' hp ht hc => ?_⟩
      cases p with
      | zero => simp at hp; subst hp; exact h1 ht hc
      | succ p =>
        have := h4 p o' (by simpa using hp) (by rw [show i + 1 + p = i + (p + 1) by omega]; exact ht) (by rw [show i + 1 + p = i + (p + 1) by omega]; exact hc)
        rw [show i + 1 + p = i + (p + 1) by omega] at this
        exact this
    cases ht : tb tm i with
    | true =>
      rw [ht] at hr
      simp only [cond_true, cond_false, fN_eq] at hr
      exact fin (fun e => by rw [ht] at e; cases e) hr
    | false =>
      rw [ht] at hr
      simp only [cond_false] at hr
      cases hc : cpB bs tm D am i with
      | false =>
        rw [hc] at hr
        simp only [cond_false, fN_eq] at hr
        exact fin (fun _ e => by rw [hcp i e] at hc; cases hc) hr
      | true =>
        rw [hc] at hr
        simp only [cond_true] at hr
        cases hv : tb ev i with
        | false => rw [hv] at hr; cases hr
        | true =>
          rw [hv] at hr
          simp only [cond_true, fN_eq] at hr
          obtain ⟨h1, h2⟩ := ck1_ok O S j ho ht hv hr
          exact fin (fun _ _ => ⟨hv, h2⟩) h1
include O S in
theorem turn1_ok {ev : Nat} {env : Env} {h : H} {n : Id} {sg : Nat → Nat} (j : J P ops bs tm ts env0 k ev env h n Hb He sg) {c : Nat} {o : Oper} (hc : ts[k]? = some c) (ho : ops[c]? = some o) (hb : sub (bAt bs c) ev = true)
    (hs : ∀ (i : Nat) (o : Oper), ops[i]? = some o → tb tm i = false → Compat bs ts i k → tb ev i = true ∧ NT P ops bs env0 env i o h n) {K : KC} {r : V} (hr : turn1 T M cf ops o env h n K = some r) :
    ∃ env' h' n' Hb' He', K env' h' n' = some r ∧ Hb' 0 = Hb 0 ∧ J P ops bs tm ts env0 (k + 1) (put1 ev c) env' h' n' Hb' He' sg := by
  have hi : tb ev c = false := by
    cases hx : tb ev c with
    | false => rfl
    | true => exact absurd ((j.tev k c hc).1 hx) (Nat.lt_irrefl _)
  have hb : ∀ j, tb (bAt bs c) j = true → tb ev j = true := fun _ => sub_ok hb
  obtain ⟨l, hl⟩ := S.opl c o ho
  have nw : ∀ v, (∀ t, SlotOf ops o t → rd env t = sgm ops bs env0 (putE o.dst v env) c t) := fun v => slot_new S j ho hi hb (put_keep S j ho hi v).1
  have vis : ∀ v, VIs o v (putE o.dst v env) := fun v => (put_keep S j ho hi v).2.1
  have e0 : ∀ (x : H × Id), (fun y => if y = k + 1 then x else Hb y) 0 = Hb 0 := fun x => by simp
  have hr : (∃ _ : wantS ops o (rd env) = some true, evOp T M cf o.op (evE env) h n (fun v h n => K (putE o.dst v env) h n) = some r) ∨ ∃ _ : wantS ops o (rd env) = some false, K (putE o.dst (.tp []) env) h n = some r := by
    unfold turn1 jp wsB at hr
    split at hr
    · rename_i hg
      exact .inl ⟨by unfold wantS; rw [hg], hr⟩
    · split at hr
      · rename_i hw; exact .inl ⟨hw, hr⟩
      · rename_i hw; exact .inr ⟨hw, hr⟩
      · cases hr
  rcases hr with ⟨hw, hr⟩ | ⟨hw, hr⟩
  · obtain ⟨v, h', n', h1, h2⟩ := evOp_ok O o.op _ hr
    rw [evE_T] at h2
    exact ⟨_, _, _, (fun y => if y = k + 1 then (h', n') else Hb y), _, h1, e0 _, J.turn S j hc ho hb hs ⟨v, vis v, .inr ⟨(want_congr (nw v)).symm.trans hw, h2.congr (evT_congr hl (nw v))⟩⟩⟩
  · exact ⟨_, _, _, (fun y => if y = k + 1 then (h, n) else Hb y), _, hr, e0 _, J.turn S j hc ho hb hs ⟨_, vis _, .inl ⟨(want_congr (nw _)).symm.trans hw, rfl, rfl⟩⟩⟩
theorem cp_ok {pre r : List Nat} (hts : ts = pre ++ r) (htm : ∀ c, tb tm c = true → c ∈ ts) {D am : Nat} (hD : ∀ c, tb D c = true ↔ c ∈ pre) (ha : ∀ i, tb am i = true ↔ ∃ c ∈ pre, tb (bAt bs c) i = true) (i : Nat) (hc : Compat bs ts i pre.length) : cpB bs tm D am i = true := by
  have h1 : tb am i = false := by
    cases hx : tb am i with
    | false => rfl
    | true =>
      obtain ⟨c, h2, h3⟩ := (ha i).1 hx
      obtain ⟨m, h4⟩ := List.getElem?_of_mem h2
      have h5 : m < pre.length := (List.getElem?_eq_some_iff.1 h4).1
      have := hc.2 m c (by rw [hts, List.getElem?_append_left h5]; exact h4) h5
      rw [this] at h3; cases h3
  unfold cpB
  rw [h1]
  show Nat.beq (Nat.land (Nat.land (bAt bs i) tm) D) (Nat.land (bAt bs i) tm) = true
  rw [beq_eq]
  refine decide_eq_true (Nat.eq_of_testBit_eq fun c => ?_)
  rw [← tb_eq, ← tb_eq, tb_land]
  cases hx : tb (Nat.land (bAt bs i) tm) c with
  | false => rfl
  | true =>
    rw [tb_land, Bool.and_eq_true] at hx
    obtain ⟨m, h4⟩ := List.getElem?_of_mem (htm c hx.2)
    have h5 := hc.1 m c h4 hx.1
    rw [hts, List.getElem?_append_left h5] at h4
    rw [(hD c).2 (List.mem_of_getElem? h4)]; rfl
include O S in
theorem go_ok (htm : ∀ c, tb tm c = true → c ∈ ts) {K : KC} {x : V} : ∀ (r pre : List Nat), ts = pre ++ r → ∀ (D am ev : Nat) (env : Env) (h : H) (n : Id) (Hb He : Nat → H × Id) (sg : Nat → Nat), (∀ c, tb D c = true ↔ c ∈ pre) → (∀ i, tb am i = true ↔ ∃ c ∈ pre, tb (bAt bs c) i = true) →
    J P ops bs tm ts env0 pre.length ev env h n Hb He sg → goD T M cf ops bs tm r D am ev env h n K = some x →
    ∃ envF hF nF HbF HeF sgF evF, K envF hF nF = some x ∧ J P ops bs tm ts env0 ts.length evF envF hF nF HbF HeF sgF ∧ HbF 0 = Hb 0 ∧ (∀ i, i < ops.length → tb evF i = true) ∧
      ∀ (i : Nat) (o : Oper), ops[i]? = some o → tb tm i = false → Compat bs ts i ts.length → tb evF i = true ∧ NT P ops bs env0 envF i o hF nF
  | [], pre, hts, D, am, ev, env, h, n, Hb, He, sg, hD, ha, j, hr => by
    have hr : (passD T M ops bs tm ops 0 ev env h n fun ev env h n => chkD T M ops bs tm env h n D am ev ops 0 (cnd (allI (fun i _ => tb ev i) ops 0) (K env h n) none)) = some x := hr
    simp only [cnd_eq] at hr
    obtain ⟨ev1, env1, h1, n1, sg1, h2, j1⟩ := pass_ok O S ops 0 ev env h n sg (fun p => by simp) j hr
    obtain ⟨h3, h4⟩ := chk_ok O S j1 (cp_ok hts htm hD ha) ops 0 (fun p => by simp) h2
    have hlen : ts.length = pre.length := by rw [hts]; simp
    obtain ⟨h5, h6⟩ : allI (fun i _ => tb ev1 i) ops 0 = true ∧ K env1 h1 n1 = some x := by
      cases hc : allI (fun i _ => tb ev1 i) ops 0 <;> rw [hc] at h3
      · cases h3
      · exact ⟨rfl, h3⟩
    refine ⟨env1, h1, n1, Hb, He, sg1, ev1, h6, by rw [hlen]; exact j1, rfl, fun i hi => allI_ok0 h5 i _ (List.getElem?_eq_getElem hi), fun i o ho ht hc => ?_⟩
    have := h4 i o ho (by rw [Nat.zero_add]; exact ht) (by rw [Nat.zero_add, ← hlen]; exact hc)
    rw [Nat.zero_add] at this; exact this
  | c :: r, pre, hts, D, am, ev, env, h, n, Hb, He, sg, hD, ha, j, hr => by
    have hr : (passD T M ops bs tm ops 0 ev env h n fun ev env h n => chkD T M ops bs tm env h n D am ev ops 0 (match getL c ops with
      | some o => cnd (sub (bAt bs c) ev) (turn1 T M cf ops o env h n fun env h n => fN (put1 D c) fun D => fN (Nat.lor am (bAt bs c)) fun am => fN (put1 ev c) fun ev => goD T M cf ops bs tm r D am ev env h n K) none
      | none => none)) = some x := hr
    simp only [cnd_eq] at hr
    obtain ⟨ev1, env1, h1, n1, sg1, h2, j1⟩ := pass_ok O S ops 0 ev env h n sg (fun p => by simp) j hr
    obtain ⟨h3, h4⟩ := chk_ok O S j1 (cp_ok hts htm hD ha) ops 0 (fun p => by simp) h2
    rw [getL_eq] at h3
    split at h3
    · rename_i o ho
      have hc : ts[pre.length]? = some c := by rw [hts]; simp
      cases hb : sub (bAt bs c) ev1 with
      | false => rw [hb] at h3; cases h3
      | true =>
        rw [hb] at h3
        simp only [cond_true, fN_eq] at h3
        obtain ⟨env2, h5, n2, Hb2, He2, h6, h7, j2⟩ := turn1_ok O S j1 hc ho hb (fun i o ho ht hc => by
          have := h4 i o ho (by rw [Nat.zero_add]; exact ht) (by rw [Nat.zero_add]; exact hc)
          rw [Nat.zero_add] at this; exact this) h3
        have hD' : ∀ x, tb (put1 D c) x = true ↔ x ∈ pre ++ [c] := fun x => by
          rw [tb_put, Bool.or_eq_true, hD x, decide_eq_true_eq, List.mem_append, List.mem_singleton]
          exact ⟨fun h => h.imp id Eq.symm, fun h => h.imp id Eq.symm⟩
        have ha' : ∀ i, tb (Nat.lor am (bAt bs c)) i = true ↔ ∃ y ∈ pre ++ [c], tb (bAt bs y) i = true := fun i => by
          rw [tb_lor, Bool.or_eq_true, ha i]
          constructor
          · rintro (⟨y, h8, h9⟩ | h8)
            · exact ⟨y, by simp [h8], h9⟩
            · exact ⟨c, by simp, h8⟩
          · rintro ⟨y, h8, h9⟩
            rcases List.mem_append.1 h8 with h8 | h8
            · exact .inl ⟨y, h8, h9⟩
            · rw [List.mem_singleton.1 h8] at h9; exact .inr h9
        have j2' : J P ops bs tm ts env0 (pre ++ [c]).length (put1 ev1 c) env2 h5 n2 Hb2 He2 sg1 := by simpa using j2
        obtain ⟨envF, hF, nF, HbF, HeF, sgF, evF, q1, q2, q3, q4⟩ := go_ok htm r (pre ++ [c]) (by rw [hts]; simp) _ _ _ env2 h5 n2 Hb2 He2 sg1 hD' ha' j2' h6
        exact ⟨envF, hF, nF, HbF, HeF, sgF, evF, q1, q2, q3.trans h7, q4⟩
    · cases h3
include O in
theorem goD_ok {p : Op → Bool} {env : Env} {h : H} {n : Id} {K : KC} {r : V} (S : St ops bs (tmOf (tsOf p ops 0)) (tsOf p ops 0) env.length) (hr : goD T M cf ops bs (tmOf (tsOf p ops 0)) (tsOf p ops 0) 0 0 0 env h n K = some r) :
    ∃ envF hF nF Hb He sg, K envF hF nF = some r ∧ FA P ops bs (tmOf (tsOf p ops 0)) (tsOf p ops 0) env envF (h, n) (hF, nF) Hb He sg := by
  have z := tb_zero
  obtain ⟨envF, hF, nF, HbF, HeF, sgF, evF, q1, j, q3, q4, q5⟩ := go_ok (env0 := env) O S (fun c hc => tmOf_tb.1 hc) (tsOf p ops 0) [] rfl 0 0 0 env h n (fun _ => (h, n)) (fun _ => (h, n)) (fun _ => 0) (fun c => by rw [z]; simp) (fun i => by rw [z]; simp)
    ⟨rfl, fun i j hi => (by rw [z] at hi; cases hi), fun t _ => rfl, fun j c _ => (by rw [z]; simp), fun i o _ hi => (by rw [z] at hi; cases hi), fun i hi => (by rw [z] at hi; cases hi), fun i o d id _ hi => (by rw [z] at hi; cases hi),
      fun i o d id i' o' d' _ hi => (by rw [z] at hi; cases hi), fun k' hk => (by simp at hk), fun k' c o hk => (by simp at hk), fun k' hk => (by simp at hk), Up.refl _⟩ hr
  have full : ∀ (i : Nat) (o : Oper), ops[i]? = some o → tb evF i = true := fun i o ho => q4 i (List.getElem?_eq_some_iff.1 ho).1
  have A : FA P ops bs (tmOf (tsOf p ops 0)) (tsOf p ops 0) env envF (h, n) (hF, nF) HbF (fun x => if x = (tsOf p ops 0).length then (hF, nF) else HeF x) sgF := by
    refine ⟨fun k hk i o ho ht hcm => ?_, fun i o d id ho ht hcl hd hv => ?_, fun i o d id i' o' d' a1 a2 a3 a4 a5 b1 b2 b3 b4 b5 hsg => j.ald i o d id i' o' d' a1 (full i o a1) a2 a3 a4 a5 b1 (full i' o' b1) b2 b3 b4 b5 hsg, fun k c o hk ho => ?_, fun k hk => ?_, q3, ?_, j.len, fun t ht => ?_⟩
    · by_cases e : k = (tsOf p ops 0).length
      · simp only [e, if_true] at hcm ⊢
        exact ⟨j.sgle i (full i o ho) ht, (q5 i o ho ht hcm).2⟩
      · simp only [e, if_false]
        exact (j.st k (by omega) i o ho ht hcm).2
    · obtain ⟨a1, a2, a3, a4⟩ := j.al i o d id ho (full i o ho) ht hcl hd hv
      refine ⟨a1, a2, ?_⟩
      by_cases e : sgF i = (tsOf p ops 0).length
      · simp only [e, if_true]; exact a3 e
      · simp only [e, if_false]; exact a4 e
    · have hlt := (List.getElem?_eq_some_iff.1 hk).1
      have e : ¬ k = (tsOf p ops 0).length := by omega
      simp only [e, if_false]
      exact j.tu k c o hlt hk ho
    · by_cases e : k = (tsOf p ops 0).length
      · simp only [e, if_true]; exact j.upk
      · simp only [e, if_false]; exact j.up k (by omega)
    · simp only [if_true]
    · exact j.old t fun y hw => absurd hw (ht y)
  exact ⟨envF, hF, nF, _, _, _, q1, A⟩
include O in
theorem drG_ok {N : Nat} (hm : P.follows .mixedOrders = true) {p : Op → Bool} {env : Env} {h : H} {n : Id} {K : KC} {r : V} (hr : drG T M cf ops bs p env h n K = some r) : ∃ env' h' n', K env' h' n' = some r ∧ ∀ id, WX P N (.region id ops.toArray true) env h n .normal env' h' n' := by
  unfold drG at hr
  simp only [cnd_eq] at hr
  obtain ⟨hc, hr⟩ : chnT bs (tsOf p ops 0) = true ∧ (fN (tmOf (tsOf p ops 0)) fun tm => cond (allI (chk1 ops bs tm (lenL env)) ops 0) (goD T M cf ops bs tm (tsOf p ops 0) 0 0 0 env h n K) none) = some r := by
    cases hx : chnT bs (tsOf p ops 0) <;> rw [hx] at hr
    · cases hr
    · exact ⟨rfl, hr⟩
  rw [fN_eq, lenL_eq] at hr
  obtain ⟨hs, hr⟩ : allI (chk1 ops bs (tmOf (tsOf p ops 0)) env.length) ops 0 = true ∧ goD T M cf ops bs (tmOf (tsOf p ops 0)) (tsOf p ops 0) 0 0 0 env h n K = some r := by
    cases hx : allI (chk1 ops bs (tmOf (tsOf p ops 0)) env.length) ops 0 <;> rw [hx] at hr
    · cases hr
    · exact ⟨rfl, hr⟩
  obtain ⟨S, S2, hch, hnl⟩ := st_ok hs hc
  obtain ⟨envF, hF, nF, Hb, He, sg, q1, A⟩ := goD_ok O S hr
  refine ⟨envF, hF, nF, q1, fun id => ?_⟩
  intro F ι0 a w hx
  exact draw_run S S2 hch A (N := N) hx.2.2.1 hm hnl F ι0 a w hx
include O in
theorem drE_ok {N : Nat} (hm : P.follows .mixedOrders = true) : DrOk P N (drE T M cf) := by
  intro id ops env h n k r hr
  unfold drE at hr
  simp only [cnd_eq] at hr
  obtain ⟨bs, e⟩ := bsK_ok (ops := ops) (i := 0) (acc := []) (k := fun bs => cond (chnT bs (tsOf (fun op => cond (isTurn T op) true (isMk op)) ops 0)) (drG T M cf ops bs (fun op => cond (isTurn T op) true (isMk op)) env h n k) (drG T M cf ops bs (isTurn T) env h n k))
  rw [e] at hr
  cases hc : chnT bs (tsOf (fun op => cond (isTurn T op) true (isMk op)) ops 0) with
  | true =>
    rw [hc] at hr
    obtain ⟨env', h', n', h1, h2⟩ := drG_ok (N := N) O hm hr
    exact ⟨env', h', n', h1, h2 id⟩
  | false =>
    rw [hc] at hr
    obtain ⟨env', h', n', h1, h2⟩ := drG_ok (N := N) O hm hr
    exact ⟨env', h', n', h1, h2 id⟩
end
noncomputable def wV (x : V) (want : Bool) : Option Bool := match x with | .b c => some (cond c want (notB want)) | .tp [] => some false | _ => none
noncomputable abbrev pc {α : Type} (x : V × α) (f : V → α → R) : R := Prod.casesOn x f
noncomputable def lpC (l : List Nat) (F : (VT l → H → Id → R) → VT l → H → Id → R) (fu : Nat) : VT l → H → Id → R := Nat.rec (motive := fun _ => VT l → H → Id → R) (fun _ _ _ => none) (fun _ lo => F lo) fu
end Go.Proofs.Nw.X
end
section
/- X21: regions in which a map is written out: while it is not whole it is out of sight. -/
open Go Go.RowKit
namespace Go.Proofs.Nw.X
open Go.Proofs.Nw.K
def Fx.prot (F : Fx) (b : Nat) (w0 : World) (hlt : (∀ x, F.pr x ∨ x = b → x < w0.heap.size) ∧ Gi w0) : Fx where
  w := w0
  pr := fun x => F.pr x ∨ x = b
  lt := hlt.1
  gp := .inl F.gp
  gi := hlt.2
  rs := F.rs
  lo := F.lo
  rl := F.rl
section
variable {F : Fx} {ι : Io} {h : H} {n : Id} {w w0 : World} {b : Nat}
theorem FB.out {hlt} (h0 : FB F w0) (hb : FB (F.prot b w0 hlt) w) : FB F w :=
  ⟨hb.os.trans h0.os, hb.tape.trans h0.tape, hb.output.trans h0.output, Nat.le_trans h0.size hb.size, fun x hx => (hb.block x (.inl hx)).trans (h0.block x hx)⟩
theorem HR.out {hlt} (hb : HR (F.prot b w0 hlt) ι h n w) (h0 : FB F w0) : HR F ι h n w :=
  ⟨h0.out hb.below, hb.len, fun o pl e => let ⟨a1, a2, a3, a4⟩ := hb.dom o pl e; ⟨a1, a2, fun hx => a3 (.inl hx), a4⟩, hb.inj, hb.obj, hb.rsv, hb.lo⟩
theorem HR.hide (hb : HR F ι h n w) (hlt) (hne : ∀ o pl, ι o = some pl → pl.b ≠ b) : HR (F.prot b w hlt) ι h n w :=
  ⟨⟨rfl, rfl, rfl, Nat.le_refl _, fun _ _ => rfl⟩, hb.len, fun o pl e => let ⟨a1, a2, a3, a4⟩ := hb.dom o pl e; ⟨a1, a2, fun hx => hx.elim a3 (hne o pl e), a4⟩, hb.inj, hb.obj, hb.rsv, hb.lo⟩
theorem HR.seen {hlt} (hb : HR (F.prot b w0 hlt) ι h n w) : ∀ o pl, ι o = some pl → pl.b ≠ b := fun o pl e hx => (hb.dom o pl e).2.2.1 (.inr hx)
theorem HR.behind {hlt} (hb : HR (F.prot b w0 hlt) ι h n w) (x : Obj) (hlt') : HR (F.prot b { w with heap := w.heap.setIfInBounds b x } hlt') ι h n { w with heap := w.heap.setIfInBounds b x } :=
  ⟨⟨rfl, rfl, rfl, Nat.le_refl _, fun _ _ => rfl⟩, hb.len, fun o pl e => let ⟨a1, a2, a3, a4⟩ := hb.dom o pl e; ⟨a1, a2, a3, by simpa using a4⟩, hb.inj,
   fun o pl y e hy => (hb.obj o pl y e hy).keep (Ext.refl _) (by
     have hne : b ≠ pl.b := fun hh => hb.seen o pl e hh.symm
     simp [Array.getElem?_setIfInBounds_ne hne]), hb.rsv, hb.lo⟩
theorem FB.behind {hlt} (h0 : FB F w0) (hb : FB (F.prot b w0 hlt) w) (hp : ¬ F.pr b) (x : Obj) : FB F { w with heap := w.heap.setIfInBounds b x } := by
  have := h0.out hb
  refine ⟨this.os, this.tape, this.output, by simpa using this.size, fun y hy => ?_⟩
  have hne : b ≠ y := fun e => hp (by rw [e]; exact hy)
  rw [← this.block y hy]
  simp [Array.getElem?_setIfInBounds_ne hne]
theorem HR.show {id : Id} (hb : HR F ι h n w) (hl : id.length = 8) (hr : rk id < rk n) (hi : ι id = none) (hrs : F.lo ≤ rk id) {x : O} (hx : hget id h = some x) (pl : Pl) (hp : ¬ F.pr pl.b) (hlt : pl.b < w.heap.size) (hfree : ∀ o pl', ι o = some pl' → pl'.b ≠ pl.b)
    (hok : OOk (upI ι id pl) w pl x) : HR F (upI ι id pl) h n w ∧ Ext ι (upI ι id pl) := by
  have he : Ext ι (upI ι id pl) := fun o pl' e => by rw [upI_ne]; exact e; intro e'; rw [e', hi] at e; cases e
  refine ⟨⟨hb.below, hb.len, fun o pl' e => ?_, fun o o' p1 p2 l1 l2 e1 e2 hbb => ?_, fun o pl' y e hy => ?_, fun o pl' e hrs' => ?_, hb.lo⟩, he⟩
  · by_cases eo : o = id
    · subst eo
      rw [upI_same] at e; cases e
      exact ⟨hl, hr, hp, hlt⟩
    · rw [upI_ne _ _ eo] at e
      exact hb.dom o pl' e
  · by_cases n1 : o = id
    · by_cases n2 : o' = id
      · rw [n1, n2]
      · subst n1
        rw [upI_same] at e1; cases e1
        rw [upI_ne _ _ n2] at e2
        exact absurd hbb.symm (hfree o' p2 e2)
    · rw [upI_ne _ _ n1] at e1
      by_cases n2 : o' = id
      · subst n2
        rw [upI_same] at e2; cases e2
        exact absurd hbb (hfree o p1 e1)
      · rw [upI_ne _ _ n2] at e2
        exact hb.inj o o' p1 p2 l1 l2 e1 e2 hbb
  · by_cases eo : o = id
    · subst eo
      rw [upI_same] at e; cases e
      have hy' : hget o h = some y := hy
      have : y = x := by rw [hx] at hy'; exact (Option.some.inj hy').symm
      rw [this]; exact hok
    · rw [upI_ne _ _ eo] at e
      exact (hb.obj o pl' y e hy).keep he rfl
  · by_cases eo : o = id
    · subst eo; have := F.rl _ hrs'; omega
    · rw [upI_ne _ _ eo] at e; exact hb.rsv o pl' e hrs'
end
theorem Dist.keys : ∀ {es es' : List (V × V)}, es.map (·.1) = es'.map (·.1) → Dist es → Dist es'
  | [], [], _, _ => trivial
  | [], _ :: _, h, _ => by simp at h
  | _ :: _, [], h, _ => by simp at h
  | p :: es, p' :: es', h, hd => by
    simp only [List.map_cons, List.cons.injEq] at h
    obtain ⟨h1, h2⟩ := h
    refine ⟨by rw [← h1]; exact hd.1, fun q hq e => ?_, hd.2.2.keys h2⟩
    have : q.1 ∈ es'.map (·.1) := List.mem_map.2 ⟨q, hq, rfl⟩
    rw [← h2] at this
    obtain ⟨q', h3, h4⟩ := List.mem_map.1 this
    exact hd.2.1 q' h3 (by rw [h4, e, h1])
theorem litArgs_opL {op : Op} {l : List Operand} (h : litArgs op = some l) : opL op = some l := by
  unfold litArgs at h
  split at h
  · rw [← h]; rfl
  · cases h
abbrev Ins := List (Nat × Operand × Operand)
def IsIns (ins : Ins) (i : Nat) : Prop := ∃ (q : Nat) (k v : Operand), ins[q]? = some (i, k, v)
structure LitOk (ops vops : List Oper) (rbs vbs : List Nat) (tm m0 dm : Nat) (mt : TypeId) (ins : Ins) : Prop where
  m0o : ∃ o, ops[m0]? = some o ∧ o.op = .makeMap mt none ∧ o.guard = none ∧ o.dst = some dm
  v0 : ∃ o, vops[m0]? = some o ∧ litArgs o.op = some (flat2 (ins.map (·.2))) ∧ clOf o.op = .a ∧ o.guard = none ∧ o.dst = some dm
  inso : ∀ (q i : Nat) (k v : Operand), ins[q]? = some (i, k, v) → i ≠ m0 ∧ tb (bAt rbs i) m0 = true ∧ (∃ c, k = .const c) ∧ (∀ t j, v = .tmp t → W ops j t → tb (bAt rbs i) j = true ∧ j ≠ m0) ∧
    ∃ o, ops[i]? = some o ∧ o.op = .insert mt (.tmp dm) k v ∧ o.guard = none ∧ o.dst = none
  insv : ∀ i, IsIns ins i → tb tm i = false ∧ ∃ o, vops[i]? = some o ∧ clOf o.op = .p ∧ o.dst = none
  rest : ∀ i, i ≠ m0 → ¬ IsIns ins i → vops[i]? = ops[i]?
  insn : ∀ (q q' i : Nat) (k v k' v' : Operand), ins[q]? = some (i, k, v) → ins[q']? = some (i, k', v') → q = q'
  ne : ∃ x, ins[0]? = some x
  len : vops.length = ops.length
  dst : ∀ i : Nat, (vops[i]?).bind (·.dst) = (ops[i]?).bind (·.dst)
  nl : ∀ (i : Nat) (o : Oper), ops[i]? = some o → litArgs o.op = none
  vb : ∀ i j, i ≠ m0 → tb (bAt vbs i) j = true → tb (bAt rbs i) j = true ∧ (j = m0 → ∀ i', IsIns ins i' → tb (bAt rbs i) i' = true)
  vb0 : ∀ j, tb (bAt vbs m0) j = true → j ≠ m0 ∧ (tb (bAt rbs m0) j = true ∨ ∃ i, IsIns ins i ∧ tb (bAt rbs i) j = true)
  m0t : tb tm m0 = false
  dist : Dist (ins.map fun x => (evT (fun _ => .j) x.2.1, V.j))
def AllIn (ins : Ins) (m0 : Nat) (listed : Array Bool) : Prop := listed.getD m0 false = true ∧ ∀ i, IsIns ins i → listed.getD i false = true
open Classical in
noncomputable def vp (ins : Ins) (m0 : Nat) (listed : Array Bool) : Nat → Bool := fun j => if j = m0 then decide (AllIn ins m0 listed) else listed.getD j false
section
variable {P : Program} {ops vops : List Oper} {rbs vbs : List Nat} {tm : Nat} {ts : List Nat} {m0 dm : Nat} {mt : TypeId} {ins : Ins} {env0 envF : Env} {a0 aF : H × Id} {Hb He : Nat → H × Id} {sg : Nat → Nat}
variable (L : LitOk ops vops rbs vbs tm m0 dm mt ins) (S : St vops vbs tm ts env0.length) (S2 : St2 ops rbs) (hch : Chn vbs ts) (A : FA P vops vbs tm ts env0 envF a0 aF Hb He sg)
variable {N : Nat} (hN : env0.length ≤ N) {F : Fx} {ι0 : Io} {M : MTab} (hM : MTabOk P M) {kt et : TypeId} {g : Bool} (hmt : M mt = some (kt, et, 0, g)) (hdm : rd env0 dm = .j)
include L in
theorem lit_W {j t : Nat} : W vops j t ↔ W ops j t := by
  have := L.dst j
  have key : ∀ (l : List Oper), W l j t ↔ (l[j]?).bind (·.dst) = some t := fun l => by
    unfold W
    cases l[j]? with
    | none => simp
    | some o => simp
  rw [key, key, this]
include L in
theorem lit_wp {i : Nat} (hi : vops[i]? = ops[i]?) {Q' : Exit → Act → World → Prop} {K : Act → World → Prop} {a : Act} {w : World} (h : wpOp P vops.toArray Q' i K a w) : wpOp P ops.toArray Q' i K a w := by
  unfold wpOp at h ⊢
  have e1 : vops.toArray[i]? = ops.toArray[i]? := by simpa using hi
  have e2 : yielded vops.toArray a.tmps = yielded ops.toArray a.tmps := by
    funext j
    have := L.dst j
    unfold yielded
    simp only [List.getElem?_toArray]
    rw [this]
  rw [e1, e2] at h
  exact h
theorem only_dm (hS : St vops vbs tm ts env0.length) (hL : LitOk ops vops rbs vbs tm m0 dm mt ins) {j : Nat} (h : W vops j dm) : j = m0 := by
  obtain ⟨o, h1, _, _, _, h2⟩ := hL.v0
  exact hS.dne j m0 dm h ⟨o, h1, h2⟩
theorem Inv.idf {k : Nat} {ι : Io} {p : Nat → Bool} {a : Act} {w : World} (A : FA P vops vbs tm ts env0 envF a0 aF Hb He sg) (I : Inv vops vbs tm ts env0 envF Hb He sg N F ι0 k ι p a w) {i : Nat} {o : Oper} {d : Nat} {id : Id} (h1 : vops[i]? = some o) (h2 : tb tm i = false) (h3 : clOf o.op = .a)
    (h4 : o.dst = some d) (h5 : vId (rd envF d) = some id) (hs : sg i ≤ k) : id.length = 8 ∧ F.lo ≤ rk id ∧ rk id < rk (He k).2 := by
  obtain ⟨a1, a2, a3⟩ := A.al i o d id h1 h2 h3 h4 h5
  obtain ⟨m1, m2⟩ := I.mon1 (sg i) hs
  refine ⟨a1.trans m2, by omega, ?_⟩
  by_cases e : sg i = k
  · rw [e] at a3; exact a3
  · have h6 := I.mon2 (sg i) k (by omega) (Nat.le_refl _)
    have h7 := (A.up k I.kM).2.1
    omega
theorem Inv.noop {k : Nat} {ι : Io} {p : Nat → Bool} {a : Act} {w : World} (hS : St vops vbs tm ts env0.length) (I : Inv vops vbs tm ts env0 envF Hb He sg N F ι0 k ι p a w) {i : Nat} {o : Oper} (ho : vops[i]? = some o) (hd : o.dst = none) (hc : clOf o.op = .p) (ht : tb tm i = false) (hbm : ∀ j, tb (bAt vbs i) j = true → p j = true) :
    Inv vops vbs tm ts env0 envF Hb He sg N F ι0 k ι (upd p i) a w := by
  have gj : ∀ j, j ≠ i → upd p i j = p j := fun j hj => upd_ne p hj
  refine ⟨I.kM, fun j x hj hx => ?_, fun j c hc' => ?_, I.t1, I.t2, I.ex, I.hb, fun t => ?_, fun j oj d id e1 e2 e3 e4 e5 e6 e7 => ?_, I.mon1, I.mon2⟩
  · by_cases hxi : x = i
    · rw [hxi]; exact upd_same p i
    · rw [gj x hxi]
      by_cases hji : j = i
      · rw [hji] at hx; exact hbm x hx
      · rw [gj j hji] at hj; exact I.cp j x hj hx
  · have hci : c ≠ i := fun e => by have := ((hS.tin c).1 (List.mem_of_getElem? hc')).1; rw [e, ht] at this; cases this
    rw [gj c hci]; exact I.tv j c hc'
  · have e : sv vops (upd p i) envF env0 t = sv vops p envF env0 t := by
      unfold sv
      have hne : ∀ j, W vops j t → j ≠ i := fun j ⟨oj, h2, h3⟩ e => by rw [e, ho] at h2; cases h2; rw [hd] at h3; cases h3
      have : (∃ j, W vops j t ∧ upd p i j = true) ↔ ∃ j, W vops j t ∧ p j = true :=
        ⟨fun ⟨j, h2, h3⟩ => ⟨j, h2, by rw [gj j (hne j h2)] at h3; exact h3⟩, fun ⟨j, h2, h3⟩ => ⟨j, h2, by rw [gj j (hne j h2)]; exact h3⟩⟩
      by_cases hc2 : ∃ j, W vops j t ∧ p j = true
      · rw [if_pos hc2, if_pos (this.2 hc2)]
      · rw [if_neg hc2, if_neg fun hh => hc2 (this.1 hh)]
    rw [e]; exact I.rv t
  · by_cases hji : j = i
    · rw [hji, ho] at e1; cases e1; rw [hc] at e3; cases e3
    · rw [gj j hji] at e6; exact I.pd j oj d id e1 e2 e3 e4 e5 e6 e7
def Content (ins : Ins) (σ : Operand → V) (ι : Io) (w0 : World) (b : Nat) (listed : Array Bool) : Prop :=
  ∃ (js : List Nat) (entries : Array MapEntry), w0.heap[b]? = some (.map entries entries.size) ∧ entries.size = js.length ∧ (∀ q, q ∈ js ↔ ∃ i k v, ins[q]? = some (i, k, v) ∧ listed.getD i false = true) ∧
    ∀ (x q : Nat), js[x]? = some q → ∃ i k v me, ins[q]? = some (i, k, v) ∧ entries[x]? = some me ∧ RV ι (σ k) me.key ∧ RV ι (σ v) me.val
theorem Content.mono {σ : Operand → V} {ι ι' : Io} {w0 w1 : World} {b : Nat} {listed listed' : Array Bool} (h : Content ins σ ι w0 b listed) (he : Ext ι ι') (hw : w1.heap[b]? = w0.heap[b]?) (hl : ∀ i, IsIns ins i → listed'.getD i false = listed.getD i false) : Content ins σ ι' w1 b listed' := by
  obtain ⟨js, entries, h1, h2, h3, h4⟩ := h
  refine ⟨js, entries, hw.trans h1, h2, fun q => ?_, fun x q hx => let ⟨i, k, v, me, a, b, c, d⟩ := h4 x q hx; ⟨i, k, v, me, a, b, c.mono he, d.mono he⟩⟩
  rw [h3]
  constructor
  · rintro ⟨i, k, v, a, b⟩; exact ⟨i, k, v, a, by rw [hl i ⟨q, k, v, a⟩]; exact b⟩
  · rintro ⟨i, k, v, a, b⟩; exact ⟨i, k, v, a, by rw [← hl i ⟨q, k, v, a⟩]; exact b⟩
def Mid (vops : List Oper) (vbs : List Nat) (tm : Nat) (ts : List Nat) (ins : Ins) (m0 dm : Nat) (env0 envF : Env) (Hb He : Nat → H × Id) (sg : Nat → Nat) (N : Nat) (F : Fx) (ι0 : Io) (listed : Array Bool) (a : Act) (w : World) : Prop :=
  ∃ k ι b w0 hlt, Inv vops vbs tm ts env0 envF Hb He sg N (F.prot b w0 hlt) ι0 k ι (vp ins m0 listed) a w ∧ FB F w0 ∧ F.w.heap.size ≤ b ∧ a.tmps.getD dm undef = .map (some b) ∧ Content ins (evT (sgm vops vbs env0 envF m0)) ι w0 b listed
def LZ (ops vops : List Oper) (vbs : List Nat) (tm : Nat) (ts : List Nat) (ins : Ins) (m0 dm : Nat) (env0 envF : Env) (Hb He : Nat → H × Id) (sg : Nat → Nat) (N : Nat) (F : Fx) (ι0 : Io) (listed : Array Bool) (a : Act) (w : World) : Prop :=
  listed.size = ops.length ∧ K.Closed .any ops listed ∧
    (((listed.getD m0 false = false ∨ AllIn ins m0 listed) ∧ ∃ k ι, Inv vops vbs tm ts env0 envF Hb He sg N F ι0 k ι (vp ins m0 listed) a w) ∨
     (listed.getD m0 false = true ∧ ¬ AllIn ins m0 listed ∧ Mid vops vbs tm ts ins m0 dm env0 envF Hb He sg N F ι0 listed a w))
theorem vp_ne {listed : Array Bool} {j : Nat} (h : j ≠ m0) : vp ins m0 listed j = listed.getD j false := by simp [vp, h]
theorem vp_m0 {listed : Array Bool} : vp ins m0 listed m0 = true ↔ AllIn ins m0 listed := by simp [vp]
theorem vp_m0f {listed : Array Bool} (h : ¬ AllIn ins m0 listed) : vp ins m0 listed m0 = false := by simp [vp, h]
theorem set_get {listed : Array Bool} {i : Nat} (hi : i < listed.size) : (listed.setIfInBounds i true).getD i false = true := by simp [Array.getD_eq_getD_getElem?, hi]
theorem set_get_ne {listed : Array Bool} {i j : Nat} (h : j ≠ i) : (listed.setIfInBounds i true).getD j false = listed.getD j false := by simp [Array.getD_eq_getD_getElem?, Array.getElem?_setIfInBounds_ne (Ne.symm h)]
include L S2 in
theorem lit_ahead {listed : Array Bool} (hcl : K.Closed .any ops listed) {i : Nat} {o : Oper} (ho : ops[i]? = some o) (hall : ∀ e ∈ o.after, Region.binds .any e = true → listed.getD e.on false = true) (hi : i ≠ m0) : ∀ j, tb (bAt vbs i) j = true → vp ins m0 listed j = true := by
  intro j hj
  have hs := S2.sound listed hcl i o ho hall
  obtain ⟨h1, h2⟩ := L.vb i j hi hj
  by_cases e : j = m0
  · subst e
    exact vp_m0.2 ⟨hs _ h1, fun i' hi' => hs i' (h2 rfl i' hi')⟩
  · rw [vp_ne e]; exact hs j h1
include L S S2 hch A hN in
theorem lit_other {listed : Array Bool} {a : Act} {w : World} (Z : LZ ops vops vbs tm ts ins m0 dm env0 envF Hb He sg N F ι0 listed a w) {i : Nat} (hi : i ∈ Region.ready .any ops.toArray listed) (h0 : i ≠ m0) (hni : ¬ IsIns ins i) (Q' : Exit → Act → World → Prop) :
    wpOp P ops.toArray Q' i (LZ ops vops vbs tm ts ins m0 dm env0 envF Hb He sg N F ι0 (listed.setIfInBounds i true)) a w := by
  obtain ⟨hsz, hcl, Z⟩ := Z
  obtain ⟨hi0, o, hoa, hall⟩ := mem_ready.1 hi
  have ho : ops[i]? = some o := by simpa using hoa
  have hil : i < listed.size := by rw [hsz]; exact (List.getElem?_eq_some_iff.1 ho).1
  have hv : vops[i]? = some o := (L.rest i h0 hni).trans ho
  have pi : vp ins m0 listed i = false := by rw [vp_ne h0]; exact K.list_getD_unlisted hi0
  have hb := lit_ahead L S2 hcl ho hall h0
  have all : AllIn ins m0 (listed.setIfInBounds i true) ↔ AllIn ins m0 listed := by
    have e0 : (listed.setIfInBounds i true).getD m0 false = listed.getD m0 false := set_get_ne (Ne.symm h0)
    have e1 : ∀ i', IsIns ins i' → (listed.setIfInBounds i true).getD i' false = listed.getD i' false := fun i' h => set_get_ne fun e => hni (e ▸ h)
    exact ⟨fun ⟨x, y⟩ => ⟨by rw [← e0]; exact x, fun i' h => by rw [← e1 i' h]; exact y i' h⟩, fun ⟨x, y⟩ => ⟨by rw [e0]; exact x, fun i' h => by rw [e1 i' h]; exact y i' h⟩⟩
  have ev : vp ins m0 (listed.setIfInBounds i true) = upd (vp ins m0 listed) i := by
    funext j
    by_cases hj : j = m0
    · subst hj
      rw [upd_ne _ (Ne.symm h0)]
      by_cases hc : AllIn ins j listed
      · rw [vp_m0.2 hc, vp_m0.2 (all.2 hc)]
      · rw [vp_m0f hc, vp_m0f fun h => hc (all.1 h)]
    · by_cases hji : j = i
      · subst hji
        rw [upd_same, vp_ne hj]; exact set_get hil
      · rw [upd_ne _ hji, vp_ne hj, vp_ne hj]; exact set_get_ne hji
  refine lit_wp L (hv.trans ho.symm) ?_
  rcases Z with ⟨hc, k, ι, I⟩ | ⟨hm, hna, k, ι, b, w0, hlt, I, hfb, hge, htm, hcon⟩
  · refine wpOp_mono (fun a' w' ⟨k', ι', _, _, I'⟩ => ⟨by simpa using hsz, K.closed_set hcl hi, .inl ⟨?_, k', ι', by rw [ev]; exact I'⟩⟩) (inv_step S hch A hN I hv pi hb (L.nl i o ho) Q')
    exact hc.imp (fun h => by rw [set_get_ne (Ne.symm h0)]; exact h) all.2
  · refine wpOp_mono (fun a' w' ⟨k', ι', he, hput, I'⟩ => ⟨by simpa using hsz, K.closed_set hcl hi, .inr ⟨by rw [set_get_ne (Ne.symm h0)]; exact hm, fun h => hna (all.1 h), k', ι', b, w0, hlt, by rw [ev]; exact I', hfb, hge, ?_, ?_⟩⟩) (inv_step S hch A hN I hv pi hb (L.nl i o ho) Q')
    · rw [hput dm fun e => h0 (only_dm S L ⟨o, hv, e⟩)]; exact htm
    · exact hcon.mono he rfl fun i' hi' => set_get_ne fun e => hni (e ▸ hi')
include L S S2 hdm hN in
theorem lit_made {listed : Array Bool} {a : Act} {w : World} (Z : LZ ops vops vbs tm ts ins m0 dm env0 envF Hb He sg N F ι0 listed a w) (hi : m0 ∈ Region.ready .any ops.toArray listed) (Q' : Exit → Act → World → Prop) :
    wpOp P ops.toArray Q' m0 (LZ ops vops vbs tm ts ins m0 dm env0 envF Hb He sg N F ι0 (listed.setIfInBounds m0 true)) a w := by
  obtain ⟨hsz, hcl, Z⟩ := Z
  obtain ⟨hi0, o, hoa, hall⟩ := mem_ready.1 hi
  have ho : ops[m0]? = some o := by simpa using hoa
  obtain ⟨o', ho', hop, hgd, hds⟩ := L.m0o
  rw [ho] at ho'; cases ho'
  have hil : m0 < listed.size := by rw [hsz]; exact (List.getElem?_eq_some_iff.1 ho).1
  have hun := K.list_getD_unlisted hi0
  have none' : ∀ i, IsIns ins i → listed.getD i false = false := fun i hin => by
    cases hx : listed.getD i false with
    | false => rfl
    | true =>
      obtain ⟨q, k, v, h1⟩ := hin
      obtain ⟨_, h2, _, _, oi, h3, _⟩ := L.inso q i k v h1
      have := S2.sound listed hcl i oi h3 (hcl i oi h3 hx) m0 h2
      rw [hun] at this; cases this
  have hne : ∀ listed' : Array Bool, (∀ i, IsIns ins i → listed'.getD i false = false) → ¬ AllIn ins m0 listed' := fun listed' h hx => by
    obtain ⟨⟨i, k, v⟩, h1⟩ := L.ne
    have := hx.2 i ⟨0, k, v, h1⟩
    rw [h i ⟨0, k, v, h1⟩] at this; cases this
  have inm : ∀ i, IsIns ins i → i ≠ m0 := fun i ⟨q, k, v, h1⟩ => (L.inso q i k v h1).1
  rcases Z with ⟨hc, k, ι, I⟩ | ⟨hm, _⟩
  · unfold wpOp
    simp only [hoa]
    have hw : Region.wanted o (yielded ops.toArray a.tmps) = true := by simp [Region.wanted, hgd]
    rw [if_pos hw]
    refine .inl ?_
    unfold Oper.wp
    have hrun : (execOp a.eval o).run P w = .ok (.value (.map (some w.heap.size))) (w.alloc (.map #[] 0)) := by
      simp [execOp, hop, run_makeMap, Result.andThen]
    rw [hrun]
    show LZ ops vops vbs tm ts ins m0 dm env0 envF Hb He sg N F ι0 (listed.setIfInBounds m0 true) (a.put o.dst (.map (some w.heap.size))) (w.alloc (.map #[] 0))
    have hb' : HR F ι (He k).1 (He k).2 (w.alloc (.map #[] 0)) := I.hb.grown (World.grownBy_alloc w _ none) (Nat.le_refl _)
    have hneb : ∀ o pl, ι o = some pl → pl.b ≠ w.heap.size := fun o pl e he => by have := (I.hb.dom o pl e).2.2.2; omega
    have hlt : (∀ x, F.pr x ∨ x = w.heap.size → x < (w.alloc (.map #[] 0)).heap.size) ∧ Gi (w.alloc (.map #[] 0)) := ⟨fun x hx => by
      have h1 : (w.alloc (.map #[] 0)).heap.size = w.heap.size + 1 := by simp
      rcases hx with hx | hx
      · have := F.lt x hx; have := I.hb.below.size; omega
      · omega, hb'.below.gi⟩
    have ev : vp ins m0 (listed.setIfInBounds m0 true) = vp ins m0 listed := by
      funext j
      by_cases hj : j = m0
      · subst hj
        rw [vp_m0f (hne _ none'), vp_m0f (hne _ fun i hin => by rw [set_get_ne (inm i hin)]; exact none' i hin)]
      · rw [vp_ne hj, vp_ne hj]; exact set_get_ne hj
    have hdl : dm < N := Nat.lt_of_lt_of_le (by obtain ⟨ov, g1, _, _, _, g2⟩ := L.v0; exact S.dlt m0 ov dm g1 g2) hN
    refine ⟨by simpa using hsz, K.closed_set hcl hi, .inr ⟨set_get hil, hne _ fun i hin => by rw [set_get_ne (inm i hin)]; exact none' i hin, k, ι, w.heap.size, w.alloc (.map #[] 0), hlt, ?_, hb'.below, I.hb.below.size, ?_, ?_⟩⟩
    · rw [ev]
      refine ⟨I.kM, I.cp, I.tv, (put_stat a o.dst _).1.trans I.t1, (put_stat a o.dst _).2.trans I.t2, I.ex, hb'.hide hlt hneb, fun t => ?_, I.pd, I.mon1, I.mon2⟩
      by_cases ht : t = dm
      · subst ht
        have : sv vops (vp ins m0 listed) envF env0 t = .j := by
          unfold sv
          rw [if_neg, hdm]
          rintro ⟨j, h1, h2⟩
          rw [only_dm S L h1, vp_m0f (hne _ none')] at h2; cases h2
        rw [this]; trivial
      · rw [put_other (by rw [hds]; intro e; exact ht (Option.some.inj e).symm)]; exact I.rv t
    · rw [hds, K.put_getD a dm dm _ (by rw [I.t1]; exact hdl), if_pos rfl]
    · exact ⟨[], #[], by simpa using (MapKept.heap_alloc w (.map #[] 0)).1, rfl, fun q => ⟨fun h => (by cases h), fun ⟨i, k, v, h1, h2⟩ => by
        rw [set_get_ne (inm i ⟨q, k, v, h1⟩), none' i ⟨q, k, v, h1⟩] at h2; cases h2⟩, fun x q h => by simp at h⟩
  · rw [hun] at hm; cases hm
include L S S2 A hM hmt in
theorem lit_entry {listed : Array Bool} {a : Act} {w : World} (Z : LZ ops vops vbs tm ts ins m0 dm env0 envF Hb He sg N F ι0 listed a w) {i : Nat} (hi : i ∈ Region.ready .any ops.toArray listed) (hin : IsIns ins i) (Q' : Exit → Act → World → Prop) :
    wpOp P ops.toArray Q' i (LZ ops vops vbs tm ts ins m0 dm env0 envF Hb He sg N F ι0 (listed.setIfInBounds i true)) a w := by
  obtain ⟨hsz, hcl, Z⟩ := Z
  obtain ⟨hi0, o, hoa, hall⟩ := mem_ready.1 hi
  have ho : ops[i]? = some o := by simpa using hoa
  have hil : i < listed.size := by rw [hsz]; exact (List.getElem?_eq_some_iff.1 ho).1
  have hun := K.list_getD_unlisted hi0
  obtain ⟨q, kk, vv, hq⟩ := hin
  obtain ⟨h0, hbm0, ⟨kc, hkc⟩, hval, o', ho', hop, hgd, hds⟩ := L.inso q i kk vv hq
  rw [ho] at ho'; cases ho'
  have hs := S2.sound listed hcl i o ho hall
  have hm0 := hs m0 hbm0
  have hna : ¬ AllIn ins m0 listed := fun hx => by have := hx.2 i ⟨q, kk, vv, hq⟩; rw [hun] at this; cases this
  rcases Z with ⟨hc, _⟩ | ⟨_, _, k, ι, b, w0, hlt, I, hfb, hge, htm, js, entries, c1, c2, c3, c4⟩
  · rcases hc with hc | hc
    · rw [hm0] at hc; cases hc
    · exact absurd hc hna
  have σk : ∀ ι' : Io, RV ι' (evT (sgm vops vbs env0 envF m0) kk) (a.eval kk) := fun ι' => by subst hkc; exact constV_ok ι' kc
  have σv : RV ι (evT (sgm vops vbs env0 envF m0) vv) (a.eval vv) := by
    cases vv with
    | tmp t =>
      have e : sgm vops vbs env0 envF m0 t = sv vops (vp ins m0 listed) envF env0 t := by
        unfold sgm sv
        obtain ⟨ov, v1, v2, v3, _, _⟩ := L.v0
        by_cases hw : ∃ j, W vops j t
        · obtain ⟨j, hj⟩ := hw
          obtain ⟨r1, r2⟩ := hval t j rfl ((lit_W L).1 hj)
          have g1 : tb (bAt vbs m0) j = true := by
            obtain ⟨l, hl⟩ := S.opl m0 ov v1
            have hsl : SlotOf vops ov t := by
              refine .inl ⟨flat2 (ins.map (·.2)), ?_, flat2_mem.2 ⟨(kk, .tmp t), List.mem_map.2 ⟨_, List.mem_of_getElem? hq, rfl⟩, .inr rfl⟩⟩
              exact litArgs_opL v2
            rcases S.slots m0 ov t v1 hsl j hj with g | ⟨g | g, _⟩
            · exact g
            · rw [L.m0t] at g; cases g
            · rw [v3] at g; cases g
          rw [if_pos ⟨j, hj, g1⟩, if_pos ⟨j, hj, by rw [vp_ne r2]; exact hs j r1⟩]
        · rw [if_neg (fun ⟨j, h1, _⟩ => hw ⟨j, h1⟩), if_neg (fun ⟨j, h1, _⟩ => hw ⟨j, h1⟩)]
      show RV ι (sgm vops vbs env0 envF m0 t) _
      rw [e]; exact I.rv t
    | const c => exact constV_ok ι c
    | global g => trivial
    | func f => exact ⟨[], rfl, rfl⟩
  have hkeys : ∀ (q i : Nat) (k v : Operand), ins[q]? = some (i, k, v) → evT (sgm vops vbs env0 envF m0) k = evT (fun _ => .j) k := fun q i k v h => by
    obtain ⟨_, _, ⟨c, e⟩, _⟩ := L.inso q i k v h
    subst e; rfl
  have hdist : Dist (ins.map fun x => (evT (sgm vops vbs env0 envF m0) x.2.1, evT (sgm vops vbs env0 envF m0) x.2.2)) := by
    refine L.dist.keys ?_
    rw [List.map_map, List.map_map]
    refine List.map_congr_left fun x hx => ?_
    obtain ⟨q', hq'⟩ := List.getElem?_of_mem hx
    exact (hkeys q' x.1 x.2.1 x.2.2 hq').symm
  obtain ⟨es, hes⟩ : ∃ es, es = ins.map fun x => (evT (sgm vops vbs env0 envF m0) x.2.1, evT (sgm vops vbs env0 envF m0) x.2.2) := ⟨_, rfl⟩
  have eget : ∀ (q i : Nat) (k v : Operand), ins[q]? = some (i, k, v) → es[q]? = some (evT (sgm vops vbs env0 envF m0) k, evT (sgm vops vbs env0 envF m0) v) := fun q i k v h => by rw [hes, List.getElem?_map, h]; rfl
  rw [← hes] at hdist
  obtain ⟨ut, hk, _⟩ := hM _ _ _ _ _ hmt
  have c1' : w.heap[b]? = some (.map entries entries.size) := (I.hb.below.block b (.inr rfl)).trans c1
  obtain ⟨kn, ka, hkey⟩ : ∃ n a, evT (sgm vops vbs env0 envF m0) kk = .s n a := hdist.text _ (List.mem_of_getElem? (eget q i kk vv hq))
  have hkr : RV ι (V.s kn ka) (a.eval kk) := by rw [← hkey]; exact σk ι
  have hjs : ∀ (x q' : Nat), js[x]? = some q' → ∃ p, es[q']? = some p := fun x q' hx => let ⟨i', k', v', _, h1, _⟩ := c4 x q' hx; ⟨_, eget q' i' k' v' h1⟩
  have hnot : ∃ r, findE 0 (.s kn ka) (js.map fun j => es.getD j (.j, .j)) = some r ∧ r = none := by
    have mem : ∀ p ∈ js.map fun j => es.getD j (.j, .j), p ∈ es := fun p hp => by
      obtain ⟨j, h1, rfl⟩ := List.mem_map.1 hp
      obtain ⟨x, h2⟩ := List.getElem?_of_mem h1
      obtain ⟨p, h3⟩ := hjs x j h2
      rw [List.getD_eq_getElem?_getD, h3]
      exact List.mem_of_getElem? h3
    obtain ⟨r, e1, _, s1⟩ := find_text (n := kn) (a := ka) (m := js.map fun j => es.getD j (.j, .j)) fun p hp => hdist.text p (mem p hp)
    refine ⟨r, e1, ?_⟩
    cases r with
    | none => rfl
    | some x =>
      exfalso
      obtain ⟨p, h1, h2⟩ := s1 x rfl
      rw [List.getElem?_map] at h1
      cases hx : js[x]? with
      | none => rw [hx] at h1; cases h1
      | some q' =>
        rw [hx] at h1
        obtain ⟨p', h3⟩ := hjs x q' hx
        have e : p' = p := by
          have h1 : es.getD q' (.j, .j) = p := Option.some.inj h1
          rw [List.getD_eq_getElem?_getD, h3] at h1; exact h1
        have hqq := hdist.one q' q p' _ h3 (eget q i kk vv hq) (by rw [e, h2]; exact hkey.symm)
        subst hqq
        obtain ⟨i', k', v', h4, h5⟩ := (c3 q').1 (List.mem_of_getElem? hx)
        rw [hq] at h4; cases h4
        rw [hun] at h5; cases h5
  obtain ⟨r0, hf, hr0⟩ := hnot
  subst hr0
  obtain ⟨k1, k2⟩ := key_check hk (key := .s kn ka) rfl hkr w false
  obtain ⟨r, f1, f2⟩ := key_find hk hkr w (es := entries.toList) hf (by simpa using c2) (fun x k' v' hx => by
    rw [List.getElem?_map] at hx
    cases hjx : js[x]? with
    | none => rw [hjx] at hx; cases hx
    | some q' =>
      rw [hjx] at hx
      obtain ⟨i', k2, v2, me, d1, d2, d3, d4⟩ := c4 x q' hjx
      have hx : es.getD q' (.j, .j) = (k', v') := Option.some.inj hx
      rw [List.getD_eq_getElem?_getD, eget q' i' k2 v2 d1] at hx
      have hx : (evT (sgm vops vbs env0 envF m0) k2, evT (sgm vops vbs env0 envF m0) v2) = (k', v') := hx
      cases hx
      exact ⟨me, by simpa using d2, d3⟩)
  have f2 : r = none := f2
  subst f2
  have hmv : a.eval (.tmp dm) = .map (some b) := htm
  obtain ⟨entries', hen⟩ : ∃ entries' : Array MapEntry, entries' = entries.push { key := a.eval kk, val := a.eval vv, born := entries.size } := ⟨_, rfl⟩
  have hrun : (execOp a.eval o).run P w = .ok .skip { w with heap := w.heap.setIfInBounds b (.map entries' entries'.size) } := by
    rw [hen]
    simp [execOp, hop, hmv, Instr.mapUpdate, run_underlying ut, Go.MapKept.run_getObj_map c1', k1, f1, Result.andThen, Go.MapKept.run_setObj_map _ c1']
  have hbl : b < w.heap.size := (Array.getElem?_eq_some_iff.1 c1').1
  unfold wpOp
  simp only [hoa]
  have hw : Region.wanted o (yielded ops.toArray a.tmps) = true := by simp [Region.wanted, hgd]
  rw [if_pos hw]
  refine .inl ?_
  unfold Oper.wp
  rw [hrun]
  show LZ ops vops vbs tm ts ins m0 dm env0 envF Hb He sg N F ι0 (listed.setIfInBounds i true) (a.put o.dst undef) { w with heap := w.heap.setIfInBounds b (.map entries' entries'.size) }
  rw [hds]
  show LZ ops vops vbs tm ts ins m0 dm env0 envF Hb He sg N F ι0 (listed.setIfInBounds i true) a { w with heap := w.heap.setIfInBounds b (.map entries' entries'.size) }
  obtain ⟨w', hw'⟩ : ∃ w' : World, w' = { w with heap := w.heap.setIfInBounds b (.map entries' entries'.size) } := ⟨_, rfl⟩
  have hnp : ¬ F.pr b := fun hp => by have := F.lt b hp; omega
  have hfb' : FB F w' := by subst hw'; exact hfb.behind I.hb.below hnp _
  have hlt' : (∀ x, F.pr x ∨ x = b → x < w'.heap.size) ∧ Gi w' := ⟨fun x hx => by
    rw [hw']
    simp only [Array.size_setIfInBounds]
    exact Nat.lt_of_lt_of_le (hlt.1 x hx) I.hb.below.size, hfb'.gi⟩
  have hb2 : HR (F.prot b w' hlt') ι (He k).1 (He k).2 w' := by subst hw'; exact I.hb.behind _ hlt'
  have c1n : w'.heap[b]? = some (.map entries' entries'.size) := by rw [hw']; simp [hbl]
  have hcon : Content ins (evT (sgm vops vbs env0 envF m0)) ι w' b (listed.setIfInBounds i true) := by
    refine ⟨js ++ [q], entries', c1n, by rw [hen]; simp [c2], fun q' => ?_, fun x q' hx => ?_⟩
    · rw [List.mem_append, List.mem_singleton, c3]
      constructor
      · rintro (⟨i', k', v', h1, h2⟩ | rfl)
        · have hne : i' ≠ i := fun e => by rw [e, hun] at h2; cases h2
          exact ⟨i', k', v', h1, by rw [set_get_ne hne]; exact h2⟩
        · exact ⟨i, kk, vv, hq, set_get hil⟩
      · rintro ⟨i', k', v', h1, h2⟩
        by_cases hne : i' = i
        · subst hne; exact .inr (L.insn _ _ _ _ _ _ _ h1 hq)
        · rw [set_get_ne hne] at h2; exact .inl ⟨i', k', v', h1, h2⟩
    · rw [List.getElem?_append] at hx
      split at hx
      · rename_i hxl
        obtain ⟨i', k', v', me, d1, d2, d3⟩ := c4 x q' hx
        exact ⟨i', k', v', me, d1, by rw [hen, Array.getElem?_push, if_neg (by omega)]; exact d2, d3⟩
      · rename_i hxl
        have hx0 : x = js.length := by
          have := (List.getElem?_eq_some_iff.1 hx).1
          simp at this; omega
        subst hx0
        simp at hx
        subst hx
        exact ⟨i, kk, vv, _, hq, by rw [hen, Array.getElem?_push, if_pos c2.symm], σk ι, σv⟩
  obtain ⟨htmi, ov, hv1, hv2, hv3⟩ := L.insv i ⟨q, kk, vv, hq⟩
  have hbi := lit_ahead L S2 hcl ho hall h0
  have I2 : Inv vops vbs tm ts env0 envF Hb He sg N (F.prot b w' hlt') ι0 k ι (vp ins m0 listed) a w' := ⟨I.kM, I.cp, I.tv, I.t1, I.t2, I.ex, hb2, I.rv, I.pd, I.mon1, I.mon2⟩
  have I3 := I2.noop S hv1 hv3 hv2 htmi hbi
  rw [← hw']
  by_cases hfull : AllIn ins m0 (listed.setIfInBounds i true)
  case neg =>
    have ev : vp ins m0 (listed.setIfInBounds i true) = upd (vp ins m0 listed) i := by
      funext j
      by_cases hj : j = m0
      · subst hj
        rw [upd_ne _ (Ne.symm h0), vp_m0f hfull, vp_m0f hna]
      · by_cases hji : j = i
        · subst hji
          rw [upd_same, vp_ne hj]; exact set_get hil
        · rw [upd_ne _ hji, vp_ne hj, vp_ne hj]; exact set_get_ne hji
    exact ⟨by simpa using hsz, K.closed_set hcl hi, .inr ⟨by rw [set_get_ne (Ne.symm h0)]; exact hm0, hfull, k, ι, b, w', hlt', by rw [ev]; exact I3, hfb', hge, htm, hcon⟩⟩
  obtain ⟨o0, z1, z2, z3, z4, z5⟩ := L.v0
  have ev : vp ins m0 (listed.setIfInBounds i true) = upd (upd (vp ins m0 listed) i) m0 := by
    funext j
    by_cases hj : j = m0
    · subst hj
      rw [upd_same, vp_m0.2 hfull]
    · rw [upd_ne _ hj]
      by_cases hji : j = i
      · subst hji
        rw [upd_same, vp_ne hj]; exact set_get hil
      · rw [upd_ne _ hji, vp_ne hj, vp_ne hj]; exact set_get_ne hji
  have hcl' := K.closed_set hcl hi
  have pm0 : upd (vp ins m0 listed) i m0 = false := by rw [upd_ne _ (Ne.symm h0), vp_m0f hna]
  have ahead : ∀ j, tb (bAt vbs m0) j = true → upd (vp ins m0 listed) i j = true := fun j hj => by
    obtain ⟨h1, h2⟩ := L.vb0 j hj
    have key : (listed.setIfInBounds i true).getD j false = true := by
      rcases h2 with h2 | ⟨i', h2, h3⟩
      · obtain ⟨om, q1, _⟩ := L.m0o
        exact S2.sound _ hcl' m0 om q1 (hcl' m0 om q1 hfull.1) j h2
      · obtain ⟨q', k', v', h4⟩ := h2
        obtain ⟨_, _, _, _, oi, h5, _⟩ := L.inso q' i' k' v' h4
        exact S2.sound _ hcl' i' oi h5 (hcl' i' oi h5 (hfull.2 i' ⟨q', k', v', h4⟩)) j h3
    by_cases hji : j = i
    · subst hji; exact upd_same _ _
    · rw [upd_ne _ hji, vp_ne h1]
      rw [set_get_ne hji] at key; exact key
  have hcm : Compat vbs ts m0 k := ⟨fun j c h1 h2 => (I3.tv j c h1).1 (ahead c h2), fun j c h1 h2 => by
    cases hx : tb (bAt vbs c) m0 with
    | false => rfl
    | true => have := I3.cp c m0 ((I3.tv j c h1).2 h2) hx; rw [pm0] at this; cases this⟩
  obtain ⟨hsg, v, hV, hx⟩ := A.st k I3.kM m0 o0 z1 L.m0t hcm
  have hwant : wantS vops o0 (sgm vops vbs env0 envF m0) = some true := by unfold wantS; rw [z4]
  rcases hx with ⟨hx, _⟩ | ⟨_, hx⟩
  · rw [hwant] at hx; cases hx
  rcases hx with ⟨hx, _⟩ | ⟨_, id, x, mk, hx, hvm, hg⟩
  · exact absurd z3 hx
  unfold AlX at hx
  rw [z2] at hx
  obtain ⟨hx1, hx2, _⟩ := hx
  rw [pairs_flat, List.map_map] at hx1
  have hx1 : x = .lm es := by rw [hx1, hes]; rfl
  subst hx2 hx1
  have hvid : vId (rd envF dm) = some id := by rw [hV dm z5, hvm]; rfl
  obtain ⟨l1, l2, l3⟩ := Inv.idf A I3 z1 L.m0t z3 z5 hvid hsg
  have hnone := I3.pd m0 o0 dm id z1 L.m0t z3 z5 hvid pm0 hsg
  have hbF : HR F ι (He k).1 (He k).2 w' := hb2.out hfb'
  obtain ⟨js', entries2, d1, d2, d3, d4⟩ := hcon
  rw [c1n] at d1
  have d1 := (Obj.map.inj (Option.some.inj d1)).1
  subst d1
  have hext : Ext ι (upI ι id ⟨b, 0, 0⟩) := fun o pl' e => by rw [upI_ne]; exact e; intro e'; rw [e', hnone] at e; cases e
  have hok : OOk (upI ι id ⟨b, 0, 0⟩) w' ⟨b, 0, 0⟩ (.lm es) := by
    refine ⟨hdist, js', entries', c1n, d2, fun j hj => ?_, fun x q' hx => ?_⟩
    · have hjl : j < ins.length := by rw [hes] at hj; simpa using hj
      have : ins[j]? = some (ins[j].1, ins[j].2.1, ins[j].2.2) := List.getElem?_eq_getElem hjl
      exact (d3 j).2 ⟨_, _, _, this, hfull.2 _ ⟨j, _, _, this⟩⟩
    · obtain ⟨i', k', v', me, e1, e2, e3, e4⟩ := d4 x q' hx
      exact ⟨_, me, eget q' i' k' v' e1, e2, e3.mono hext, e4.mono hext⟩
  obtain ⟨hbN, _⟩ := hbF.show l1 l3 hnone l2 hg ⟨b, 0, 0⟩ hnp (by rw [hw']; simpa using hbl) (hb2.seen) hok
  refine ⟨by simpa using hsz, hcl', .inl ⟨.inr hfull, k, upI ι id ⟨b, 0, 0⟩, ?_⟩⟩
  rw [ev]
  have gj : ∀ j, j ≠ m0 → upd (upd (vp ins m0 listed) i) m0 j = upd (vp ins m0 listed) i j := fun j hj => upd_ne _ hj
  refine ⟨I3.kM, fun j y hj hy => ?_, fun j c hc => ?_, I3.t1, I3.t2, I3.ex.trans hext, hbN, fun t => ?_, fun j oj d' id' e1 e2 e3 e4 e5 e6 e7 => ?_, I3.mon1, I3.mon2⟩
  · by_cases hy0 : y = m0
    · rw [hy0]; exact upd_same _ _
    · rw [gj y hy0]
      by_cases hj0 : j = m0
      · rw [hj0] at hy; exact ahead y hy
      · rw [gj j hj0] at hj; exact I3.cp j y hj hy
  · have hc0 : c ≠ m0 := fun e => by have := ((S.tin c).1 (List.mem_of_getElem? hc)).1; rw [e, L.m0t] at this; cases this
    rw [gj c hc0]; exact I3.tv j c hc
  · by_cases ht : t = dm
    · subst ht
      have e : sv vops (upd (upd (vp ins m0 listed) i) m0) envF env0 t = .mp id := by
        unfold sv
        rw [if_pos ⟨m0, ⟨o0, z1, z5⟩, upd_same _ _⟩]
        exact (hV t z5).trans hvm
      rw [e]
      exact ⟨⟨b, 0, 0⟩, upI_same _ _ _, htm⟩
    · have e : sv vops (upd (upd (vp ins m0 listed) i) m0) envF env0 t = sv vops (upd (vp ins m0 listed) i) envF env0 t := by
        unfold sv
        have hne : ∀ j, W vops j t → j ≠ m0 := fun j ⟨oj, h2, h3⟩ e => by rw [e, z1] at h2; cases h2; rw [z5] at h3; exact ht (Option.some.inj h3).symm
        have : (∃ j, W vops j t ∧ upd (upd (vp ins m0 listed) i) m0 j = true) ↔ ∃ j, W vops j t ∧ upd (vp ins m0 listed) i j = true :=
          ⟨fun ⟨j, h2, h3⟩ => ⟨j, h2, by rw [gj j (hne j h2)] at h3; exact h3⟩, fun ⟨j, h2, h3⟩ => ⟨j, h2, by rw [gj j (hne j h2)]; exact h3⟩⟩
        by_cases hc2 : ∃ j, W vops j t ∧ upd (vp ins m0 listed) i j = true
        · rw [if_pos hc2, if_pos (this.2 hc2)]
        · rw [if_neg hc2, if_neg fun hh => hc2 (this.1 hh)]
      rw [e]; exact (I3.rv t).mono hext
  · have hj0 : j ≠ m0 := fun e => by rw [e, upd_same] at e6; cases e6
    rw [gj j hj0] at e6
    have hne : id' ≠ id := fun e => by
      subst e
      by_cases hs : sg j = sg m0
      · exact hj0 (A.ald j oj d' id' m0 o0 dm e1 e2 e3 e4 e5 z1 L.m0t z3 z5 hvid hs)
      · obtain ⟨_, q1, q2⟩ := A.al j oj d' id' e1 e2 e3 e4 e5
        obtain ⟨_, q3, q4⟩ := A.al m0 o0 dm id' z1 L.m0t z3 z5 hvid
        rcases Nat.lt_or_gt_of_ne hs with h1 | h1
        · have := I3.mon2 (sg j) (sg m0) h1 hsg; omega
        · have := I3.mon2 (sg m0) (sg j) h1 e7; omega
    rw [upI_ne _ _ hne]
    exact I3.pd j oj d' id' e1 e2 e3 e4 e5 e6 e7
include L S S2 hch A hN hM hmt hdm in
theorem lit_run (hm : P.follows .mixedOrders = true) {id : Nat} : WX P N (.region id ops.toArray true) env0 a0.1 a0.2 .normal envF aF.1 aF.2 := by
  intro F ι0 a w hx
  obtain ⟨h1, h2, h3, ι, he, hb, hv⟩ := hx
  have hb' : HR F ι a0.1 a0.2 { w with drawn := w.drawn + 1 } := hb.grown ⟨rfl, rfl, rfl, Nat.le_refl _, fun _ _ _ => rfl⟩ (Nat.le_succ _)
  have z : ∀ j, (Array.replicate ops.length false).getD j false = false := fun j => by
    simp [Array.getD_eq_getD_getElem?, Array.getElem?_replicate]; split <;> rfl
  have z' : ∀ j, (Array.replicate ops.toArray.size false).getD j false = false := fun j => by simpa using z j
  have done : ∀ (listed : Array Bool) (a : Act) (w : World), LZ ops vops vbs tm ts ins m0 dm env0 envF Hb He sg N F ι0 listed a w → (∀ i, i < ops.length → listed.getD i false = true) → XRel N F ι0 envF aF.1 aF.2 a w := by
    intro listed a w ⟨_, _, Z⟩ hall
    have hful : AllIn ins m0 listed := by
      obtain ⟨om, q1, _⟩ := L.m0o
      exact ⟨hall m0 (List.getElem?_eq_some_iff.1 q1).1, fun i ⟨q, k, v, h4⟩ => by
        obtain ⟨_, _, _, _, oi, h5, _⟩ := L.inso q i k v h4
        exact hall i (List.getElem?_eq_some_iff.1 h5).1⟩
    rcases Z with ⟨_, k, ι, I⟩ | ⟨_, hna, _⟩
    · refine inv_done S A hN (fun i hi => ?_) I
      by_cases e : i = m0
      · subst e; exact vp_m0.2 hful
      · rw [vp_ne e]; exact hall i (by rw [← L.len]; exact hi)
    · exact absurd hful hna
  have step : ∀ (Q' : Exit → Act → World → Prop) (listed : Array Bool) (a : Act) (w : World), LZ ops vops vbs tm ts ins m0 dm env0 envF Hb He sg N F ι0 listed a w → ∀ i ∈ Region.ready .any ops.toArray listed,
      wpOp P ops.toArray Q' i (LZ ops vops vbs tm ts ins m0 dm env0 envF Hb He sg N F ι0 (listed.setIfInBounds i true)) a w := by
    intro Q' listed a w Z i hi
    by_cases h0 : i = m0
    · subst h0; exact lit_made L S S2 hN hdm Z hi Q'
    · by_cases hin : IsIns ins i
      · exact lit_entry L S S2 A hM hmt Z hi hin Q'
      · exact lit_other L S S2 hch A hN Z hi h0 hin Q'
  have strt : ∀ j, vp ins m0 (Array.replicate ops.toArray.size false) j = false := fun j => by
    by_cases e : j = m0
    · subst e; exact vp_m0f fun h => by have := h.1; rw [z' j] at this; cases this
    · rw [vp_ne e]; exact z' j
  refine wp_region_any hm (any_run (Z := LZ ops vops vbs tm ts ins m0 dm env0 envF Hb He sg N F ι0) S2.back (fun _ _ _ h => h.1)
    (fun listed a w Z hall => ⟨rfl, done listed a w Z hall⟩) (step _) _ _ _ _ (by simpa using unl_le _ ops.length) ⟨by simp, fun i o ho hl => (by rw [z' i] at hl; cases hl), .inl ⟨.inl (z' m0), 0, ι, inv_start A strt h1 h2 he hb' hv⟩⟩)
end
end Go.Proofs.Nw.X
end
section
/- X22: .. and their evaluator. -/
open Go Go.RowKit
namespace Go.Proofs.Nw.X
open Go.Proofs.Nw.K
noncomputable def insOf (l : List Oper) : Nat → Ins :=
  List.rec (motive := fun _ => Nat → Ins) (fun _ => []) (fun o _ ih i => match o.op with
    | .insert _ _ k v => (i, k, v) :: fN (Nat.succ i) ih
    | _ => fN (Nat.succ i) ih) l
noncomputable def litHd (l : List Oper) : Option (TypeId × Nat) := List.rec none (fun o _ ih => match o.op with | .insert mt (.tmp dm) _ _ => some (mt, dm) | _ => ih) l
noncomputable def mkAt (dm : Nat) (l : List Oper) : Nat → Nat :=
  List.rec (motive := fun _ => Nat → Nat) (fun _ => 0) (fun o _ ih i => match o.dst with | some d => cond (Nat.beq d dm) i (fN (Nat.succ i) ih) | none => fN (Nat.succ i) ih) l
noncomputable def vop (m0 : Nat) (args : List Operand) (i : Nat) (o : Oper) : Oper :=
  cond (Nat.beq i m0) { o with op := .call ⟨.builtin .print, ⟨args⟩, #[]⟩ } (match o.op with | .insert _ _ _ _ => { o with op := .assign (.const (.bool true)) } | _ => o)
noncomputable def mapI {α : Type} (f : Nat → α → α) (l : List α) : Nat → List α := List.rec (motive := fun _ => Nat → List α) (fun _ => []) (fun o _ ih i => f i o :: fN (Nat.succ i) ih) l
noncomputable def del (m i : Nat) : Nat := Nat.xor m (Nat.land m (Nat.pow 2 i))
noncomputable def lmOf (m0 : Nat) (ins : Ins) : Nat := List.rec (put1 0 m0) (fun p _ ih => put1 ih p.1) ins
noncomputable def orI (rbs : List Nat) (m0 : Nat) (ins : Ins) : Nat := List.rec (bAt rbs m0) (fun p _ ih => Nat.lor ih (bAt rbs p.1)) ins
noncomputable def vbm (m0 lm or0 : Nat) (i b : Nat) : Nat := cond (Nat.beq i m0) (del or0 m0) (cond (sub lm b) b (del b m0))
theorem insOf_cons (o : Oper) (l : List Oper) (i : Nat) : insOf (o :: l) i = (match o.op with | .insert _ _ k v => (i, k, v) :: insOf l (i + 1) | _ => insOf l (i + 1)) := by
  show (match o.op with | .insert _ _ k v => (i, k, v) :: fN (Nat.succ i) (insOf l) | _ => fN (Nat.succ i) (insOf l)) = _
  rw [fN_eq]
theorem insOf_is : ∀ {l : List Oper} {i0 q i : Nat} {k v : Operand}, (insOf l i0)[q]? = some (i, k, v) → i0 ≤ i ∧ ∃ o t m, l[i - i0]? = some o ∧ o.op = .insert t m k v
  | [], i0, q, i, k, v, h => by have h : ([] : Ins)[q]? = some (i, k, v) := h; simp at h
  | o :: l, i0, q, i, k, v, h => by
    have go : ∀ q, (insOf l (i0 + 1))[q]? = some (i, k, v) → i0 ≤ i ∧ ∃ o' t m, (o :: l)[i - i0]? = some o' ∧ o'.op = .insert t m k v := fun q h => by
      obtain ⟨h1, o', t, m, h2, h3⟩ := insOf_is h
      exact ⟨by omega, o', t, m, by rw [show i - i0 = (i - (i0 + 1)) + 1 by omega]; simpa using h2, h3⟩
    rw [insOf_cons] at h
    split at h
    · rename_i t m k' v' ho
      cases q with
      | zero =>
        simp at h
        obtain ⟨rfl, rfl, rfl⟩ := h
        exact ⟨Nat.le_refl _, o, t, m, by simp, ho⟩
      | succ q => exact go q (by simpa using h)
    · exact go q h
theorem insOf_all : ∀ {l : List Oper} {i0 i : Nat} {o : Oper} {t : TypeId} {m k v : Operand}, l[i]? = some o → o.op = .insert t m k v → ∃ q : Nat, (insOf l i0)[q]? = some (i0 + i, k, v)
  | [], i0, i, o, t, m, k, v, h, ho => by simp at h
  | o' :: l, i0, 0, o, t, m, k, v, h, ho => by
    simp at h
    subst h
    refine ⟨0, ?_⟩
    rw [insOf_cons, ho]
    rfl
  | o' :: l, i0, i + 1, o, t, m, k, v, h, ho => by
    obtain ⟨q, h1⟩ := insOf_all (i0 := i0 + 1) (show l[i]? = some o by simpa using h) ho
    rw [show i0 + 1 + i = i0 + (i + 1) by omega] at h1
    rw [insOf_cons]
    split
    · exact ⟨q + 1, by simpa using h1⟩
    · exact ⟨q, h1⟩
theorem insOf_lt : ∀ {l : List Oper} {i0 q q' i i' : Nat} {k v k' v' : Operand}, (insOf l i0)[q]? = some (i, k, v) → (insOf l i0)[q']? = some (i', k', v') → q < q' → i < i'
  | [], i0, q, q', i, i', k, v, k', v', h, _, _ => by have h : ([] : Ins)[q]? = some (i, k, v) := h; simp at h
  | o :: l, i0, q, q', i, i', k, v, k', v', h, h', hlt => by
    rw [insOf_cons] at h h'
    split at h
    · rename_i t m k1 v1 ho
      rw [ho] at h'
      have h' : ((i0, k1, v1) :: insOf l (i0 + 1))[q']? = some (i', k', v') := h'
      cases q' with
      | zero => omega
      | succ q' =>
        have h2 : (insOf l (i0 + 1))[q']? = some (i', k', v') := by simpa using h'
        cases q with
        | zero =>
          simp at h
          have := (insOf_is h2).1
          omega
        | succ q => exact insOf_lt (show (insOf l (i0 + 1))[q]? = some (i, k, v) by simpa using h) h2 (by omega)
    · rename_i hno
      have h2 : (insOf l (i0 + 1))[q']? = some (i', k', v') := by
        split at h'
        · rename_i t m k1 v1 ho; exact absurd ho (hno t m k1 v1)
        · exact h'
      exact insOf_lt h h2 hlt
theorem mapI_get {α : Type} {f : Nat → α → α} : ∀ {l : List α} {i0 i : Nat}, (mapI f l i0)[i]? = (l[i]?).map (f (i0 + i))
  | [], i0, i => by show ([] : List α)[i]? = _; simp
  | o :: l, i0, i => by
    show (f i0 o :: fN (Nat.succ i0) (mapI f l))[i]? = _
    rw [fN_eq]
    cases i with
    | zero => simp
    | succ i =>
      have := mapI_get (f := f) (l := l) (i0 := i0 + 1) (i := i)
      rw [show i0 + 1 + i = i0 + (i + 1) by omega] at this
      simpa using this
theorem mapI_len {α : Type} {f : Nat → α → α} : ∀ {l : List α} {i0 : Nat}, (mapI f l i0).length = l.length
  | [], i0 => rfl
  | o :: l, i0 => by
    show (f i0 o :: fN (Nat.succ i0) (mapI f l)).length = _
    rw [fN_eq, List.length_cons, List.length_cons, mapI_len]
theorem tb_del (m i j : Nat) : tb (del m i) j = (tb m j && !decide (j = i)) := by
  unfold del
  rw [tb_eq, tb_eq]
  show (m ^^^ (m &&& 2 ^ i)).testBit j = _
  rw [Nat.testBit_xor, Nat.testBit_and, Nat.testBit_two_pow]
  by_cases h : i = j
  · subst h; cases m.testBit i <;> simp
  · have h' : ¬ j = i := fun e => h e.symm
    simp [h, h']
theorem lmOf_tb {m0 : Nat} : ∀ {ins : Ins} {q i : Nat} {k v : Operand}, ins[q]? = some (i, k, v) → tb (lmOf m0 ins) i = true
  | [], q, i, k, v, h => by simp at h
  | p :: r, q, i, k, v, h => by
    show tb (put1 (lmOf m0 r) p.1) i = true
    rw [tb_put]
    cases q with
    | zero => simp at h; subst h; simp
    | succ q => rw [lmOf_tb (m0 := m0) (show r[q]? = some (i, k, v) by simpa using h)]; rfl
theorem orI_tb {rbs : List Nat} {m0 j : Nat} : ∀ {ins : Ins}, tb (orI rbs m0 ins) j = true → tb (bAt rbs m0) j = true ∨ ∃ i, IsIns ins i ∧ tb (bAt rbs i) j = true
  | [], h => .inl h
  | p :: r, h => by
    have h : tb (Nat.lor (orI rbs m0 r) (bAt rbs p.1)) j = true := h
    rw [tb_lor, Bool.or_eq_true] at h
    rcases h with h | h
    · rcases orI_tb h with h | ⟨i, ⟨q, k, v, h1⟩, h2⟩
      · exact .inl h
      · exact .inr ⟨i, ⟨q + 1, k, v, by simpa using h1⟩, h2⟩
    · exact .inr ⟨p.1, ⟨0, p.2.1, p.2.2, rfl⟩, h⟩
theorem tsOf_is {p : Op → Bool} : ∀ {l : List Oper} {i0 c : Nat}, c ∈ tsOf p l i0 → i0 ≤ c ∧ ∃ o, l[c - i0]? = some o ∧ p o.op = true
  | [], i0, c, h => by cases h
  | o :: l, i0, c, h => by
    have e : tsOf p (o :: l) i0 = cond (p o.op) (i0 :: tsOf p l (i0 + 1)) (tsOf p l (i0 + 1)) := by
      show cond (p o.op) (i0 :: fN (Nat.succ i0) (tsOf p l)) (fN (Nat.succ i0) (tsOf p l)) = _
      rw [fN_eq]
    rw [e] at h
    have go : c ∈ tsOf p l (i0 + 1) → i0 ≤ c ∧ ∃ o', (o :: l)[c - i0]? = some o' ∧ p o'.op = true := fun h => by
      obtain ⟨h1, o', h2, h3⟩ := tsOf_is h
      exact ⟨by omega, o', by rw [show c - i0 = (c - (i0 + 1)) + 1 by omega]; simpa using h2, h3⟩
    cases hp : p o.op with
    | false => rw [hp] at h; exact go h
    | true =>
      rw [hp] at h
      rcases List.mem_cons.1 h with rfl | h
      · exact ⟨Nat.le_refl _, o, by simp, hp⟩
      · exact go h
section
variable (ops : List Oper) (rbs : List Nat) (mt dm m0 : Nat)
noncomputable def slI (i t : Nat) : Bool := allI (fun j oj => match oj.dst with | some d => cond (Nat.beq d t) (cond (tb (bAt rbs i) j) (cond (Nat.beq j m0) false true) false) true | none => true) ops 0
noncomputable def chkL (i : Nat) (o : Oper) : Bool :=
  cond (Nat.beq i m0)
    (match o.op, o.guard, o.dst with | .makeMap t none, none, some d => cond (Nat.beq t mt) (Nat.beq d dm) false | _, _, _ => false)
    (match o.op with
      | .insert t m (.const _) v => (match m, o.guard, o.dst with
        | .tmp d, none, none => cond (Nat.beq t mt) (cond (Nat.beq d dm) (cond (tb (bAt rbs i) m0) (match v with | .tmp t => slI ops rbs m0 i t | _ => true) false) false) false
        | _, _, _ => false)
      | .insert _ _ _ _ => false
      | _ => true)
end
noncomputable def chkM (ops vops : List Oper) (rbs vbs : List Nat) (tm len mt dm m0 : Nat) (ins : Ins) : Bool :=
  cond (allI (fun i o => cond (chkA rbs i o) (cond (nlB o.op) (chkL ops rbs mt dm m0 i o) false) false) ops 0)
    (cond (allI (chkB vops vbs tm len) vops 0)
      (cond (match getL m0 ops with | some _ => true | none => false)
        (cond (match ins with | [] => false | _ => true) (distB (mapL (fun x => (evT (fun _ => V.j) x.2.1, V.j)) ins)) false) false) false) false
theorem lit_chk {T : Tab} {ops : List Oper} {rbs : List Nat} {len mt dm m0 : Nat} (h : chkM ops (mapI (vop m0 (flat2 (mapL (·.2) (insOf ops 0)))) ops 0) rbs (mapI (vbm m0 (lmOf m0 (insOf ops 0)) (orI rbs m0 (insOf ops 0))) rbs 0)
      (tmOf (tsOf (isTurn T) (mapI (vop m0 (flat2 (mapL (·.2) (insOf ops 0)))) ops 0) 0)) len mt dm m0 (insOf ops 0) = true) :
    LitOk ops (mapI (vop m0 (flat2 (mapL (·.2) (insOf ops 0)))) ops 0) rbs (mapI (vbm m0 (lmOf m0 (insOf ops 0)) (orI rbs m0 (insOf ops 0))) rbs 0)
      (tmOf (tsOf (isTurn T) (mapI (vop m0 (flat2 (mapL (·.2) (insOf ops 0)))) ops 0) 0)) m0 dm mt (insOf ops 0) ∧ St2 ops rbs ∧
    St (mapI (vop m0 (flat2 (mapL (·.2) (insOf ops 0)))) ops 0) (mapI (vbm m0 (lmOf m0 (insOf ops 0)) (orI rbs m0 (insOf ops 0))) rbs 0)
      (tmOf (tsOf (isTurn T) (mapI (vop m0 (flat2 (mapL (·.2) (insOf ops 0)))) ops 0) 0)) (tsOf (isTurn T) (mapI (vop m0 (flat2 (mapL (·.2) (insOf ops 0)))) ops 0) 0) len := by
  obtain ⟨ins, hins⟩ : ∃ ins, ins = insOf ops 0 := ⟨_, rfl⟩
  obtain ⟨vops, hvops⟩ : ∃ vops, vops = mapI (vop m0 (flat2 (mapL (·.2) (insOf ops 0)))) ops 0 := ⟨_, rfl⟩
  obtain ⟨vbs, hvbs⟩ : ∃ vbs, vbs = mapI (vbm m0 (lmOf m0 (insOf ops 0)) (orI rbs m0 (insOf ops 0))) rbs 0 := ⟨_, rfl⟩
  rw [← hvops, ← hvbs, ← hins] at h ⊢
  unfold chkM at h
  obtain ⟨c1, h⟩ := cond_and h
  obtain ⟨c2, h⟩ := cond_and h
  obtain ⟨c3, h⟩ := cond_and h
  obtain ⟨c4, c5⟩ := cond_and h
  have B : ∀ (i : Nat) (o : Oper), ops[i]? = some o → chkA rbs i o = true ∧ nlB o.op = true ∧ chkL ops rbs mt dm m0 i o = true := fun i o ho => by
    have := allI_ok0 c1 i o ho
    obtain ⟨h1, this⟩ := cond_and this
    exact ⟨h1, cond_and this⟩
  have vget : ∀ i : Nat, vops[i]? = (ops[i]?).map (vop m0 (flat2 (ins.map (·.2))) i) := fun i => by
    rw [hvops, mapI_get, Nat.zero_add, ← hins, mapL_eq]
  have vget' : ∀ (i : Nat) (o : Oper), ops[i]? = some o → vops[i]? = some (vop m0 (flat2 (ins.map (·.2))) i o) := fun i o ho => by rw [vget, ho]; rfl
  obtain ⟨om, hom⟩ : ∃ om, ops[m0]? = some om := by
    rw [getL_eq] at c3
    cases hx : ops[m0]? with
    | none => rw [hx] at c3; cases c3
    | some o => exact ⟨o, rfl⟩
  have hself : ∀ x : Nat, Nat.beq x x = true := fun x => by rw [beq_eq]; simp
  obtain ⟨m1, m2, m3⟩ : om.op = .makeMap mt none ∧ om.guard = none ∧ om.dst = some dm := by
    have := (B m0 om hom).2.2
    unfold chkL at this
    rw [hself] at this
    simp only [cond_true] at this
    split at this
    · rename_i t d e1 e2 e3
      obtain ⟨q1, q2⟩ := cond_and this
      rw [e1, e2, e3, nbeq q1, nbeq q2]
      exact ⟨rfl, rfl, rfl⟩
    · cases this
  have hne : ∀ {i : Nat} {o : Oper} {t : TypeId} {m k v : Operand}, ops[i]? = some o → o.op = .insert t m k v → i ≠ m0 := fun {i o t m k v} h1 h2 e => by
    subst e
    rw [hom] at h1; cases h1
    rw [m1] at h2; cases h2
  have bf : ∀ {i : Nat}, i ≠ m0 → Nat.beq i m0 = false := fun {i} h => by rw [beq_eq]; simp [h]
  have ient : ∀ (q i : Nat) (k v : Operand), ins[q]? = some (i, k, v) → ∃ o t m, ops[i]? = some o ∧ o.op = .insert t m k v := fun q i k v h => by
    rw [hins] at h
    obtain ⟨_, o, t, m, h1, h2⟩ := insOf_is h
    exact ⟨o, t, m, by simpa using h1, h2⟩
  have iall : ∀ {i : Nat} {o : Oper} {t : TypeId} {m k v : Operand}, ops[i]? = some o → o.op = .insert t m k v → IsIns ins i := fun {i o t m k v} h1 h2 => by
    obtain ⟨q, h3⟩ := insOf_all (i0 := 0) h1 h2
    rw [Nat.zero_add, ← hins] at h3
    exact ⟨q, k, v, h3⟩
  have vtm : ∀ (i : Nat) (o : Oper), vops[i]? = some o → isTurn T o.op = false → tb (tmOf (tsOf (isTurn T) vops 0)) i = false := fun i o h1 h2 => by
    cases hx : tb (tmOf (tsOf (isTurn T) vops 0)) i with
    | false => rfl
    | true =>
      obtain ⟨_, o', h3, h4⟩ := tsOf_is (tmOf_tb.1 hx)
      rw [Nat.sub_zero, h1] at h3
      cases h3
      rw [h2] at h4; cases h4
  have vm0 : vops[m0]? = some { om with op := .call ⟨.builtin .print, ⟨flat2 (ins.map (·.2))⟩, #[]⟩ } := by
    rw [vget' m0 om hom]; unfold vop; rw [hself]; rfl
  have bvb : ∀ i, bAt vbs i = (match rbs[i]? with | some b => vbm m0 (lmOf m0 ins) (orI rbs m0 ins) i b | none => 0) := fun i => by
    unfold bAt
    rw [getL_eq, hvbs, mapI_get, Nat.zero_add, ← hins]
    cases rbs[i]? <;> rfl
  have brb : ∀ i, bAt rbs i = (match rbs[i]? with | some b => b | none => 0) := fun i => by
    unfold bAt
    rw [getL_eq]
    cases rbs[i]? <;> rfl
  refine ⟨⟨⟨om, hom, m1, m2, m3⟩, ⟨_, vm0, rfl, rfl, m2, m3⟩, fun q i k v hq => ?_, fun i hin => ?_, fun i h0 hni => ?_, fun q q' i k v k' v' h1 h2 => ?_, ?_, by rw [hvops]; exact mapI_len, fun i => ?_, fun i o ho => ?_, fun i j h0 hj => ?_, fun j hj => ?_, vtm m0 _ vm0 rfl, ?_⟩,
    stA_ok fun i o ho => (B i o ho).1, stB_ok fun i o ho => allI_ok0 c2 i o ho⟩
  · obtain ⟨o, t, m, h1, h2⟩ := ient q i k v hq
    have h0 := hne h1 h2
    have := (B i o h1).2.2
    unfold chkL at this
    rw [bf h0, h2] at this
    simp only [cond_false] at this
    cases k with
    | const c =>
      simp only at this
      split at this
      · rename_i d e1 e2
        obtain ⟨q1, this⟩ := cond_and this
        obtain ⟨q2, this⟩ := cond_and this
        obtain ⟨q3, q4⟩ := cond_and this
        have q1 := nbeq q1
        have q2 := nbeq q2
        subst q1 q2
        refine ⟨h0, q3, ⟨c, rfl⟩, fun t' j ev hw => ?_, o, h1, h2, e1, e2⟩
        subst ev
        simp only at q4
        obtain ⟨oj, w1, w2⟩ := hw
        have := allI_ok0 q4 j oj w1
        simp only [w2, hself, cond_true] at this
        obtain ⟨q5, q6⟩ := cond_and this
        refine ⟨q5, fun e => ?_⟩
        rw [e, hself] at q6; cases q6
      · cases this
    | _ => cases this
  · obtain ⟨q, k, v, hq⟩ := hin
    obtain ⟨o, t, m, h1, h2⟩ := ient q i k v hq
    have h0 := hne h1 h2
    have e : vops[i]? = some { o with op := .assign (.const (.bool true)) } := by
      rw [vget' i o h1]; unfold vop; rw [bf h0, h2]; rfl
    have hd : o.dst = none := by
      have := (B i o h1).2.2
      unfold chkL at this
      rw [bf h0, h2] at this
      simp only [cond_false] at this
      cases k with
      | const c =>
        simp only at this
        split at this
        · assumption
        · cases this
      | _ => cases this
    exact ⟨vtm i _ e rfl, _, e, rfl, hd⟩
  · rw [vget]
    cases ho : ops[i]? with
    | none => rfl
    | some o =>
      refine congrArg some ?_
      unfold vop
      rw [bf h0]
      simp only [cond_false]
      split
      · rename_i t m k v h2; exact absurd (iall ho h2) hni
      · rfl
  · rcases Nat.lt_trichotomy q q' with hlt | hlt | hlt
    · rw [hins] at h1 h2; have := insOf_lt h1 h2 hlt; omega
    · exact hlt
    · rw [hins] at h1 h2; have := insOf_lt h2 h1 hlt; omega
  · cases ins with
    | nil => cases c4
    | cons x r => exact ⟨x, rfl⟩
  · rw [vget]
    cases ho : ops[i]? with
    | none => rfl
    | some o =>
      show (vop m0 _ i o).dst = o.dst
      unfold vop
      cases Nat.beq i m0
      · simp only [cond_false]; split <;> rfl
      · rfl
  · have := (B i o ho).2.1
    unfold nlB at this
    split at this
    · cases this
    · assumption
  · rw [bvb] at hj
    rw [brb]
    cases hb : rbs[i]? with
    | none => rw [hb] at hj; simp only at hj; rw [tb_zero] at hj; cases hj
    | some b =>
      rw [hb] at hj
      simp only [vbm, bf h0, cond_false] at hj
      cases hs : sub (lmOf m0 ins) b with
      | true => rw [hs] at hj; exact ⟨hj, fun _ i' ⟨q, k, v, h1⟩ => sub_ok hs (lmOf_tb h1)⟩
      | false =>
        rw [hs] at hj
        simp only [cond_false] at hj
        rw [tb_del, Bool.and_eq_true] at hj
        exact ⟨hj.1, fun e => by rw [e] at hj; simp at hj⟩
  · rw [bvb] at hj
    cases hb : rbs[m0]? with
    | none => rw [hb] at hj; simp only at hj; rw [tb_zero] at hj; cases hj
    | some b =>
      rw [hb] at hj
      simp only [vbm, hself, cond_true] at hj
      rw [tb_del, Bool.and_eq_true] at hj
      exact ⟨fun e => by rw [e] at hj; simp at hj, orI_tb hj.1⟩
  · rw [mapL_eq] at c5; exact distB_ok c5
section
variable (T : Tab) (M : MTab) (cf : FuncId → Fn1)
noncomputable def drM (ops : List Oper) (rbs : List Nat) (mt dm : Nat) (ins : Ins) (env : Env) (h : H) (n : Id) (k : KC) : R :=
  fN (mkAt dm ops 0) fun m0 => fN (lmOf m0 ins) fun lm => fN (orI rbs m0 ins) fun or0 =>
  (fun vops vbs => fN (tmOf (tsOf (isTurn T) vops 0)) fun tm => cnd (chnT vbs (tsOf (isTurn T) vops 0)) (cnd (chkM ops vops rbs vbs tm (lenL env) mt dm m0 ins)
    (goD T M cf vops vbs tm (tsOf (isTurn T) vops 0) 0 0 0 (setL .j dm env) h n k) none) none) (mapI (vop m0 (flat2 (mapL (·.2) ins))) ops 0) (mapI (vbm m0 lm or0) rbs 0)
noncomputable def drL : DR := fun ops env h n k => bsK ops (fun rbs => match litHd ops with
  | some (mt, dm) => (match M mt with
    | some (_, _, 0, _) => drM T M cf ops rbs mt dm (insOf ops 0) env h n k
    | _ => none)
  | none => none) 0 []
noncomputable def hasIns (l : List Oper) : Bool := List.rec false (fun o _ ih => match o.op with | .insert _ _ _ _ => true | _ => ih) l
noncomputable def drF : DR := fun ops env h n k => cnd (hasIns ops) (drL T M cf ops env h n k) (drE T M cf ops env h n k)
end
theorem drL_ok {P : Program} {T : Tab} {M : MTab} {cf : FuncId → Fn1} (O : Ok P T M cf) {N : Nat} (hm : P.follows .mixedOrders = true) : DrOk P N (drL T M cf) := by
  intro id ops env h n k r hr
  unfold drL at hr
  obtain ⟨rbs, e⟩ := bsK_ok (ops := ops) (i := 0) (acc := []) (k := fun rbs => match litHd ops with
  | some (mt, dm) => (match M mt with
    | some (_, _, 0, _) => drM T M cf ops rbs mt dm (insOf ops 0) env h n k
    | _ => none)
  | none => none)
  rw [e] at hr
  split at hr <;> try cases hr
  rename_i mt dm _
  split at hr <;> try cases hr
  rename_i kt et g hmt
  unfold drM at hr
  simp only [fN_eq, lenL_eq, cnd_eq] at hr
  cases hc : chnT (mapI (vbm (mkAt dm ops 0) (lmOf (mkAt dm ops 0) (insOf ops 0)) (orI rbs (mkAt dm ops 0) (insOf ops 0))) rbs 0) (tsOf (isTurn T) (mapI (vop (mkAt dm ops 0) (flat2 (mapL (·.2) (insOf ops 0)))) ops 0) 0) with
  | false => rw [hc] at hr; cases hr
  | true =>
    rw [hc] at hr
    simp only [cond_true] at hr
    generalize hck : chkM _ _ _ _ _ _ _ _ _ _ = ck at hr
    cases ck with
    | false => cases hr
    | true =>
      simp only [cond_true] at hr
      obtain ⟨L, S2, S⟩ := lit_chk hck
      have hlen : (setL V.j dm env).length = env.length := by rw [setL_eq, List.length_set]
      have S' := S
      rw [← hlen] at S'
      obtain ⟨envF, hF, nF, Hb, He, sg, q1, A⟩ := goD_ok O S' hr
      refine ⟨envF, hF, nF, q1, fun F ι0 a w hx => ?_⟩
      have hx' : XRel N F ι0 (setL V.j dm env) h n a w := by
        obtain ⟨h1, h2, h3, ι, he, hb, hv⟩ := hx
        refine ⟨h1, h2, by rw [hlen]; exact h3, ι, he, hb, fun t => ?_⟩
        rw [rd_set]
        split
        · trivial
        · exact hv t
      have hdm : rd (setL V.j dm env) dm = .j := by
        rw [rd_set]
        split
        · rfl
        · rename_i hn
          unfold rd
          rw [getL_eq]
          have : ¬ dm < env.length := fun hl => hn ⟨rfl, hl⟩
          rw [List.getElem?_eq_none (Nat.le_of_not_lt this)]
      exact lit_run L S' S2 (fun j c c' h1 h2 => chnT_ok hc j c c' h1 h2) A (N := N) (by rw [hlen]; exact hx.2.2.1) O.mM hmt hdm hm F ι0 a w hx'
theorem drF_ok {P : Program} {T : Tab} {M : MTab} {cf : FuncId → Fn1} (O : Ok P T M cf) {N : Nat} (hm : P.follows .mixedOrders = true) : DrOk P N (drF T M cf) := by
  intro id ops env h n k r hr
  unfold drF at hr
  rw [cnd_eq] at hr
  cases hi : hasIns ops with
  | true => rw [hi] at hr; exact drL_ok O hm id ops env h n k r hr
  | false => rw [hi] at hr; exact drE_ok O hm id ops env h n k r hr
end Go.Proofs.Nw.X
end
